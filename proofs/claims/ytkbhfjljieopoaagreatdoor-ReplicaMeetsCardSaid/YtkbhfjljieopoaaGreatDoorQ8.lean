import Derived.Test.YtkbhfjljieopoaaGreatDoorEvF
import Derived.Test.YtkbhfjljieopoaaGreatDoorQ4
import Derived.Test.YtkbhfjljieopoaaGreatDoorQ1
import Derived.Test.YtkbhfjljieopoaaGreatDoorQ2
import Derived.Test.YtkbhfjljieopoaaGreatDoorQ3
namespace Go.Proofs.YtkbhfjljieopoaaGreatDoor
set_option maxRecDepth 100000
set_option maxHeartbeats 4000000
open Go.Proofs.Tryz
variable {w w' w0:World}{K:KV}{zf dd:Nat→Value}{b n c o k B i g p j m s z f d c2 hi:Nat}{x r:Int}{a av:Option Addr}{cs ys:List Value}{E t e:TypeId}{xs v:List Int}{cx:Bool}{W4:List Value→World→Prop}{Y5 Z5 K6 W6 X6 Y6 Z6 u7 B7 K7 W7 X7 Y7 Z7 B8 K8 W8 X8 Y8 Z8 l9 n9 u9 B9 K9 W9 X9 Y9 Z9 ia ja ka qa ua xa ya Aa Ba Ca Da Ea Fa Ga Ha:Value}
section
attribute [local irreducible] bin un conv call bY blt slc aT fld aV idx lkp dO gY eSt rng nxt ent ext alc box bld bT ld sto aU dE mkS ifc pick rdy wts aI sti cond bp Gives ae fh fT cOp
open Go.RowKit
theorem kq (h:K (.pointer (some ⟨b,o+0,none⟩)) w):aT Tryz.prog 179 (.pointer (some ⟨b,o,none⟩)) 0 K w:=aK (by kernel_rfl) h
section
variable {w:World}{K:KV}{f:Nat}{e:EV}
theorem Pp {i:Int}(h:K (.bool (bK i)) w):call Tryz.prog 73 #[.int .i64 i] K w:=by
 refine aj (goK func73) (Iw (bM ?_));unfold bK at h;by_cases j:i≥1
 ·rw[show decide (1≤i)=true from decide_eq_true j,Bool.true_and]at h;exact dD j (fU (bO j h))
 ·rw[show decide (1≤i)=false from decide_eq_false j,Bool.false_and]at h;exact dY j (bw j h)
theorem FQ {l:Int}(J:blk w f 179 (evC e))(h:∀w',blk w' f 179 (evC {e with n:=0,a:=0})→Oth f w w'→K (.bool (decide (l≤e.a)&&decide (e.a≤1125899906842624))) w'):call Tryz.prog 108 #[.pointer (some ⟨f,0,none⟩),.int .i64 l] K w:=by
 refine aj (goK func108) (CV (ai (kq (dT (lK (v:=iv e.a) J rfl (bM ?_))))));have u:∀b:Bool,b=(decide (l≤e.a)&&decide (e.a≤1125899906842624))→aU (.pointer (some ⟨f,0,none⟩)) (fun M=>aT Q 179 M 0 fun O=>aT Q 54 O 4 fun U=>sto Q 31 U (cu 0) fun _=>aU (.pointer (some ⟨f,0,none⟩)) fun aa=>aT Q 179 aa 0 fun ad=>aT Q 54 ad 6 fun af=>sto Q 2 af (ci 0) fun _=>K (.bool b)) w:=by
  rintro b rfl;refine ai (kq (eW (eB (fun _=>by kernel_rfl) J (by show 9<14;decide) rfl fun w1 j C=>ai (kq (dT (eB (fun _=>by kernel_rfl) j (by show 11<14;decide) rfl fun w2 h2 I=>?_))))));exact h w2 h2 ⟨I.os.trans C.os,I.tape.trans C.tape,I.output.trans C.output,I.size.trans C.size,fun k hk=>(I.other k hk).trans (C.other k hk)⟩
 by_cases j:e.a≥l
 ·refine dD j (ai (kq (dT (lK (v:=iv e.a) J rfl (fU (bO j ?_))))));exact u _ (by rw[show decide (l≤e.a)=true from decide_eq_true j,Bool.true_and])
 ·refine dY j (bw j ?_);exact u _ (by rw[show decide (l≤e.a)=false from decide_eq_false j,Bool.false_and])
theorem Pt (j:blk w f 179 (evC e))(h:∀w',blk w' f 179 (evC {e with r:=0})→Oth f w w'→K (.bool (decide (0<e.r))) w'):call Tryz.prog 109 #[.pointer (some ⟨f,0,none⟩)] K w:=by
 refine aj (goK func109) (xF (ai (kq (ic (lK (v:=u6 e.r) j rfl (de ?_))))));exact ai (kq (ic (eB (fun _=>by kernel_rfl) j (by show 12<14;decide) rfl fun I u C=>h I u C)))
theorem VU (hb:blk w f 179 (evC e))(h:∀w',blk w' f 179 (evC {e with f:=0,r:=0})→Oth f w w'→K (.bool (decide (0<e.r)&&(decide (0<e.f)&&decide (e.f≠e.r)))) w'):call Tryz.prog 110 #[.pointer (some ⟨f,0,none⟩)] K w:=by
 have U:=hb.drew;refine aj (goK func110) (EE (aH (fun _=>ai) (aH (fun _=>kq) (aH (fun _=>pZ) (aH (v:=u6 e.f) (fun _=>lK U rfl) (aH (fun _=>de) ?_))))))
 have C:∀b:Bool,b=(decide (0<e.f)&&decide (e.f≠e.r))→aU (.pointer (some ⟨f,0,none⟩)) (fun ad=>aT Q 179 ad 0 fun af=>aT Q 54 af 8 fun ag=>sto Q 31 ag (cu 0) fun _=>call Q 109 #[.pointer (some ⟨f,0,none⟩)] fun M w=>aI M true (fun aa=>aa [.bool b] w) (fun k=>k [undef] w) fun O=>pick M (gd O 0) cF K) w.drew:=by
  rintro b rfl;refine ai (kq (pZ (eB (fun _=>by kernel_rfl) U (by show 13<14;decide) rfl fun w1 j I=>Pt (e:={e with f:=0}) j fun w2 h2 J=>?_)));have hh:=h w2 h2 ⟨J.os.trans I.os,J.tape.trans I.tape,J.output.trans I.output,J.size.trans I.size,fun k hk=>(J.other k hk).trans (I.other k hk)⟩;show aI (.bool (decide (0<e.r))) true _ _ _;by_cases u:0<e.r
  ·rw[show decide (0<e.r)=true from decide_eq_true u,Bool.true_and]at hh;exact dD u (bO u hh)
  ·rw[show decide (0<e.r)=false from decide_eq_false u,Bool.false_and]at hh;exact dY u (bw u hh)
 by_cases j:0<e.f
 ·refine dD j (aH (fun _=>ai) (aH (fun _=>kq) (aH (fun _=>pZ) (aH (v:=u6 e.f) (fun _=>lK U rfl) (aH (fun _=>ai) (aH (fun _=>kq) (aH (fun _=>ic) (aH (v:=u6 e.r) (fun _=>lK U rfl) (aH (fun _=>bN) (aH (fun _=>bO j) ?_))))))))));exact C _ (by rw[show decide (0<e.f)=true from decide_eq_true j,Bool.true_and])
 ·refine dY j (aH (fun _=>bw j) ?_);exact C _ (by rw[show decide (0<e.f)=false from decide_eq_false j,Bool.false_and])
theorem Sz (hb:blk w f 179 (evC e))(h:∀w',blk w' f 179 (evC {e with t:=0})→Oth f w w'→K (.bool (bK e.t&&decide (e.t≠e.o))) w'):call Tryz.prog 111 #[.pointer (some ⟨f,0,none⟩)] K w:=by
 have C:=hb.drew;refine aj (goK func111) (EF (aH (fun _=>ai) (aH (fun _=>kq) (aH (fun _=>iD) (aH (v:=iv e.t) (fun _=>lK C rfl) (aH (fun _=>Pp) ?_))))));have j:∀b:Bool,b=(bK e.t&&decide (e.t≠e.o))→aU (.pointer (some ⟨f,0,none⟩)) (fun I=>aT Q 179 I 0 fun J=>aT Q 54 J 5 fun M=>sto Q 3 M (ci 0) fun _=>K (.bool b)) w.drew:=by
  rintro b rfl;exact ai (kq (iD (eB (fun _=>by kernel_rfl) C (by show 10<14;decide) rfl fun w1 U u=>h w1 U ⟨u.os,u.tape,u.output,u.size,u.other⟩)))
 cases O:bK e.t with
 | true =>
  refine kS (aH (fun _=>ai) (aH (fun _=>kq) (aH (fun _=>iD) (aH (v:=iv e.t) (fun _=>lK C rfl) (aH (fun _=>ai) (aH (fun _=>kq) (aH (fun _=>bD) (aH (v:=iv e.o) (fun _=>lK C rfl) (aH (fun _=>bN) (aH (fun _=>bX) ?_))))))))));exact j _ (by rw[O,Bool.true_and])
 | false =>
  refine mE (aH (fun _=>dA) ?_);exact j _ (by rw[O,Bool.false_and])
end
def vN (e:EV):EV:={e with
 n:=if e.k=1∨e.k=2∨e.k=3∨e.k=5 then 0 else e.n
 a:=if e.k=1∨e.k=2∨e.k=3∨e.k=5 then 0 else e.a
 t:=if e.k=5∨e.k=6 then 0 else e.t
 r:=if e.k=3∨e.k=4 then 0 else e.r
 f:=if e.k=4 then 0 else e.f}
def On (e:EV):EV:={e with n:=0,a:=0,t:=0,r:=0,f:=0}
theorem Sp {e:EV}:vN e=On e↔e=pn e:=by
 obtain⟨o,s,J,M,O,U,d4,d5,k,n,t,a,r,f⟩:=e;simp only[vN,On,pn,EV.mk.injEq,true_and];constructor
 ·rintro⟨h,j,u,C,I⟩;refine⟨?_,?_,?_,?_,?_⟩<;>split<;>simp_all
 ·rintro⟨h,j,u,C,I⟩;refine⟨?_,?_,?_,?_,?_⟩<;>split<;>simp_all
section
variable {w:World}{K:KV}{f:Nat}{e:EV}
theorem Tj (U:blk w f 179 (evC e))(h:∀w' e',blk w' f 179 (evC e')→Oth f w w'→(fdE e=true→e'=vN e)→K (.bool (fdE e)) w'):call Tryz.prog 75 #[.pointer (some ⟨f,0,none⟩)] K w:=by
 refine aj (goK func75) (CU (ai (kq (ns (lK (v:=kv8 e.k) U rfl (cA ?_))))));have tr:∀{I w2:World},Oth f w I→Oth f I w2→Oth f w w2:=fun j o2=>⟨o2.os.trans j.os,o2.tape.trans j.tape,o2.output.trans j.output,o2.size.trans j.size,fun k hk=>(o2.other k hk).trans (j.other k hk)⟩
 by_cases M:e.k=1
 ·refine ax M (FQ U fun I J j=>?_);have u:=h I _ J j (fun _=>by unfold vN;rw[M];simp);rwa[show fdE e=(decide (0≤e.a)&&decide (e.a≤1125899906842624))by unfold fdE;rw[if_pos M]]at u
 refine aq M (cA ?_);by_cases O:e.k=2
 ·refine ax O (FQ U fun I J j=>?_);have u:=h I _ J j (fun _=>by unfold vN;rw[O];simp);rwa[show fdE e=(decide (1≤e.a)&&decide (e.a≤1125899906842624))by unfold fdE smE;rw[if_neg M,if_pos O]]at u
 refine aq O (cA ?_);by_cases k3:e.k=3
 ·have e3:fdE e=((decide (1≤e.a)&&decide (e.a≤1125899906842624))&&decide (0<e.r)):=by
   unfold fdE smE;rw[if_neg M,if_neg O,if_pos k3];rfl
  refine ax k3 (FQ U fun I J j=>?_);cases C:(decide (1≤e.a)&&decide (e.a≤1125899906842624))with
  | true =>
   refine kS (Pt (e:={e with n:=0,a:=0}) J fun w2 h2 o2=>bX ?_);have u:=h w2 _ h2 (tr j o2) (fun _=>by unfold vN;rw[k3];simp);rwa[e3,C,Bool.true_and]at u
  | false =>
   refine mE (dA ?_);have u:=h I _ J j (fun hf=>by rw[e3,C]at hf;cases hf);rwa[e3,C,Bool.false_and]at u
 refine aq k3 (cA (BG ?_));by_cases k4:e.k=4
 ·refine ax k4 (VU U fun I J j=>?_);have u:=h I _ J j (fun _=>by unfold vN;rw[k4];simp);rwa[show fdE e=(decide (0<e.r)&&(decide (0<e.f)&&decide (e.f≠e.r)))by
   unfold fdE;rw[if_neg M,if_neg O,if_neg k3,if_pos k4,Bool.eq_iff_iff];simp only[Bool.and_eq_true,decide_eq_true_eq];constructor<;>(rintro⟨a,b,c⟩;exact⟨by omega,by omega,fun h=>c h.symm⟩)]at u
 refine aq k4 (cA ?_);by_cases k5:e.k=5
 ·have e5:fdE e=((decide (1≤e.a)&&decide (e.a≤1125899906842624))&&(bK e.t&&decide (e.t≠e.o))):=by
   unfold fdE smE otE;rw[if_neg M,if_neg O,if_neg k3,if_neg k4,if_pos k5]
  refine ax k5 (FQ U fun I J j=>?_);cases C:(decide (1≤e.a)&&decide (e.a≤1125899906842624))with
  | true =>
   refine kS (Sz (e:={e with n:=0,a:=0}) J fun w2 h2 o2=>bX ?_);have u:=h w2 _ h2 (tr j o2) (fun _=>by unfold vN;rw[k5];simp);rwa[e5,C,Bool.true_and]at u
  | false =>
   refine mE (dA ?_);have u:=h I _ J j (fun hf=>by rw[e5,C]at hf;cases hf);rwa[e5,C,Bool.false_and]at u
 refine aq k5 (cA ?_);by_cases k6:e.k=6
 ·refine ax k6 (Sz U fun I J j=>?_);have u:=h I _ J j (fun _=>by unfold vN;rw[k6];simp);rwa[show fdE e=(bK e.t&&decide (e.t≠e.o))by unfold fdE otE;rw[if_neg M,if_neg O,if_neg k3,if_neg k4,if_neg k5,if_pos k6]]at u
 refine aq k6 (BH (ai (kq (ns (lK (v:=kv8 e.k) U rfl (cA ?_))))));have u:=h w e U ⟨rfl,rfl,rfl,rfl,fun _ _=>rfl⟩ (fun _=>by unfold vN;simp[M,O,k3,k4,k5,k6]);rwa[show fdE e=decide (e.k=7)by unfold fdE;rw[if_neg M,if_neg O,if_neg k3,if_neg k4,if_neg k5,if_neg k6]]at u
theorem VD {V:List Int}(C:blk w b E cs)(M:∀k,k<6→cs[2+k]? = some (u6 (V.getD k 0)))(h:∀m:Int,(∀k,k<6→V.getD k 0≤m)→(∃k,k<6∧m=V.getD k 0)→K (u6 m) w):call Tryz.prog 74 #[.slice (some ⟨b,2,none⟩) 6 6] K w:=by
 refine aj (goK func74) (xZ (bj underlying120 (aM (wh (aq (by decide) (wj ?_))))));refine dJ underlying120 (s:=1) (fun _=>by kernel_rfl) (by decide) (by decide) <|lK (v:=u6 (V.getD 0 0)) C (M 0 (by omega)) ?_;refine wi (Inv:=fun m i w' => ∃(x:Int) (k:Nat),m=u6 x∧i=.int .i64 (k:Nat)∧1≤k∧k≤6∧w'=w∧(∀j,j<k→V.getD j 0≤x)∧∃j,j<6∧x=V.getD j 0) (μ:=fun _ i _=>6-(intOf i).toNat)
  ⟨_,1,rfl,rfl,by omega,by omega,rfl,fun j I=>by rw[show j=0 by omega];exact Int.le_refl _,0,by omega,rfl⟩ ?_
 rintro _ _ dd _ m ⟨x,k,rfl,rfl,U,aa,rfl,u,O⟩ hm;refine bj underlying120 (aM ?_);by_cases J:k<6
 ·refine ax (by omega) (dJ underlying120 (s:=1) (fun _=>by kernel_rfl) (by omega) (by omega) ?_);rw[Int.toNat_natCast,Nat.mul_one];refine lK (v:=u6 (V.getD k 0)) C (M k J) (SC (aW (by omega) (by omega) ?_));refine⟨⟨_,k+1,rfl,ivS,by omega,by omega,rfl,fun j I=>?_,?_⟩,by rw[hm];show 6-((k:Int)+1).toNat<6-(k:Int).toNat;omega⟩
  ·by_cases e:j=k
   ·subst e;split<;>omega
   ·have:=u j (by omega);split<;>omega
  ·split
   ·exact⟨k,J,rfl⟩
   ·exact O
 ·refine aq (by omega) (wm (h x (fun j I=>u j (by omega)) O))
end
end
section
open Go.RowKit
theorem Ld {P:Program}{vs:List Value}{d:TypeDesc}(M:P.underlying t=some d)(C:d.isRow=true)(hi:(P.info? t).map (·.size)=some vs.length)(u:blk w p E cs)(O:cs=vs)(h:K (.agg vs.toArray) w):bp P [(some t,.pointer (some ⟨p,0,none⟩))] K w:=by
 subst O;have J:=run_loadVar_mid (P:=P) w p 0 t cs d (fun j v I=>by rw[u.cell,Nat.zero_add];exact I) M C hi;have e:(oB [(some t,.pointer (some ⟨p,0,none⟩))]).run P w=.ok (.agg cs.toArray) w:=by
  simp[oB,asAddr,Sem.run_bind,J]
 unfold bp;rw[e];exact⟨rfl,h⟩
attribute [local irreducible] bin un conv call bY blt slc aT fld aV idx lkp dO gY eSt rng nxt ent ext alc box bld bT ld sto aU dE mkS ifc pick rdy wts aI sti cond bp Gives ae fh fT cOp
section
variable {w:World}{K:KV}
structure OW (w0 w:World) (e:EV) (cs:List Value):Prop where
 e:blk w w0.heap.size 54 (evC e)
 r:∃zs:List Value,blk w (w0.heap.size+1) 54 zs∧zs.length=14
 x:blk w (w0.heap.size+2) 54 cs
 l:cs.length=14
 bel:Below w0.heap.size w0 w
end
end
section
attribute [local irreducible] bin un conv call bY blt slc aT fld aV idx lkp dO gY eSt rng nxt ent ext alc box bld bT ld sto aU dE mkS ifc pick rdy wts aI sti cond bp Gives ae fh fT cOp
open Go.RowKit
theorem oN {v:Value}{S:World→Prop}{s:KV→World→Prop}{k:Value→Prop}(u:asB v≠some cx)(j:k undef):hG v cx S s k:=⟨undef,fun h=>absurd h u,fun _=>rfl,j⟩
theorem KZ {p:Prop}[Decidable p](h : ¬p):asB (.bool (decide p))≠some true:=by rw[VK h];simp
theorem ixV {i:Int}(hi:i=(k:Nat))(j:k<6)(h:K (.pointer (some ⟨b,o+k,none⟩)) w):aV Tryz.prog 35 (.pointer (some ⟨b,o,none⟩)) (.int .i64 i) K w:=by
 subst hi;exact eO underlying35 (s:=1) (fun _=>by kernel_rfl) (by omega) (by omega) (by rw[Int.toNat_natCast,Nat.mul_one];exact h)
theorem TO {e:EV}(hb:blk w b 54 (evC e))(hf:blk w f 179 (evC e))(aa:b≠f)(hn:w0.heap.size≤f)(q1:Y5=.pointer (some ⟨b,0,none⟩))(q3:Z5=.pointer (some ⟨f,0,none⟩))(J:Below w0.heap.size w0 w)(h:∀w',Below w0.heap.size w0 w'→K (.bool (decide (e=pn e)&&fdE e)) w'):qz K ((BF Y5 Z5 K6 W6 X6 Y6 Z6 u7 B7 K7 W7 X7 Y7 Z7 B8 K8 zf)) w:=by
 subst q1;subst q3;refine Jx ?_;refine aw (fun _=>True) trivial (Tj hf.drew fun w2 O h2 C hw=>?_);have C:Oth f w w2:=⟨C.os,C.tape,C.output,C.size,C.other⟩
 have U:blk w2 b 54 (evC e):=by unfold blk;rw[C.other b aa];exact hb
 have l2:Below w0.heap.size w0 w2:=⟨C.os.trans J.os,C.tape.trans J.tape,C.output.trans J.output,by rw[C.size];exact J.size,fun k I=>(C.other k (by omega)).trans (J.block k I)⟩
 have M:=h w2 l2;refine aw (fun x=>blk x b 54 (evC e)∧blk x f 179 (evC O)) ⟨U,h2⟩ ?_;cases I:fdE e with
 | true =>
  have he:O=vN e:=hw I;rw[I,Bool.and_true]at M
  refine gE rfl (fun x u K j=>j) <|gE rfl (fun x u _=>ai) <|gE rfl (fun x u _=>kq) <|gE rfl (fun x u _=>ldA (n:=14) (vs:=evC O) underlying54 rfl (by kernel_rfl) u.2 rfl rfl) <|gE rfl (fun x u _=>bD) <|gE rfl (fun x u _=>lK (v:=iv e.o) u.1 rfl) <|gE rfl (fun x u _=>iZ) <|gE rfl (fun x u _=>lK (v:=u6 e.s) u.1 rfl) <|gE rfl (fun x u _=>qR) <|gE rfl (fun x u _=>ldA (n:=6) (vs:=[u6 e.d0,u6 e.d1,u6 e.d2,u6 e.d3,u6 e.d4,u6 e.d5]) underlying35 rfl (by kernel_rfl) u.1 rfl rfl) <|gE rfl (fun x u _=>ns) <|gE rfl (fun x u _=>lK (v:=kv8 e.k) u.1 rfl) <|gE rfl (fun x u _=>eT (vs:=evC (On e)) (by kernel_rfl)) ?_
  refine gE (x:=.bool (decide (e=pn e))) rfl (fun x u K j=>Cf 3 (by omega) (by kernel_rfl) (by kernel_rfl) (by kernel_rfl) (by kernel_rfl) fun r hr=>by
   have:r=decide (e=pn e):=by rw[Nw,he,Sp]at hr;exact Bool.eq_iff_iff.2 (hr.trans decide_eq_true_iff.symm)
   rw[this];exact j) ?_
  exact ab (fun x u _=>bX) M
 | false =>
  rw[I,Bool.and_false]at M;have nt:asB (.bool false)≠some true:=by simp[asB]
  iterate 14 refine oN nt ?_
  exact ab (fun x u _=>dA) M
theorem CH {e:EV}(h:∀w',Below w.heap.size w w'→K (.bool (dK e)) w'):call Tryz.prog 41 #[.agg (evC e).toArray] K w:=by
 refine aj (goK func41) (Lr ?_);refine cv fun J u b1 s1=>?_;have u:blk J w.heap.size 54 (evC e):=by simpa[Value.cells]using u
 have u:blk J.drew w.heap.size 54 (evC e):=u.drew;have b1:Below w.heap.size w J.drew:=b1.drew;have O:dK e=false→K (.bool false) J.drew:=fun hh=>by have:=h _ b1;rw[hh]at this;exact this
 refine aH (fun _=>bD) <|aH (v:=iv e.o) (fun _=>lK u rfl) <|aH (fun _=>Pp) <|aH (fun _=>dB) ?_;cases I:bK e.o with
 | false =>
  refine fV <|aH (fun _=>bX) <|fV <|aH (fun _=>bX) <|fV <|aH (fun _=>bX) <|bu ?_;exact O (by simp[dK,I])
 | true =>
  refine lR <|aH (fun _=>iZ) <|aH (v:=u6 e.s) (fun _=>lK u rfl) <|aH (fun _=>aM) <|aH (fun _=>dA) ?_;by_cases U:e.s<1
  ·refine jy U <|aH (fun _=>bO U) <|fV <|aH (fun _=>bX) <|bu ?_;exact O (by simp[dK,I];omega)
  refine dX U <|aH (fun _=>iZ) <|aH (v:=u6 e.s) (fun _=>lK u rfl) <|aH (fun _=>bM) <|aH (fun _=>bw U) ?_;by_cases h2:e.s≥1099511627776
  ·refine jy h2 <|aH (fun _=>bO h2) <|bu ?_;exact O (by simp[dK,I];omega)
  refine dX h2 ?_;have hi:1≤e.o∧e.o≤6:=by simpa[bK]using I
  obtain⟨k,hk⟩:∃k:Nat,k=(e.o-1).toNat:=⟨_,rfl⟩
  refine aH (fun _=>bD) <|aH (v:=iv e.o) (fun _=>lK u rfl) <|aH (v:=.int .i64 ((k:Nat):Int)) (fun K j=>kO (by rw[eK (by omega) (by omega),show (e.o-1)=(k:Nat)by omega];exact j)) <|aH (fun _=>qR) <|aH (fun _=>ixV rfl (by omega)) <|aH (v:=u6 (e.V.getD k 0)) (fun _=>lK u (Iv (by omega))) <|aH (fun _=>iZ) <|aH (v:=u6 e.s) (fun _=>lK u rfl) <|aH (v:=u6 (e.s-1)) (fun K j=>kO (by rw[gF,show (e.s-1)%18446744073709551616=e.s-1 by omega];exact j)) <|aH (fun _=>bN) <|aH (fun _=>bw h2) ?_
  by_cases C:e.V.getD k 0≠e.s-1
  ·refine ax C ?_;exact O (by simp[dK,I, ←hk];intro _ _ hh;exact absurd hh C)
  refine aq C ?_;have C:e.V.getD k 0=e.s-1:=by simpa using C
  refine qR (Qs underlying35 (s:=1) (fun _=>by kernel_rfl) (VD (V:=e.V) u (fun q M=>Iv M) fun m aa hx=>bM ?_));by_cases h4:m≥1099511627776
  ·refine ax h4 <|O ?_;obtain⟨q,M,rfl⟩:=hx
   have:(List.range 6).all (fun k=>decide (e.V.getD k 0<1099511627776))=false:=by
    rw[List.all_eq_false];exact⟨q,by simpa using M,by simp;simpa using h4⟩
   unfold dK;rw[this];simp
  refine aq h4 <|ldA (n:=14) (vs:=evC e) underlying54 rfl (by kernel_rfl) u rfl rfl <|eT (vs:=evC e) (by kernel_rfl) ?_;refine cv fun w2 hf b2 s2=>?_;have hf:blk w2 J.drew.heap.size 179 (evC e):=by simpa[Value.cells]using hf
  have ad:w.heap.size<J.drew.heap.size:=u.lt;refine TO (ac b2 u u.lt) hf (by omega) (by omega) rfl rfl (b1.trans (b2.mono b1.size)) fun w3 l3=>?_
  have:=h w3 l3
  have e1:(List.range 6).all (fun k=>decide (e.V.getD k 0<1099511627776))=true:=by
   rw[List.all_eq_true];exact fun q M=>by have:=aa q (by simpa using M);simpa using (by omega:e.V.getD q 0<1099511627776)
  unfold dK at this;rw[I,e1, ←hk,C,show decide (1≤e.s)=true from decide_eq_true (by omega),show decide (e.s<1099511627776)=true from decide_eq_true (by omega)]at this;simpa using this
end
section
open Go.RowKit
def vCs (V:List Int):List Value:=V.map u6
def leV (V W:List Int):Bool:=(List.range 6).all fun k=>decide (V.getD k 0≤W.getD k 0)
theorem bQ {V:List Int}:(vCs V).length=V.length:=by simp[vCs]
theorem xc {V:List Int}(h:V.length=6)(j:k<6):(vCs V)[k]? = some (u6 (V.getD k 0)):=by
 have:k<V.length:=by omega
 simp[vCs,List.getD,List.getElem?_eq_getElem this]
theorem Uo {V W:List Int}:vCs V=vCs W↔V=W:=by
 constructor
 ·intro h
  have:=congrArg (List.map intOf) h
  simpa[vCs,u6,intOf,Function.comp_def]using this
 ·rintro rfl;rfl
theorem CM {V:List Int}:∀v∈vCs V,v.oneCell'=true:=by
 intro v h;obtain⟨x,_,rfl⟩:=List.mem_map.1 h;rfl
theorem bv (h:Below n w w')(o:Oth b w' w0)(u:n≤b):Below n w w0 :=
 ⟨o.os.trans h.os,o.tape.trans h.tape,o.output.trans h.output,by rw[o.size];exact h.size,fun k j=>(o.other k (by omega)).trans (h.block k j)⟩
theorem MJ {V:List Int}(h:V.length=6):∃a b c d e f,V=[a,b,c,d,e,f]:=by
 match V,h with
 | [a,b,c,d,e,f],_=>exact⟨a,b,c,d,e,f,rfl⟩
theorem OX {P:Program}{q:Nat}(C:P.underlying t=some (.slice e))(u:∀w,(sizeOf e).run P w=.ok s w){k:IntKind}(J:q≤n)(I:n≤c)(h:K (.slice (if c=q then av else av.map (·.add (q*s))) (n-q) (c-q)) w):slc P t (.slice av n c) (some (.int k (q:Int))) none none K w:=by
 have j:(Instr.sliceBounds true n c (some (.int k (q:Int))) none none).run P w=.ok (q,n,c) w:=by
  have:=run_sliceBound (P:=P) w k (q:Int) n .sliceB (by omega) (by omega)
  simp[Instr.sliceBounds]at this ⊢;rw[this];simp
 unfold slc;refine gZ (w':=w) ?_ h;simp only[Instr.sliceAt,Instr.slice,Sem.run_bind,Sem.run_pure,Result.andThen_ok,run_underlying C,u,j]
attribute [local irreducible] bin un conv call bY blt slc aT fld aV idx lkp dO gY eSt rng nxt ent ext alc box bld bT ld sto aU dE mkS ifc pick rdy wts aI sti cond bp Gives ae fh fT cOp
theorem Oj {o:Int}(h:K (.bool (bK o)) w):call Tryz.prog 165 #[iv o] K w:=by
 refine aj (goK func165) (Id (bM ?_));unfold bK at h;by_cases j:o≥1
 ·rw[show decide (1≤o)=true from decide_eq_true j,Bool.true_and]at h;exact dD j (fU (bO j h))
 ·rw[show decide (1≤o)=false from decide_eq_false j,Bool.false_and]at h;exact dY j (bw j h)
theorem VH {V:List Int}{o s:Int}(I:V.length=6)(h:∀w',Below w.heap.size w w'→K (.bool (bK o&&(decide (s>0)&&decide (V.getD (o-1).toNat 0≥s)))) w'):call Tryz.prog 141 #[.agg (vCs V).toArray,iv o,u6 s] K w:=by
 refine aj (goK func141) (KX ?_);refine cv fun M u b1 O=>?_;have u:blk M w.heap.size 35 (vCs V):=by obtain⟨_,_,_,_,_,_,rfl⟩:=MJ I;simpa[Value.cells,vCs,u6]using u
 have h:=h _ b1;refine Oj ?_;cases C:bK o with
 | false =>
  rw[C,Bool.false_and]at h;exact mE (dA (mE (dA h)))
 | true =>
  rw[C,Bool.true_and]at h;refine kS (de (bX ?_));by_cases j:s>0
  ·rw[show decide (s>0)=true from decide_eq_true j,Bool.true_and]at h;have hi:1≤o∧o≤6:=by simpa[bK]using C
   obtain⟨k,J⟩:∃k:Nat,k=(o-1).toNat:=⟨_,rfl⟩
   rw[←J]at h;refine dD j (kO (by
    rw[eK (by omega) (by omega),show (o-1)=(k:Nat)by omega];exact ixV rfl (by omega) (by rw[Nat.zero_add];exact lK (v:=u6 (V.getD k 0)) u (xc I (by omega)) (bM (bO j h)))))
  ·rw[show decide (s>0)=false from decide_eq_false j,Bool.false_and]at h;exact dY j (bw j h)
theorem Og {G:List Int}(hG:G.length=6)(hf:∀k,k<6→∀M,Below w.heap.size w M→∀K':KV,(∀w2,Below M.heap.size M w2→K' (u6 (G.getD k 0)) w2)→bY Tryz.prog Y5 #[iv (k:Nat)] K' M)(h:∀w',Below w.heap.size w w'→K (.agg (vCs G).toArray) w'):call Tryz.prog 70 #[Y5] K w:=by
 refine aj (goK func70) (Kg ?_);refine dZ (z:=.agg #[u6 0,u6 0,u6 0,u6 0,u6 0,u6 0]) (by kernel_rfl) fun M hb b1 s1=>?_;have hb:blk M w.heap.size 35 [u6 0,u6 0,u6 0,u6 0,u6 0,u6 0]:=by simpa[Value.cells,u6]using hb
 refine HY (Inv:=fun i wr=>∃(k:Nat) (cs:List Value),i=iv (k:Nat)∧k≤6∧cs.length=6∧(∀j,j<k→cs[j]? = some (u6 (G.getD j 0)))∧blk wr w.heap.size 35 cs∧Below w.heap.size w wr) (μ:=fun i _=>6-(intOf i).toNat)
  ⟨0,_,rfl,by omega,rfl,fun j O=>by omega,hb,b1⟩ ?_
 rintro _ dd w2 m ⟨k,cs,rfl,hk,hl,J,C,U⟩ hm;refine aM ?_;by_cases I:k<6
 ·refine ax (by omega) (hf k I w2 U _ fun w3 b3=>?_);have u:=ac b3 C C.lt;refine ixV rfl I (by
   rw[Nat.zero_add];refine eB (fun _=>by kernel_rfl) u (by omega) rfl fun w4 aa o4=>aW (by omega) (by omega) ?_;refine⟨⟨k+1,_,ivS,by omega,by rw[List.length_set];exact hl,fun j O=>?_,aa,bv (U.trans (b3.mono U.size)) o4 (Nat.le_refl _)⟩,by rw[hm];show 6-((k:Int)+1).toNat<6-(k:Int).toNat;omega⟩;by_cases e:j=k
   ·subst e;rw[List.getElem?_set_self (by omega)]
   ·rw[List.getElem?_set_ne (by omega)];exact J j (by omega))
 ·refine aq (by omega) (HZ ?_);have I:k=6:=by omega
  subst I;have ec:cs=vCs G:=by
   refine List.ext_getElem? fun j=>?_;by_cases O:j<6
   ·rw[J j O,xc hG O]
   ·rw[List.getElem?_eq_none (by omega),List.getElem?_eq_none (by rw[bQ];omega)]
  subst ec;have hv:((vCs G).drop 0).take 6=vCs G:=by rw[List.drop_zero,List.take_of_length_le (by omega)]
  refine ldA (n:=6) (vs:=vCs G) underlying35 rfl (by kernel_rfl) C hv (by omega) ?_;refine jP (n:=6) (by kernel_rfl) (by omega) C (by omega) CM fun w3 u o3=>?_;have u:blk w3 w.heap.size 35 (vCs G):=by
   have e:(vCs G).take 0++vCs G++(vCs G).drop (0+6)=vCs G:=by rw[List.take_zero,List.nil_append,List.drop_of_length_le (by omega),List.append_nil]
   rwa[e]at u
  exact vD (v:=.agg (vCs G).toArray) (fun _=>ldA (n:=6) (vs:=vCs G) underlying35 rfl (by kernel_rfl) u hv (by omega)) (h _ (bv U o3 (Nat.le_refl _)))
def jV (A B:List Int):List Int:=(List.range 6).map fun k=>if A.getD k 0<B.getD k 0 then B.getD k 0 else A.getD k 0
theorem oQ {A B:List Int}:(jV A B).length=6:=by simp[jV]
theorem LT {A B:List Int}(h:k<6):(jV A B).getD k 0=if A.getD k 0<B.getD k 0 then B.getD k 0 else A.getD k 0:=by
 unfold jV;rw[List.getD_eq_getElem?_getD,List.getElem?_map,List.getElem?_range h];rfl
theorem VY {A B:List Int}(M:B.length=6):jV A B=B↔leV A B=true:=by
 unfold leV;rw[List.all_eq_true];constructor
 ·intro h k j;have j:k<6:=by simpa using j
  have:=LT (A:=A) (B:=B) j
  rw[h]at this;rw[decide_eq_true_eq];split at this<;>omega
 ·intro h;refine List.ext_getElem? fun k=>?_;by_cases j:k<6
  ·have I:=LT (A:=A) (B:=B) j;have J:=h k (by simpa using j);rw[decide_eq_true_eq]at J;have u:(jV A B).getD k 0=(jV A B)[k]'(by rw[oQ];exact j):=by rw[List.getD_eq_getElem?_getD,List.getElem?_eq_getElem (by rw[oQ];exact j)];rfl
   have C:B.getD k 0=B[k]'(by omega):=by rw[List.getD_eq_getElem?_getD,List.getElem?_eq_getElem (by omega)];rfl
   rw[List.getElem?_eq_getElem (by rw[oQ];exact j),List.getElem?_eq_getElem (by omega), ←u, ←C,I]
   congr 1
   split<;>omega
  ·rw[List.getElem?_eq_none (by rw[oQ];omega),List.getElem?_eq_none (by omega)]
theorem oD {V:List Int}(h:V.length=6):(Value.agg (vCs V).toArray).cells.toList=vCs V:=by
 obtain⟨_,_,_,_,_,_,rfl⟩:=MJ h;simp[Value.cells,vCs,u6]
theorem uA {V:List Int}(j:V.length=6)(h:∀w',blk w' w.heap.size 35 (vCs V)→Below w.heap.size w w'→w'.heap.size=w.heap.size+1→K (.pointer (some ⟨w.heap.size,0,none⟩)) w'):box Tryz.prog 35 (.agg (vCs V).toArray) K w :=
 cv fun w' u b s=>h w' (by rwa[oD j]at u) b s
theorem AN (h:∀w',blk w' w.heap.size 35 (vCs [0,0,0,0,0,0])→Below w.heap.size w w'→w'.heap.size=w.heap.size+1→K (.pointer (some ⟨w.heap.size,0,none⟩)) w'):alc Tryz.prog 35 K w :=
 dZ (z:=.agg #[u6 0,u6 0,u6 0,u6 0,u6 0,u6 0]) (by kernel_rfl) fun w' j b s=>h w' (by simpa[Value.cells,vCs,u6]using j) b s
theorem pe {V:List Int}(u:V.length=6)(j:blk w b 35 (vCs V))(h:K (.agg (vCs V).toArray) w):ld Tryz.prog 35 (.pointer (some ⟨b,0,none⟩)) K w :=
 ldA (n:=6) (vs:=vCs V) underlying35 rfl (by kernel_rfl) j (by rw[List.drop_zero,List.take_of_length_le (by rw[bQ];omega)]) (by rw[bQ];omega) h
theorem yb {V W:List Int}(I:V.length=6)(u:W.length=6)(C:blk w b 35 (vCs V))(h:∀w',blk w' b 35 (vCs W)→Oth b w w'→K undef w'):sto Tryz.prog 35 (.pointer (some ⟨b,0,none⟩)) (.agg (vCs W).toArray) K w:=by
 have J:=bQ (V:=V);refine jP (n:=6) (by kernel_rfl) (by rw[bQ,u]) C (by omega) CM fun w' j o=>h w' ?_ o;have e:(vCs V).take 0++vCs W++(vCs V).drop (0+6)=vCs W:=by rw[List.take_zero,List.nil_append,List.drop_of_length_le (by omega),List.append_nil]
 rwa[e]at j
theorem Tu {y:Int}(h:K (u6 (if x<y then y else x)) w):call Tryz.prog 113 #[u6 x,u6 y] K w :=
 aj (goK func113) (HX (SC h))
theorem Tk {a:Nat}{A B:List Int}(I:A.length=6)(J:B.length=6)(C:k<6)(U:blk w c E [.func (.func 113) #[] #[]])(M:blk w a 35 (vCs A))(O:blk w b 35 (vCs B))(h:K (u6 ((jV A B).getD k 0)) w.drew):call Tryz.prog 148 #[iv (k:Nat),.pointer (some ⟨c,0,none⟩),.pointer (some ⟨a,0,none⟩),.pointer (some ⟨b,0,none⟩)] K w:=by
 refine aj (goK func148) (yN ?_)
 refine aw (fun x=>blk x c E [.func (.func 113) #[] #[]]∧blk x a 35 (vCs A)∧blk x b 35 (vCs B)) ⟨U.drew,M.drew,O.drew⟩ <|ab (v:=.func (.func 113) #[] #[]) (fun x u _=>lK u.1 rfl) <|ab (fun x u _=>ixV rfl C) <|ab (v:=u6 (A.getD k 0)) (fun x u _=>lK u.2.1 (by rw[Nat.zero_add];exact xc I C)) <|ab (fun x u _=>ixV rfl C) <|ab (v:=u6 (B.getD k 0)) (fun x u _=>lK u.2.2 (by rw[Nat.zero_add];exact xc J C)) ?_
 refine fM rfl (Tu (aw (fun _=>True) trivial ?_));rwa[LT C]at h
end
section
attribute [local irreducible] bin un conv call bY blt slc aT fld aV idx lkp dO gY eSt rng nxt ent ext alc box bld bT ld sto aU dE mkS ifc pick rdy wts aI sti cond bp Gives ae fh fT cOp
open Go.RowKit
def lV (A:List Int)(x:Int)(is:Bool)(E:Int)(q:Nat):List Int×Int :=
 if jj A=false∨x<1∨MXA<x then (z54,1)else if is=false then (z54,10)else if E≠0 then (z54,E)else rY A q x
theorem wY {A:List Int}{q:Nat}{E:Int}(j:A.length=54)(hq:q<54)(U:jj A=true→1≤x→x≤MXA→cx=true→∀C,Below w.heap.size w C→∀K':KV,(∀w2,Below C.heap.size C w2→K' (.int .i64 E) w2)→bY Tryz.prog Y5 #[] K' C)(aa:cx=true→∀C b,Below w.heap.size w C→∀K':KV,K' (.pointer (some ⟨b,q,none⟩)) C.drew→bY Tryz.prog Z5 #[.pointer (some ⟨b,0,none⟩)] K' C)(h:∀w',Below w.heap.size w w'→K (.tuple #[.agg ((lV A x cx E q).1.map iv).toArray,.int .i64 (lV A x cx E q).2]) w'):call Tryz.prog 255 #[.agg (A.map iv).toArray,.int .i64 x,.bool cx,Y5,Z5] K w:=by
 refine aj (goK func255) (HR ?_);refine RV3.make j fun C g1 s1=>?_;have M:((A.map iv).drop 0).take 54=A.map iv:=by rw[List.drop_zero,List.take_of_length_le (by simp[j])]
 refine ldA (n:=54) (vs:=A.map iv) underlying50 rfl (by kernel_rfl) g1.r M (by simp[j]) ?_;refine Ql j fun w2 b2=>dB (Fv ?_);have J:=g1.fresh b2;unfold lV at h;have hM:MXA=1125899906842624:=rfl;rw[PT];cases hm:jj A with
 | false =>
  rw[if_pos (.inl hm)]at h;exact bu (sT (bu (J.no h)))
 | true =>
  have hn:=wW hm;refine aO (aM ?_);by_cases h1:x<1
  ·rw[if_pos (.inr (.inl h1))]at h;exact ax h1 (sT (ax h1 (J.no h)))
  refine aq h1 (de (sT ?_));by_cases h2:1125899906842624<x
  ·rw[if_pos (.inr (.inr h2))]at h;exact ax h2 (J.no h)
  refine aq h2 (dB ?_);rw[if_neg (by rw[hm];simp;omega)]at h;cases cx with
  | false =>
   rw[if_pos rfl]at h;exact bu (J.no h)
  | true =>
   rw[if_neg (by simp)]at h;refine aO (Fw (U hm (by omega) (by omega) rfl w2 J.bel _ fun w3 b3=>bN ?_));have I:=J.fresh b3;by_cases hE:E≠0
   ·rw[if_pos hE]at h;exact ax hE (I.no h)
   refine aq hE (aa rfl w3 _ I.bel _ ?_);rw[if_neg hE]at h;have I:=I.drew;have hb:=hn q hq;unfold rY at h;rw[hM]at hb h;refine ai (lK (v:=iv (nA A q)) I.r (qF (by omega)) (aW (by omega) (by omega) (ai (eB (fun _=>by kernel_rfl) I.r (by simp[j];exact hq) rfl fun w4 h4 o4=>?_))));have e:(A.map iv).set q (.int .i64 (nA A q+x))=(A.set q (nA A q+x)).map iv:=by rw[List.map_set];rfl
   rw[e]at h4;have g4:RV3 w w4 (A.set q (nA A q+x)):=⟨h4,o4.blk I.t (by omega),bG I.bel o4 (Nat.le_refl _)⟩
   have l4:(A.set q (nA A q+x)).length=54:=by simp[j]
   refine ai (lK (v:=iv (nA A q+x)) h4 (by
    rw[qF (by omega)];simp[nA,List.getD,j,hq]) (de ?_))
   by_cases u:1125899906842624<nA A q+x
   ·rw[if_pos u]at h;exact ax u (g4.no h)
   rw[if_neg u]at h;refine aq u ?_;have O:(((A.set q (nA A q+x)).map iv).drop 0).take 54=(A.set q (nA A q+x)).map iv:=by rw[List.drop_zero,List.take_of_length_le (by simp[j])]
   refine ldA (n:=54) (vs:=(A.set q (nA A q+x)).map iv) underlying50 rfl (by kernel_rfl) h4 O (by simp[j]) ?_;exact MA (N:=54) underlying50 rfl (by kernel_rfl) g4.t rfl (by simp[j]) (vA _) fun w' o=>h w' (bG g4.bel o (by omega))
theorem JL {b:Bool}{E:Int}(h:K (.int .i64 (if b=true then E else 0)) w):call Tryz.prog 257 #[.bool b,.int .i64 E] K w:=by
 refine aj (goK func257) (JU ?_);cases b with
 | true=>exact bu h
 | false=>exact aO h
theorem Mb {A:List Int}(h:k<6)(j:jj A=true):JA A k=gS A k:=by rw[Rn A h,j]
theorem Oe {A:List Int}{i:Int}:iO A i x=lV A x (bK i) (if gS A (i-1).toNat<x then 11 else 0) (6+(i-1).toNat):=by
 unfold iO lV qf;generalize (i-1).toNat=k;by_cases h:jj A=false∨x<1∨MXA<x
 ·simp only[if_pos h];simp
 ·simp only[if_neg h];cases bK i with
  | false=>simp
  | true =>
   by_cases j:gS A k<x
   ·simp[j]
   ·simp[j]
theorem Nx {A:List Int}{i:Int}:iH A i x=lV A x (bK i) (if nA A (6+(i-1).toNat)-nA A (12+(i-1).toNat)<x then 12 else 0) (12+(i-1).toNat):=by
 unfold iH lV qf;obtain⟨k,C⟩:∃k:Nat,k=(i-1).toNat:=⟨_,rfl⟩
 rw[←C];by_cases h:jj A=false∨x<1∨MXA<x
 ·simp only[if_pos h];simp
 ·simp only[if_neg h];cases M:bK i with
  | false=>simp
  | true =>
   by_cases j:nA A (6+k)-nA A (12+k)<x
   ·simp[j]
   ·have I:jj A=true:=by cases J:jj A with|true=>rfl|false=>exact absurd (.inl J) h
    have hi:1≤i∧i≤6:=by simpa[bK]using M
    have:=wW I (6+k) (by omega)
    have u : ¬MXA<nA A (12+k)+x:=by omega
    unfold rY;rw[if_neg u];simp[j]
theorem NP {A:List Int}{i j:Int}:kQ A i j x=lV A x (bK i&&bK j) (if i=j then 1 else if gS A (i-1).toNat<x then 11 else 0) (18+6*(i-1).toNat+(j-1).toNat):=by
 unfold kQ lV qf;generalize (i-1).toNat=k;generalize (j-1).toNat=m;by_cases u:jj A=false∨x<1∨MXA<x
 ·simp only[if_pos u];simp
 ·simp only[if_neg u];cases bK i with
  | false=>simp
  | true =>
   cases bK j with
   | false=>simp
   | true =>
    by_cases h:i=j
    ·simp[h]
    ·by_cases C:gS A k<x
     ·simp[C,h]
     ·simp[C,h]
theorem Cz (A:List Int)(x:Int)(j:Bool)(E:Int)(q:Nat)(h:A.length=54):(lV A x j E q).1.length=54:=by
 unfold lV rY;split
 ·rfl
 split
 ·rfl
 split
 ·rfl
 split
 ·rfl
 ·simp[h]
section
variable {w:World}{K:KV}
theorem IY {A:List Int}(h:∀w',blk w' w.heap.size 50 (A.map iv)→Below w.heap.size w w'→w'.heap.size=w.heap.size+1→K (.pointer (some ⟨w.heap.size,0,none⟩)) w'):box Tryz.prog 50 (.agg (A.map iv).toArray) K w :=
 cv fun w' j b s=>h w' (by simpa[Value.cells]using j) b s
theorem EM (h:∀w',blk w' w.heap.size t [iv x]→Below w.heap.size w w'→w'.heap.size=w.heap.size+1→K (.pointer (some ⟨w.heap.size,0,none⟩)) w'):box Tryz.prog t (iv x) K w :=
 cv fun w' j b s=>h w' (by simpa[Value.cells,iv]using j) b s
theorem vB (h:∀w',blk w' w.heap.size 50 (z54.map iv)→Below w.heap.size w w'→w'.heap.size=w.heap.size+1→K (.pointer (some ⟨w.heap.size,0,none⟩)) w'):alc Tryz.prog 50 K w :=
 dZ (z:=.agg (z54.map iv).toArray) (by kernel_rfl) fun w' j b s=>h w' (by simpa[Value.cells]using j) b s
theorem pT {A:List Int}(j:A.length=54)(u:blk w b 50 (A.map iv))(h:K (.agg (A.map iv).toArray) w):ld Tryz.prog 50 (.pointer (some ⟨b,0,none⟩)) K w :=
 ldA (n:=54) (vs:=A.map iv) underlying50 rfl (by kernel_rfl) u (by rw[List.drop_zero,List.take_of_length_le (by simp[j])]) (by simp[j]) h
structure R3 (w0 w:World) (A:List Int) (i x:Int):Prop where
 r:blk w w0.heap.size 50 (A.map iv)
 i:blk w (w0.heap.size+1) 3 [iv i]
 x:blk w (w0.heap.size+2) 2 [iv x]
 t:blk w (w0.heap.size+3) 50 (z54.map iv)
 bel:Below w0.heap.size w0 w
theorem R3.fresh {A:List Int}{i:Int}(g:R3 w0 w A i x)(h:Below w.heap.size w w'):R3 w0 w' A i x :=
 ⟨ac h g.r g.r.lt,ac h g.i g.i.lt,ac h g.x g.x.lt,ac h g.t g.t.lt,g.bel.trans (h.mono g.bel.size)⟩
theorem R3.drew {A:List Int}{i:Int}(g:R3 w0 w A i x):R3 w0 w.drew A i x:=g.fresh (Below.refl _ w).drew
theorem Uh {A:List Int}{i:Int}(I:A.length=54)(M:jj A=true)(J:bK i=true)(g:R3 w0 w A i x)(h:∀w',Below w.heap.size w w'→K (.int .i64 (if gS A (i-1).toNat<x then 11 else 0)) w'):call Tryz.prog 256 #[.pointer (some ⟨w0.heap.size+2,0,none⟩),.pointer (some ⟨w0.heap.size,0,none⟩),.pointer (some ⟨w0.heap.size+1,0,none⟩)] K w:=by
 have hi:1≤i∧i≤6:=by simpa[bK]using J
 refine aj (goK func256) (HO ?_);have gd:=g.drew;refine aw (fun y=>R3 w0 y A i x) gd <|ab (fun y u _=>lK (v:=iv x) u.x rfl) <|ab (fun y u _=>pT I u.r) <|ab (fun y u _=>lK (v:=iv i) u.i rfl) ?_;refine MF I fun O b2=>?_;refine bR (gd.fresh b2) ?_;rw[J,if_pos rfl,Mb (by omega) M];refine ab (fun y u _=>de) ?_;refine JL (aw (fun _=>True) trivial ?_)
 have:=h O ((Below.refl _ w).drew.trans (b2.mono (Nat.le_refl _)))
 by_cases C:gS A (i-1).toNat<x
 ·rw[if_pos C]at this;rw[if_pos (by simpa using C)];exact this
 ·rw[if_neg C]at this;rw[if_neg (by simpa using C)];exact this
theorem Tl {A:List Int}{i:Int}(hA:A.length=54)(hm:jj A=true)(hr:bK i=true)(g:R3 w0 w A i x)(h:∀w',Below w.heap.size w w'→K (.int .i64 (if nA A (6+(i-1).toNat)-nA A (12+(i-1).toNat)<x then 12 else 0)) w'):call Tryz.prog 259 #[.pointer (some ⟨w0.heap.size+2,0,none⟩),.pointer (some ⟨w0.heap.size,0,none⟩),.pointer (some ⟨w0.heap.size+1,0,none⟩)] K w:=by
 have hi:1≤i∧i≤6:=by simpa[bK]using hr
 refine aj (goK func259) (HJ ?_);have gd:=g.drew;have I:=wW hm;obtain⟨k,U⟩:∃k:Nat,k=(i-1).toNat:=⟨_,rfl⟩
 rw[←U]at h;have J:=I (6+k) (by omega);have M:=I (12+k) (by omega);have O:MXA=1125899906842624:=rfl;rw[O]at J M
 refine aw (fun y=>R3 w0 y A i x) gd <|ab (fun y u _=>lK (v:=iv x) u.x rfl) <|ab (fun y u _=>lK (v:=iv i) u.i rfl) <|ab (v:=iv (k:Nat)) (fun y u K j=>kO (by rw[eK (by omega) (by omega),show (i-1)=(k:Nat)by omega];exact j)) <|ab (fun y u _=>wH) <|ab (fun y u _=>ixR rfl (by omega)) <|ab (v:=iv (nA A (6+k))) (fun y u _=>lK u.r (by rw[Nat.zero_add];exact qF (by omega))) <|ab (fun y u _=>lK (v:=iv i) u.i rfl) <|ab (v:=iv (k:Nat)) (fun y u K j=>kO (by rw[eK (by omega) (by omega),show (i-1)=(k:Nat)by omega];exact j)) <|ab (fun y u _=>zQ) <|ab (fun y u _=>ixR rfl (by omega)) <|ab (v:=iv (nA A (12+k))) (fun y u _=>lK u.r (by rw[Nat.zero_add];exact qF (by omega))) <|ab (v:=iv (nA A (6+k)-nA A (12+k))) (fun y u K j=>kO (by rw[eK (by omega) (by omega)];exact j)) <|ab (fun y u _=>de) ?_
 refine JL (aw (fun _=>True) trivial ?_)
 have:=h _ (Below.refl _ w).drew
 by_cases C:nA A (6+k)-nA A (12+k)<x
 ·rw[if_pos C]at this;rw[if_pos (by simpa using C)];exact this
 ·rw[if_neg C]at this;rw[if_neg (by simpa using C)];exact this
theorem Ui {i:Int}(I:bK i=true)(C:blk w p 3 [iv i])(h:K (.pointer (some ⟨b,6+(i-1).toNat,none⟩)) w.drew):call Tryz.prog 258 #[.pointer (some ⟨b,0,none⟩),.pointer (some ⟨p,0,none⟩)] K w:=by
 have hi:1≤i∧i≤6:=by simpa[bK]using I
 obtain⟨k,u⟩:∃k:Nat,k=(i-1).toNat:=⟨_,rfl⟩
 rw[←u]at h;refine aj (goK func258) (HP ?_);refine aH (fun _=>lK (v:=iv i) C.drew rfl) <|aH (v:=iv (k:Nat)) (fun K j=>kO (by rw[eK (by omega) (by omega),show (i-1)=(k:Nat)by omega];exact j)) ?_;refine aH (fun _=>ai) (aH (fun _=>wH) (aH (fun K j=>ixR rfl (by omega) (by rw[Nat.zero_add];exact j)) h))
theorem Tm {i:Int}(I:bK i=true)(C:blk w p 3 [iv i])(h:K (.pointer (some ⟨b,12+(i-1).toNat,none⟩)) w.drew):call Tryz.prog 260 #[.pointer (some ⟨b,0,none⟩),.pointer (some ⟨p,0,none⟩)] K w:=by
 have hi:1≤i∧i≤6:=by simpa[bK]using I
 obtain⟨k,u⟩:∃k:Nat,k=(i-1).toNat:=⟨_,rfl⟩
 rw[←u]at h;refine aj (goK func260) (HK ?_);refine aH (fun _=>lK (v:=iv i) C.drew rfl) <|aH (v:=iv (k:Nat)) (fun K j=>kO (by rw[eK (by omega) (by omega),show (i-1)=(k:Nat)by omega];exact j)) ?_;refine aH (fun _=>ai) (aH (fun _=>zQ) (aH (fun K j=>ixR rfl (by omega) (by rw[Nat.zero_add];exact j)) h))
end
end
section
open Go.RowKit
theorem CJ {P:Program}{C:Addr}{v u:Value}(J:∀K':KV,K' v w→ld P t (.pointer (some C)) K' w)(h:K (.tuple #[v,u]) w):bp P [(some t,.pointer (some C)),(none,u)] K w:=by
 have I:(loadVar t C).run P w=.ok v w:=by
  have:=J (fun v' w' => v'=v∧w'=w) ⟨rfl,rfl⟩
  unfold ld okV at this;unfold Instr.loadAt at this;simp only[Instr.sureAddr,Sem.run_bind,Sem.run_pure,Result.andThen_ok]at this;split at this
  ·rename_i v' w' j;rw[j,this.1,this.2]
  ·exact this.elim
 unfold bp
 have:(oB [(some t,.pointer (some C)),(none,u)]).run P w=.ok (.tuple #[v,u]) w:=by simp[oB,asAddr,Sem.run_bind,I]
 rw[this];exact⟨rfl,h⟩
attribute [local irreducible] bin un conv call bY blt slc aT fld aV idx lkp dO gY eSt rng nxt ent ext alc box bld bT ld sto aU dE mkS ifc pick rdy wts aI sti cond bp Gives ae fh fT cOp
theorem ud {A B:List Int}(u:A.length=54)(C:B.length=54)(I:blk w b 50 (A.map iv))(h:∀w',blk w' b 50 (B.map iv)→Oth b w w'→K undef w'):sto Tryz.prog 50 (.pointer (some ⟨b,0,none⟩)) (.agg (B.map iv).toArray) K w:=by
 refine jP (n:=54) (by kernel_rfl) (by simp[C]) I (by simp[u]) (vA _) fun w' j o=>h w' ?_ o;have e:(A.map iv).take 0++B.map iv++(A.map iv).drop (0+54)=B.map iv:=by rw[List.take_zero,List.nil_append,List.drop_of_length_le (by simp[u]),List.append_nil]
 rwa[e]at j
theorem R3.make {A:List Int}{i:Int}{K4:Value→Value→Value→Value→World→Prop}(h:∀w',R3 w w' A i x→w'.heap.size=w.heap.size+4→K4 (.pointer (some ⟨w.heap.size,0,none⟩)) (.pointer (some ⟨w.heap.size+1,0,none⟩)) (.pointer (some ⟨w.heap.size+2,0,none⟩)) (.pointer (some ⟨w.heap.size+3,0,none⟩)) w'):box Tryz.prog 50 (.agg (A.map iv).toArray) (fun r=>box Tryz.prog 3 (iv i) fun j=>box Tryz.prog 2 (iv x) fun y=>alc Tryz.prog 50 fun t w=>K4 r j y t w) w:=by
 refine IY fun w1 M b1 s1=>EM fun w2 O b2 s2=>EM fun w3 U C s3=>vB fun w4 h4 u s4=>?_;have I:w2.heap.size=w.heap.size+2:=by omega
 have J:w3.heap.size=w.heap.size+3:=by omega
 have hh:=h w4 ⟨ac u (ac C (ac b2 M M.lt) (by omega)) (by omega),by rw[s1]at O;exact ac u (ac C O (by omega)) (by omega),by rw[I]at U;exact ac u U (by omega),by rw[J]at h4;exact h4,(((b1.trans (b2.mono (by omega))).trans (C.mono (by omega))).trans (u.mono (by omega)))⟩ (by omega);rw[s1,I,J];exact hh
theorem R3.fin {A B:List Int}{i e:Int}(I:B.length=54)(g:R3 w0 w A i x)(h:∀w',Below w0.heap.size w0 w'→K (.tuple #[.agg (B.map iv).toArray,.int .i64 e]) w'):aG (fun S w=>hld S (ext Tryz.prog (.tuple #[.agg (B.map iv).toArray,.int .i64 e]) 0) fun u=>hld S (ext Tryz.prog (.tuple #[.agg (B.map iv).toArray,.int .i64 e]) 1) fun C=>sto Tryz.prog 50 (.pointer (some ⟨w0.heap.size+3,0,none⟩)) u (fun _=>aG fun _=>bp Tryz.prog [(some 50,.pointer (some ⟨w0.heap.size+3,0,none⟩)),(none,C)] K) w) w:=by
 refine aw (fun _=>True) trivial ?_;refine ab (fun y M _=>cZ) (ab (fun y M _=>db) ?_);refine ud rfl I g.t fun U J O=>aw (fun _=>True) trivial ?_;exact CJ (fun _=>pT I J) (h _ (bG g.bel O (by omega)))
theorem TU {A:List Int}{i:Int}(I:A.length=54)(h:∀w',Below w.heap.size w w'→K (.tuple #[.agg ((iO A i x).1.map iv).toArray,.int .i64 (iO A i x).2]) w'):call Tryz.prog 243 #[.agg (A.map iv).toArray,iv i,iv x] K w:=by
 refine aj (goK func243) (JT (R3.make fun w1 j s1=>?_));have j:=j.drew;refine aw (fun y=>R3 w y A i x) j <|ab (fun y M _=>pT I M.r) <|ab (fun y M _=>lK (v:=iv x) M.x rfl) <|ab (fun y M _=>lK (v:=iv i) M.i rfl) ?_;refine AE (bR j ?_);rw[Oe]at h;have O:=Cz A x (bK i) (if gS A (i-1).toNat<x then 11 else 0) (6+(i-1).toNat) I;by_cases C:bK i=true
 ·have hi:1≤i∧i≤6:=by simpa[bK]using C
  refine wY (q:=6+(i-1).toNat) (E:=if gS A (i-1).toNat<x then 11 else 0) I (by omega) (fun hm _ _ _ w2 b2 K' u => fM rfl (Uh I hm C (j.fresh b2) u))
   (fun _ w2 b b2 K' u => fM rfl (Ui C (j.fresh b2).i u)) fun w2 b2=>(j.fresh b2).fin O h
 ·have C:bK i=false:=by simpa using C
  rw[C]at O h ⊢;have e:lV A x false (if gS A (i-1).toNat<x then 11 else 0) (6+(i-1).toNat)=lV A x false 0 0:=rfl;rw[e]at h O;exact wY (q:=0) (E:=0) I (by omega) (fun _ _ _ U=>by cases U) (fun U=>by cases U) fun w2 b2=>(j.fresh b2).fin O h
theorem TN {A:List Int}{i:Int}(I:A.length=54)(h:∀w',Below w.heap.size w w'→K (.tuple #[.agg ((iH A i x).1.map iv).toArray,.int .i64 (iH A i x).2]) w'):call Tryz.prog 246 #[.agg (A.map iv).toArray,iv i,iv x] K w:=by
 refine aj (goK func246) (JR (R3.make fun w1 j s1=>?_));have j:=j.drew;refine aw (fun y=>R3 w y A i x) j <|ab (fun y M _=>pT I M.r) <|ab (fun y M _=>lK (v:=iv x) M.x rfl) <|ab (fun y M _=>lK (v:=iv i) M.i rfl) ?_;refine AE (bR j ?_);rw[Nx]at h;have O:=Cz A x (bK i) (if nA A (6+(i-1).toNat)-nA A (12+(i-1).toNat)<x then 12 else 0) (12+(i-1).toNat) I;by_cases C:bK i=true
 ·have hi:1≤i∧i≤6:=by simpa[bK]using C
  refine wY (q:=12+(i-1).toNat) (E:=if nA A (6+(i-1).toNat)-nA A (12+(i-1).toNat)<x then 12 else 0) I (by omega) (fun hm _ _ _ w2 b2 K' u => fM rfl (Tl I hm C (j.fresh b2) u))
   (fun _ w2 b b2 K' u => fM rfl (Tm C (j.fresh b2).i u)) fun w2 b2=>(j.fresh b2).fin O h
 ·have C:bK i=false:=by simpa using C
  rw[C]at O h ⊢;have e:lV A x false (if nA A (6+(i-1).toNat)-nA A (12+(i-1).toNat)<x then 12 else 0) (12+(i-1).toNat)=lV A x false 0 0:=rfl;rw[e]at h O;exact wY (q:=0) (E:=0) I (by omega) (fun _ _ _ U=>by cases U) (fun U=>by cases U) fun w2 b2=>(j.fresh b2).fin O h
end
section
attribute [local irreducible] bin un conv call bY blt slc aT fld aV idx lkp dO gY eSt rng nxt ent ext alc box bld bT ld sto aU dE mkS ifc pick rdy wts aI sti cond bp Gives ae fh fT cOp
open Go.RowKit
structure R4 (w0 w:World) (A:List Int) (i j x:Int):Prop where
 r:blk w w0.heap.size 50 (A.map iv)
 i:blk w (w0.heap.size+1) 3 [iv i]
 j:blk w (w0.heap.size+2) 3 [iv j]
 x:blk w (w0.heap.size+3) 2 [iv x]
 t:blk w (w0.heap.size+4) 50 (z54.map iv)
 bel:Below w0.heap.size w0 w
theorem R4.fresh {A:List Int}{i j:Int}(g:R4 w0 w A i j x)(h:Below w.heap.size w w'):R4 w0 w' A i j x :=
 ⟨ac h g.r g.r.lt,ac h g.i g.i.lt,ac h g.j g.j.lt,ac h g.x g.x.lt,ac h g.t g.t.lt,g.bel.trans (h.mono g.bel.size)⟩
theorem R4.drew {A:List Int}{i j:Int}(g:R4 w0 w A i j x):R4 w0 w.drew A i j x:=g.fresh (Below.refl _ w).drew
theorem R4.make {A:List Int}{i j:Int}{K5:Value→Value→Value→Value→Value→World→Prop}(h:∀w',R4 w w' A i j x→w'.heap.size=w.heap.size+5→K5 (.pointer (some ⟨w.heap.size,0,none⟩)) (.pointer (some ⟨w.heap.size+1,0,none⟩)) (.pointer (some ⟨w.heap.size+2,0,none⟩)) (.pointer (some ⟨w.heap.size+3,0,none⟩)) (.pointer (some ⟨w.heap.size+4,0,none⟩)) w'):box Tryz.prog 50 (.agg (A.map iv).toArray) (fun r=>box Tryz.prog 3 (iv i) fun p=>box Tryz.prog 3 (iv j) fun q=>box Tryz.prog 2 (iv x) fun y=>alc Tryz.prog 50 fun t w=>K5 r p q y t w) w:=by
 refine IY fun w1 U b1 s1=>EM fun w2 h2 b2 s2=>EM fun w3 h3 I s3=>EM fun w4 h4 C s4=>vB fun w5 h5 u s5=>?_;have J:w2.heap.size=w.heap.size+2:=by omega
 have M:w3.heap.size=w.heap.size+3:=by omega
 have O:w4.heap.size=w.heap.size+4:=by omega
 have hh:=h w5 ⟨ac u (ac C (ac I (ac b2 U U.lt) (by omega)) (by omega)) (by omega),by rw[s1]at h2;exact ac u (ac C (ac I h2 (by omega)) (by omega)) (by omega),by rw[J]at h3;exact ac u (ac C h3 (by omega)) (by omega),by rw[M]at h4;exact ac u h4 (by omega),by rw[O]at h5;exact h5,((((b1.trans (b2.mono (by omega))).trans (I.mono (by omega))).trans (C.mono (by omega))).trans (u.mono (by omega)))⟩ (by omega)
 rw[s1,J,M,O];exact hh
theorem R4.fin {A B:List Int}{i j e:Int}(J:B.length=54)(g:R4 w0 w A i j x)(h:∀w',Below w0.heap.size w0 w'→K (.tuple #[.agg (B.map iv).toArray,.int .i64 e]) w'):aG (fun S w=>hld S (ext Tryz.prog (.tuple #[.agg (B.map iv).toArray,.int .i64 e]) 0) fun C=>hld S (ext Tryz.prog (.tuple #[.agg (B.map iv).toArray,.int .i64 e]) 1) fun I=>sto Tryz.prog 50 (.pointer (some ⟨w0.heap.size+4,0,none⟩)) C (fun _=>aG fun _=>bp Tryz.prog [(some 50,.pointer (some ⟨w0.heap.size+4,0,none⟩)),(none,I)] K) w) w:=by
 refine aw (fun _=>True) trivial ?_;refine ab (fun y O _=>cZ) (ab (fun y O _=>db) ?_);refine ud rfl J g.t fun w1 M U=>aw (fun _=>True) trivial ?_;exact CJ (fun _=>pT J M) (h _ (bG g.bel U (by omega)))
theorem TC {A:List Int}{i j:Int}(M:A.length=54)(U:jj A=true)(O:bK i=true)(g:R4 w0 w A i j x)(h:∀w',Below w.heap.size w w'→K (.int .i64 (if i=j then 1 else if gS A (i-1).toNat<x then 11 else 0)) w'):call Tryz.prog 261 #[.pointer (some ⟨w0.heap.size+1,0,none⟩),.pointer (some ⟨w0.heap.size+2,0,none⟩),.pointer (some ⟨w0.heap.size+3,0,none⟩),.pointer (some ⟨w0.heap.size,0,none⟩)] K w:=by
 have hi:1≤i∧i≤6:=by simpa[bK]using O
 refine aj (goK func261) (HL (lK (v:=iv i) g.i rfl (lK (v:=iv j) g.j rfl (cA ?_))));by_cases u:i=j
 ·have:=h _ (Below.refl _ w)
  rw[if_pos u]at this;exact ax u this
 refine aq u ?_;have gd:=g.drew;refine aw (fun y=>R4 w0 y A i j x) gd <|ab (fun y I _=>lK (v:=iv x) I.x rfl) <|ab (fun y I _=>pT M I.r) <|ab (fun y I _=>lK (v:=iv i) I.i rfl) ?_;refine MF M fun w2 b2=>?_;refine bR (gd.fresh b2) ?_;rw[O,if_pos rfl,Mb (by omega) U];refine ab (fun y I _=>de) ?_;refine JL (aw (fun _=>True) trivial ?_)
 have:=h w2 ((Below.refl _ w).drew.trans (b2.mono (Nat.le_refl _)))
 rw[if_neg u]at this;by_cases J:gS A (i-1).toNat<x
 ·rw[if_pos J]at this;rw[if_pos (by simpa using J)];exact this
 ·rw[if_neg J]at this;rw[if_neg (by simpa using J)];exact this
theorem TD {i j:Int}(O:bK i=true)(U:bK j=true)(M:blk w p 3 [iv i])(C:blk w n 3 [iv j])(h:K (.pointer (some ⟨b,18+6*(i-1).toNat+(j-1).toNat,none⟩)) w.drew):call Tryz.prog 262 #[.pointer (some ⟨b,0,none⟩),.pointer (some ⟨p,0,none⟩),.pointer (some ⟨n,0,none⟩)] K w:=by
 have hi:1≤i∧i≤6:=by simpa[bK]using O
 have hj:1≤j∧j≤6:=by simpa[bK]using U
 obtain⟨k,I⟩:∃k:Nat,k=(i-1).toNat:=⟨_,rfl⟩
 obtain⟨m,J⟩:∃m:Nat,m=(j-1).toNat:=⟨_,rfl⟩
 rw[←I, ←J]at h;refine aj (goK func262) (HN ?_);refine aH (fun _=>lK (v:=iv i) M.drew rfl) <|aH (v:=iv (k:Nat)) (fun K u=>kO (by rw[eK (by omega) (by omega),show (i-1)=(k:Nat)by omega];exact u)) <|aH (fun _=>lK (v:=iv j) C.drew rfl) <|aH (v:=iv (m:Nat)) (fun K u=>kO (by rw[eK (by omega) (by omega),show (j-1)=(m:Nat)by omega];exact u)) ?_
 exact aH (fun _=>ai) (aH (fun _=>Dc) (aH (fun _=>Oy rfl (by omega)) (aH (fun K u=>ixR rfl (by omega) (by rw[show 0+18+6*k+m=18+6*k+m by omega];exact u)) h)))
theorem TP {A:List Int}{i j:Int}(O:A.length=54)(h:∀w',Below w.heap.size w w'→K (.tuple #[.agg ((kQ A i j x).1.map iv).toArray,.int .i64 (kQ A i j x).2]) w'):call Tryz.prog 248 #[.agg (A.map iv).toArray,iv i,iv j,iv x] K w:=by
 refine aj (goK func248) (JS (R4.make fun w1 u s1=>?_));have u:=u.drew;refine aw (fun y=>R4 w y A i j x) u <|ab (fun y J _=>pT O J.r) <|ab (fun y J _=>lK (v:=iv x) J.x rfl) <|ab (fun y J _=>lK (v:=iv i) J.i rfl) ?_;refine AE (bR u ?_);rw[NP]at h;generalize hE:(if i=j then (1:Int)else if gS A (i-1).toNat<x then 11 else 0)=E at h
 have U:=Cz A x (bK i&&bK j) E (18+6*(i-1).toNat+(j-1).toNat) O;have no:(bK i&&bK j)=false→lV A x (bK i&&bK j) E (18+6*(i-1).toNat+(j-1).toNat)=lV A x false 0 0:=fun I=>by rw[I];rfl
 have nt:asB (.bool false)≠some true:=by simp[asB]
 cases hr:bK i with
 | false =>
  rw[no (by rw[hr];rfl)]at h U;refine oN nt (xGn nt (bR u (ab (fun y J _=>dA) ?_)));exact wY (q:=0) (E:=0) O (by omega) (fun _ _ _ I=>by cases I) (fun I=>by cases I) fun w2 b2=>(u.fresh b2).fin U h
 | true =>
  refine gE rfl (fun y J _=>lK (v:=iv j) J.j rfl) ?_;refine Ce rfl (AE (bR u (ab (fun y J _=>bX) ?_)));cases hs:bK j with
  | false =>
   rw[no (by rw[hr,hs];rfl)]at h U;exact wY (q:=0) (E:=0) O (by omega) (fun _ _ _ I=>by cases I) (fun I=>by cases I) fun w2 b2=>(u.fresh b2).fin U h
  | true =>
   have hi:1≤i∧i≤6:=by simpa[bK]using hr
   have hj:1≤j∧j≤6:=by simpa[bK]using hs
   rw[hr,hs]at h U;refine wY (q:=18+6*(i-1).toNat+(j-1).toNat) (E:=E) O (by omega) (fun hm _ _ _ w2 b2 K' M => fM rfl (TC O hm hr (u.fresh b2) (by rw[hE];exact M)))
    (fun _ w2 b b2 K' M => fM rfl (TD hr hs (u.fresh b2).i (u.fresh b2).j M)) fun w2 b2=>(u.fresh b2).fin U h
end
section
open Go.RowKit
/-! ## Plain -/
def G (xs:List Int)(i:Nat):Int:=xs.getD i 0
def swp (xs:List Int)(i j:Nat):List Int:=(xs.set i (G xs j)).set j (G xs i)
theorem Sl (hi:i<xs.length)(h:j<xs.length):(swp xs i j).Perm xs:=by
 unfold swp;have u:G xs j=xs[j]:=by simp[G,List.getD,h]
 have C:G xs i=xs[i]:=by simp[G,List.getD,hi]
 rw[u,C];exact List.set_set_perm hi h
/-! ## In memory -/
abbrev E64 :TypeId:=31
abbrev uv (x:Int):Value:=.int .u64 x
theorem Pz {P:Program}{v x i:Value}(h:(Instr.index t x i).run P w=.ok v w')(j:K v w'):idx P t x i K w:=gZ h j
theorem Vd {cs:Array Bool}(h:K (.int .i64 (n:Int)) w):blt Tryz.prog .len #[120] E cs #[.slice a n c] K w:=bj underlying120 h
def SD (w:World)(g n c:Nat)(xs:List Int):Prop:=∃rest,blk w g E64 (xs.map uv++rest)∧xs.length=n∧n≤c∧n≤4611686018427387904
attribute [local irreducible] bin un conv call bY blt slc aT fld aV idx lkp dO gY eSt rng nxt ent ext alc box bld bT ld sto aU dE mkS ifc pick rdy wts aI sti cond bp Gives ae fh fT cOp
theorem SD.drew (h:SD w g n c xs):SD w.drew g n c xs:=h
theorem SD.len (h:SD w g n c xs):xs.length=n:=by obtain⟨_,_,j,_⟩:=h;exact j
theorem MK :∀w,(sizeOf 31).run Tryz.prog w=.ok 1 w:=fun _=>by kernel_rfl
theorem iw {k:IntKind}(hi:i<m)(h:K (.pointer (some ⟨g,0+i*1,none⟩)) w):aV Tryz.prog 120 (.slice (some ⟨g,0,none⟩) m c) (.int k (i:Nat)) K w:=by
 refine dJ (s:=1) underlying120 MK (by omega) (by omega) ?_;rw[Int.toNat_natCast];exact h
theorem ldS (u:SD w g n c xs)(hi:i<n)(h:K (uv (G xs i)) w):ld Tryz.prog 31 (.pointer (some ⟨g,0+i*1,none⟩)) K w:=by
 obtain⟨rest,j,C,_⟩:=u;refine lK j ?_ h;rw[Nat.zero_add,Nat.mul_one,List.getElem?_append_left (by simp;omega),List.getElem?_map,List.getElem?_eq_getElem (by omega)];simp[G,List.getD,show i<xs.length by omega]
theorem Cc {v:Int}(I:SD w g n c xs)(hi:i<n)(h:∀w',SD w' g n c (xs.set i v)→Oth g w w'→K undef w'):sto Tryz.prog 31 (.pointer (some ⟨g,0+i*1,none⟩)) (uv v) K w:=by
 obtain⟨rest,u,J,C,M⟩:=I;refine eB MK u (by simp;omega) rfl ?_;intro w' j O;refine h w' ⟨rest,?_,by simp[J],C,M⟩ O;rw[Nat.zero_add,Nat.mul_one,List.set_append_left _ _ (by simp;omega), ←List.map_set]at j;exact j
theorem ru {y:Int}(h:K (.bool (decide (x<y))) w):call Tryz.prog 193 #[uv x,uv y] K w:=by
 refine aj (goK func193) (Ez ?_);have j:∀{z:Int} {K':KV},K' (.bool false) w→call Tryz.prog 93 #[uv z] K' w:=by
  intro z K' u;refine aj (goK func93) (wn ?_);refine bN ?_;rw[decide_eq_false (fun C=>C rfl)];exact u
 refine j ?_
 (repeat (first|refine aM ?_|refine dA ?_|refine mE ?_|refine lR ?_))
 exact h
theorem cw {a b d:World}(h:Oth g a b)(k:Oth g b d):Oth g a d:=⟨k.os.trans h.os,k.tape.trans h.tape,k.output.trans h.output,k.size.trans h.size,fun i hi=>(k.other i hi).trans (h.other i hi)⟩
theorem co (h:Oth g w w'):Oth g w w'.drew:=⟨h.os,h.tape,h.output,h.size,h.other⟩
theorem lh (w:World)(g:Nat):Oth g w w:=⟨rfl,rfl,rfl,rfl,fun _ _=>rfl⟩
end
section
attribute [local irreducible] bin un conv call bY blt slc aT fld aV idx lkp dO gY eSt rng nxt ent ext alc box bld bT ld sto aU dE mkS ifc pick rdy wts aI sti cond bp Gives ae fh fT cOp
open Go.RowKit
theorem Sv {v:Int}(hi:i<xs.length):G (xs.set i v) k=if k=i then v else G xs k:=by
 unfold G;by_cases h:k=i
 ·subst h;simp[List.getD,hi]
 ·have : ¬i=k:=fun e=>h e.symm
  simp[List.getD,h,this]
theorem yL (hi:i<xs.length)(h:j<xs.length):G (swp xs i j) k=if k=j then G xs i else if k=i then G xs j else G xs k:=by
 unfold swp;rw[Sv (by simpa using h),Sv hi]
def Srt (xs:List Int)(a b:Nat):Prop:=∀i,a≤i→i+1<b→G xs i≤G xs (i+1)
structure Rng (a b:Nat) (xs ys:List Int):Prop where
 perm:ys.Perm xs
 out:∀k,k<a∨b≤k→G ys k=G xs k
theorem Rng.refl (a b:Nat)(xs:List Int):Rng a b xs xs:=⟨List.Perm.refl _,fun _ _=>rfl⟩
theorem Rng.trans {a:Nat}{ys zs:List Int}(h:Rng a b xs ys)(k:Rng a b ys zs):Rng a b xs zs:=⟨k.perm.trans h.perm,fun i hi=>(k.out i hi).trans (h.out i hi)⟩
theorem Rng.len {a:Nat}{ys:List Int}(h:Rng a b xs ys):ys.length=xs.length:=h.perm.length_eq
theorem Rng.mono {a:Nat}{ys:List Int}(h:Rng a b xs ys)(j:c≤a)(u:b≤d):Rng c d xs ys:=⟨h.perm,fun k C=>h.out k (by omega)⟩
theorem Rng.swp {a:Nat}(hi:i<xs.length)(h:j<xs.length)(u:a≤i∧i<b)(C:a≤j∧j<b):Rng a b xs (swp xs i j) :=
 ⟨Sl hi h,fun k I=>by rw[yL hi h,if_neg (by omega),if_neg (by omega)]⟩
theorem Rng.from {a:Nat}{ys:List Int}(h:Rng a b xs ys)(hb:b≤xs.length)(hn:xs.Nodup):∀k,a≤k→k<b→∃j,a≤j∧j<b∧G ys k=G xs j:=by
 intro k hk aa;have hl:=h.len;have e:G ys k=ys[k]'(by omega):=by simp[G,List.getD,show k<ys.length by omega]
 have hm:G ys k∈xs:=by rw[e];exact h.perm.subset (List.getElem_mem _)
 obtain⟨j,hj,u⟩:=List.getElem_of_mem hm;have M:G xs j=xs[j]:=by simp[G,List.getD,hj]
 by_cases hr:a≤j∧j<b
 ·exact⟨j,hr.1,hr.2,by rw[M,u]⟩
 ·have ho:=h.out j (by omega);have I:G ys j=ys[j]'(by omega):=by simp[G,List.getD,show j<ys.length by omega]
  have J:ys.Nodup:=h.perm.nodup_iff.2 hn;have O:ys[j]'(by omega)=ys[k]'(by omega):=by rw[←I, ←e,ho,M,u]
  have U:=List.pairwise_iff_getElem.1 J;rcases Nat.lt_trichotomy j k with C|C|C
  ·exact absurd O (U j k _ _ C)
  ·omega
  ·exact absurd O.symm (U k j _ _ C)
theorem Ry {a:Nat}(hd:SD w g n c xs)(az:a≤b)(hb:b≤n)(h:∀w' ys,SD w' g n c ys→Oth g w w'→Rng a b xs ys→Srt ys a b→K (.tuple #[]) w'):call Tryz.prog 187 #[.slice (some ⟨g,0,none⟩) n c,.int .i64 (a:Nat),.int .i64 (b:Nat)] K w:=by
 have hm:n≤4611686018427387904:=by obtain⟨_,_,_,_,hm⟩:=hd;exact hm
 refine aj (goK func187) (nE ?_)
 (repeat (first|refine aW (by omega) (by omega) ?_))
 refine mU (Inv:=fun i _ _ _ _ _ _ _ _ _ _ wr=>∃(p:Nat) (ys:List Int),i=.int .i64 (p:Nat)∧a+1≤p∧(p≤b∨p=a+1)∧SD wr g n c ys∧Oth g w wr∧Rng a b xs ys∧Srt ys a p)
  (μ:=fun i _ _ _ _ _ _ _ _ _ _ _=>b-(intOf i).toNat) ⟨a+1,xs,by simp,Nat.le_refl _,.inr rfl,hd,lh _ _,Rng.refl _ _ _,fun i I h2=>by omega⟩ ?_
 rintro _ _ _ _ _ _ _ _ _ _ _ _ w1 m ⟨p,ys,rfl,aE,aS,aa,o1,r1,s1⟩ ag;by_cases a0:p<b
 rotate_left
 ·(repeat (first|refine aM ?_|refine aq (by omega) ?_))
  exact h w1 ys aa o1 r1 (fun i I h2=>s1 i I (by omega))
 (repeat (first|refine aM ?_|refine ax (by omega) ?_))
 refine rH (Inv:=fun j _ _ _ _ _ _ _ _ _ _ wr=>∃(q:Nat) (zs:List Int),j=.int .i64 (q:Nat)∧a≤q∧q≤p∧SD wr g n c zs∧Oth g w wr∧Rng a b xs zs ∧
   (∀i,a≤i→i+1≤p→i+1≠q→G zs i≤G zs (i+1))∧(a<q→q<p→G zs (q-1)≤G zs (q+1)))
  (μ:=fun j _ _ _ _ _ _ _ _ _ _ _=>(intOf j).toNat) ⟨p,ys,rfl,by omega,Nat.le_refl _,aa,o1,r1,fun i I h2 h3=>s1 i I (by omega),fun _ h=>by omega⟩ ?_
 rintro _ _ _ _ _ _ _ _ _ _ _ _ w2 m2 ⟨q,zs,rfl,a2,a3,ad,o2,r2,J,av⟩ ap;have C:=ad.drew;refine aH (fun _=>de) ?_;by_cases ar:a<q
 ·have U:((q:Nat):Int)-1=((q-1:Nat):Int):=by omega
  have al:q<zs.length:=by rw[ad.len];omega
  refine dD (by omega) <|aH (fun _=>iw (by omega)) <|aH (fun _=>ldS C (by omega)) <|aH (fun _=>bh (by omega) (by omega)) ?_;rw[U];refine aH (fun _=>iw (by omega)) <|aH (fun _=>ldS C (by omega)) <|aH (fun _=>ru) <|aH (fun _=>bO (by omega)) ?_;by_cases af:G zs q<G zs (q-1)
  ·refine ax af <|aw (fun x=>SD x g n c zs) C.drew <|ab (fun x M _=>bh (by omega) (by omega)) <|ab (fun x M _=>bh (by omega) (by omega)) ?_;rw[U];refine ab (fun x M _=>iw (by omega)) <|ab (fun x M _=>ldS M (by omega)) <|ab (fun x M _=>iw (by omega)) <|ab (fun x M _=>ldS M (by omega)) <|ab (fun x M _=>iw (by omega)) <|Cc C.drew (by omega) ?_;intro w3 am o3
   refine aw (fun _=>True) trivial <|ab (fun x M _=>iw (by omega)) <|Cc am (by omega) ?_;intro w4 an o4;refine bh (by omega) (by omega) ?_;have O:q-1<zs.length:=by omega
   have gs:=fun k=>yL (k:=k) al O;refine⟨⟨q-1,swp zs q (q-1),by rw[U],by omega,by omega,an,cw (cw (co (co o2)) o3) o4,r2.trans (Rng.swp al O (by omega) (by omega)),fun i I h2 h3=>?_,fun I h2=>?_⟩,?_⟩
   ·rw[gs,gs];by_cases i1:i=q-1
    ·subst i1;rw[if_pos rfl,if_neg (by omega),if_pos (by omega)];omega
    by_cases i2:i=q
    ·subst i2;rw[if_neg i1,if_pos rfl,if_neg (by omega),if_neg (by omega)];exact av ar (by omega)
    by_cases i3:i+1=q-1
    ·omega
    rw[if_neg i1,if_neg i2,if_neg i3,if_neg (by omega)];exact J i I h2 (by omega)
   ·rw[gs,gs];rw[if_neg (by omega),if_neg (by omega),if_neg (by omega),if_pos (by omega)]
    have:=J (q-1-1) (by omega) (by omega) (by omega)
    rw[show q-1-1+1=q-1 by omega]at this;exact this
   ·rw[ap];show (intOf (.int .i64 ((q:Int)-1))).toNat<_;simp only[intOf];omega
  ·refine aq af <|jn ?_
   (repeat (first|refine aW (by omega) (by omega) ?_))
   refine⟨⟨p+1,zs,(show Value.int .i64 ((p:Int)+1)=_ by simp),by omega,.inl (by omega),C,co o2,r2,fun i I h2=>?_⟩,by rw[ag];show b-(intOf (.int .i64 ((p:Int)+1))).toNat<_;simp only[intOf];omega⟩;by_cases hi:i+1=q
   ·have:i=q-1:=by omega
    rw[hi,this];omega
   ·exact J i I (by omega) hi
 ·refine dY (by omega) <|aH (fun _=>bw (by omega)) <|aO <|jn ?_
  (repeat (first|refine aW (by omega) (by omega) ?_))
  exact⟨⟨p+1,zs,(show Value.int .i64 ((p:Int)+1)=_ by simp),by omega,.inl (by omega),C,co o2,r2,fun i I h2=>J i I (by omega) (by omega)⟩,by rw[ag];show b-(intOf (.int .i64 ((p:Int)+1))).toNat<_;simp only[intOf];omega⟩
theorem Wh {a:Nat}(hd:SD w g n c xs)(hb:b≤n)(h:∀w' ys,SD w' g n c ys→Oth g w w'→Rng a b xs ys→K (.tuple #[]) w'):call Tryz.prog 191 #[.slice (some ⟨g,0,none⟩) n c,.int .i64 (a:Nat),.int .i64 (b:Nat)] K w:=by
 have hm:n≤4611686018427387904:=by obtain⟨_,_,_,_,hm⟩:=hd;exact hm
 refine aj (goK func191) (sZ ?_);refine bh (by omega) (by omega) ?_;refine rR (Inv:=fun i j wr=>∃(p:Nat) (q:Int) (ys:List Int),i=.int .i64 (p:Nat)∧j=.int .i64 q∧a≤p∧(p:Int)≤q+2+a∧-1≤q∧q<b∧SD wr g n c ys∧Oth g w wr∧Rng a b xs ys)
  (μ:=fun i j _=>(intOf j+1).toNat) ⟨a,(b:Int)-1,xs,rfl,rfl,Nat.le_refl _,by omega,by omega,by omega,hd,lh _ _,Rng.refl _ _ _⟩ ?_
 rintro _ _ _ w1 m ⟨p,q,ys,rfl,rfl,hp,aa,ad,af,C,o1,r1⟩ U;refine aM ?_;by_cases J:(p:Int)<q
 rotate_left
 ·refine aq J ?_;exact h w1 ys C o1 r1
 refine ax J ?_;obtain⟨k,rfl⟩:=Int.eq_ofNat_of_zero_le (show 0≤q by omega);have hl:=C.len;refine aw (fun x=>SD x g n c ys) C.drew <|ab (fun x I _=>iw (by omega)) <|ab (fun x I _=>ldS I (by omega)) <|ab (fun x I _=>iw (by omega)) <|ab (fun x I _=>ldS I (by omega)) <|ab (fun x I _=>iw (by omega)) <|Cc C.drew (by omega) ?_;intro w3 M o3
 refine aw (fun _=>True) trivial <|ab (fun x I _=>iw (by omega)) <|Cc M (by omega) ?_;intro w4 O o4;refine aW (by omega) (by omega) <|bh (by omega) (by omega) ?_;refine⟨⟨p+1,(k:Int)-1,swp ys p k,by simp,rfl,by omega,by omega,by omega,by omega,O,cw (cw (co o1) o3) o4,r1.trans (Rng.swp (by omega) (by omega) (by omega) (by omega))⟩,?_⟩;rw[U];simp only[intOf];omega
end
section
open Go.RowKit
structure PIs (zs:List Int) (a b i j:Nat):Prop where
 hi:a+1≤i
 hj:a≤j∧j<b
 ij:i≤j+1
 lo:∀k,a<k→k<i→G zs k<G zs a
 up:∀k,j<k→k<b→G zs a≤G zs k
structure PR (ys:List Int) (a b m:Nat):Prop where
 hm:a≤m∧m<b
 lo:∀k,a≤k→k<m→G ys k<G ys m
 up:∀k,m<k→k<b→G ys m≤G ys k
theorem PIs.done {zs:List Int}{a:Nat}(h:PIs zs a b i j)(M : ¬i≤j)(hb:b≤zs.length):PR (swp zs j a) a b j:=by
 have U:=h.hi;have J:=h.hj;have h3:=h.ij;have C:=fun k=>yL (xs:=zs) (i:=j) (j:=a) (k:=k) (by omega) (by omega);refine⟨J,fun k I O=>?_,fun k I u=>?_⟩
 ·rw[C,C];by_cases e:k=a
  ·rw[if_pos e,if_neg (by omega),if_pos rfl];exact h.lo j (by omega) (by omega)
  ·rw[if_neg e,if_neg (by omega),if_neg (by omega),if_pos rfl];exact h.lo k (by omega) (by omega)
 ·rw[C,C];rw[if_neg (c:=k=a) (by omega),if_neg (c:=k=j) (by omega)];by_cases e:j=a
  ·rw[if_pos e,e]
   have:=h.up k (by omega) u
   exact this
  ·rw[if_neg e,if_pos rfl];exact h.up k I u
theorem PIs.swap {zs:List Int}{a:Nat}(h:PIs zs a b i j)(O:i≤j)(hb:b≤zs.length)(hi : ¬G zs i<G zs a)(J:G zs j<G zs a):PIs (swp zs i j) a b (i+1) (j-1)∧i<j:=by
 have h1:=h.hi;have h2:=h.hj;have h3:=h.ij;have aa:i≠j:=by rintro rfl;exact hi J
 have u:=fun k=>yL (xs:=zs) (i:=i) (j:=j) (k:=k) (by omega) (by omega);have I:G (swp zs i j) a=G zs a:=by rw[u,if_neg (by omega),if_neg (by omega)]
 refine⟨⟨by omega,by omega,by omega,fun k M U=>?_,fun k M C=>?_⟩,by omega⟩
 ·rw[I,u,if_neg (by omega)];by_cases e:k=i
  ·rw[if_pos e];exact J
  ·rw[if_neg e];exact h.lo k M (by omega)
 ·rw[I,u];by_cases e:k=j
  ·rw[if_pos e];omega
  ·rw[if_neg e,if_neg (by omega)];exact h.up k (by omega) C
end
section
attribute [local irreducible] bin un conv call bY blt slc aT fld aV idx lkp dO gY eSt rng nxt ent ext alc box bld bT ld sto aU dE mkS ifc pick rdy wts aI sti cond bp Gives ae fh fT cOp
open Go.RowKit
theorem FA {K2:Value→Value→Value→Value→Value→Value→World→Prop}(hd:SD w g n c xs)(hi:i<n)(hj:j<n)(h:∀w',SD w' g n c (swp xs i j)→Oth g w w'→K2 (.pointer (some ⟨g,0+j*1,none⟩)) (uv (G xs j)) (.pointer (some ⟨g,0+i*1,none⟩)) (uv (G xs i)) (.pointer (some ⟨g,0+i*1,none⟩)) (.pointer (some ⟨g,0+j*1,none⟩)) w'):aG (fun S w =>
   hld S (fun k w=>aV Tryz.prog 120 (.slice (some ⟨g,0,none⟩) n c) (.int .i64 (j:Nat)) k w) (fun I =>
   hld S (fun k w=>ld Tryz.prog 31 I k w) (fun J =>
   hld S (fun k w=>aV Tryz.prog 120 (.slice (some ⟨g,0,none⟩) n c) (.int .i64 (i:Nat)) k w) (fun M =>
   hld S (fun k w=>ld Tryz.prog 31 M k w) (fun O =>
   hld S (fun k w=>aV Tryz.prog 120 (.slice (some ⟨g,0,none⟩) n c) (.int .i64 (i:Nat)) k w) (fun U =>
   sto Tryz.prog 31 U J (fun _t w =>
   aG (fun S w =>
   hld S (fun k w=>aV Tryz.prog 120 (.slice (some ⟨g,0,none⟩) n c) (.int .i64 (j:Nat)) k w) (fun aa =>
   sto Tryz.prog 31 aa O (fun _t w=>K2 I J M O U aa w) w)) w) w)))))) w.drew:=by
 refine aw (fun x=>SD x g n c xs) hd.drew <|ab (fun x C _=>iw hj) <|ab (fun x C _=>ldS C hj) <|ab (fun x C _=>iw hi) <|ab (fun x C _=>ldS C hi) <|ab (fun x C _=>iw hi) <|Cc hd.drew hi ?_;intro w3 ad o3;refine aw (fun _=>True) trivial <|ab (fun x C _=>iw hj) <|Cc ad hj ?_;intro w4 af o4;exact h w4 af (cw (cw (co (lh _ _)) o3) o4)
theorem TI {a:Nat}(e0:Y5=.slice (some ⟨g,0,none⟩) n c)(e1:Z5=.int .i64 (a:Nat))(af:X6=.int .i64 (i:Nat))(ag:Y6=.int .i64 (j:Nat))(hd:SD w g n c xs)(hb:b≤n)(q:PIs xs a b i j)(hB:∀e w' (J M:Nat),gd e 10=.int .i64 ((J:Int)+1)→gd e 11=.int .i64 ((M:Int)-1)→i≤J→M≤j→J<M→SD w' g n c (swp xs J M)→Oth g w w'→PIs (swp xs J M) a b (J+1) (M-1)→W4 e w')(al:∀{j:Nat} {wz:World} {f:Bool},SD wz g n c (swp xs j a)→Oth g w wz→PIs xs a b (j+1) j→K (.tuple #[.int .i64 (j:Nat),.bool f]) wz):gO K W4 ((aD Y5 Z5 K6 W6 X6 Y6 Z6 u7 B7 K7 W7 X7 Y7 Z7 B8 K8 W8 X8 Y8 Z8 l9 n9 u9 B9 K9 W9 X9 Y9 Z9 ia ja ka qa ua xa ya Aa Ba Ca Da Ea Fa Ga Ha zf)) w:=by
 subst e0 e1 af ag;have hm:n≤4611686018427387904:=by obtain⟨_,_,_,_,hm⟩:=hd;exact hm
 have lz:=hd.len;refine tF (Inv:=fun J _ _ _ _ _ _ _ _ _ wr=>∃q:Nat,J=.int .i64 (q:Nat)∧i≤q∧PIs xs a b q j∧SD wr g n c xs∧Oth g w wr) (μ:=fun i _ _ _ _ _ _ _ _ _ _=>b-(intOf i).toNat) ⟨i,rfl,Nat.le_refl _,q,hd,lh _ _⟩ ?_;rintro _ _ _ _ _ _ _ _ _ _ _ w2 m2 ⟨i,rfl,am,U,d2,o2⟩ ap;have a0:=U.hi;have a3:=U.hj;have az:=U.ij
 have C:∀{w3:World},SD w3 g n c xs→Oth g w w3→(¬i≤j∨¬G xs i<G xs a)→∀{Y5 Z5 K6 W6 X6 Y6 Z6 u7 B7 K7 W7 X7 Y7 Z7 B8 K8 W8 X8 Y8 Z8 l9 n9 u9 B9 K9 W9 X9 Y9 Z9 ia ja ka qa ua xa ya Aa Ba Ca Da Ea Fa Ga Ha:Value} {zf:Nat→Value},Y5=.slice (some ⟨g,0,none⟩) n c→Z5=.int .i64 (a:Nat)→X6=.int .i64 (i:Nat)→Y6=.int .i64 (j:Nat)→cW K W4 ((aD Y5 Z5 K6 W6 X6 Y6 Z6 u7 B7 K7 W7 X7 Y7 Z7 B8 K8 W8 X8 Y8 Z8 l9 n9 u9 B9 K9 W9 X9 Y9 Z9 ia ja ka qa ua xa ya Aa Ba Ca Da Ea Fa Ga Ha zf)) w3:=by
  intro w3 d3 o3 av
  intros
  rename_i e1 e2 e3 e4;subst e1 e2 e3 e4;refine tK <|tG (Inv:=fun M _ _ _ _ _ _ _ _ _ _ wr=>∃q:Nat,M=.int .i64 (q:Nat)∧q≤j∧PIs xs a b i q∧SD wr g n c xs∧Oth g w wr) (μ:=fun j _ _ _ _ _ _ _ _ _ _ _=>(intOf j).toNat) ⟨j,rfl,Nat.le_refl _,U,d3,o3⟩ ?_;rintro _ _ _ _ _ _ _ _ _ _ _ _ w4 m4 ⟨j,rfl,an,O,d4,o4⟩ ar;have a2:=O.hi;have a4:=O.hj;have aE:=O.ij
  have I:∀{w5:World},SD w5 g n c xs→Oth g w w5→(¬i≤j∨G xs j<G xs a)→∀{Y5 Z5 K6 W6 X6 Y6 Z6 u7 B7 K7 W7 X7 Y7 Z7 B8 K8 W8 X8 Y8 Z8 l9 n9 u9 B9 K9 W9 X9 Y9 Z9 ia ja ka qa ua xa ya Aa Ba Ca Da Ea Fa Ga Ha:Value} {zf:Nat→Value},Y5=.slice (some ⟨g,0,none⟩) n c→Z5=.int .i64 (a:Nat)→X6=.int .i64 (i:Nat)→Y6=.int .i64 (j:Nat)→cY K W4 ((aD Y5 Z5 K6 W6 X6 Y6 Z6 u7 B7 K7 W7 X7 Y7 Z7 B8 K8 W8 X8 Y8 Z8 l9 n9 u9 B9 K9 W9 X9 Y9 Z9 ia ja ka qa ua xa ya Aa Ba Ca Da Ea Fa Ga Ha zf)) w5:=by
   intro w5 d5 o5 ad
   intros
   rename_i e1 e2 e3 e4;subst e1 e2 e3 e4;refine tL <|de ?_;by_cases aS:j<i
   ·refine ax (by omega) <|tJ <|FA (i:=j) (j:=a) d5 (by omega) (by omega) ?_;intro w6 d6 o6
    have:i=j+1:=by omega
    subst this;exact al d6 (cw o5 o6) O
   ·refine aq (by omega) <|FA (i:=i) (j:=j) d5 (by omega) (by omega) ?_;intro w6 d6 o6;obtain⟨q6,aa⟩:=O.swap (by omega) (by omega) (av.resolve_left (by omega)) (ad.resolve_left (by omega));refine aW (by omega) (by omega) <|bh (by omega) (by omega) ?_;exact hB _ _ i j rfl rfl am an aa d6 (cw o5 o6) q6
  refine aH (fun _=>fU) ?_;by_cases c4:i≤j
  ·refine dD (by omega) <|aH (fun _=>iw (by omega)) <|aH (fun _=>ldS d4.drew (by omega)) <|aH (fun _=>iw (by omega)) <|aH (fun _=>ldS d4.drew (by omega)) <|aH (fun _=>ru) <|aH (fun _=>tO) <|aH (fun _=>bO (by omega)) ?_;by_cases u:G xs j<G xs a
   ·refine aq (by omega) ?_;exact I d4.drew (co o4) (.inr u) rfl rfl rfl rfl
   ·refine ax (by omega) <|bh (by omega) (by omega) ?_;refine⟨⟨j-1,by show Value.int .i64 _=Value.int .i64 _;congr 1;omega,by omega,⟨O.hi,by omega,by omega,O.lo,fun k h1 h2=>?_⟩,d4.drew,co o4⟩,by rw[ar];show (intOf (.int .i64 ((j:Int)-1))).toNat<_;simp only[intOf];omega⟩;by_cases e:k=j
    ·rw[e];omega
    ·exact O.up k (by omega) h2
  ·refine dY (by omega) <|aH (fun _=>bw (by omega)) <|aO ?_;exact I d4.drew (co o4) (.inl c4) rfl rfl rfl rfl
 refine aH (fun _=>fU) ?_;by_cases c2:i≤j
 ·refine dD (by omega) <|aH (fun _=>iw (by omega)) <|aH (fun _=>ldS d2.drew (by omega)) <|aH (fun _=>iw (by omega)) <|aH (fun _=>ldS d2.drew (by omega)) <|aH (fun _=>ru) <|aH (fun _=>bO (by omega)) ?_;by_cases u:G xs i<G xs a
  ·refine ax u <|aW (by omega) (by omega) ?_;refine⟨⟨i+1,(show Value.int .i64 ((i:Int)+1)=_ by simp),by omega,⟨by omega,U.hj,by omega,fun k h1 h2=>?_,U.up⟩,d2.drew,co o2⟩,by rw[ap];show b-(intOf (.int .i64 ((i:Int)+1))).toNat<_;simp only[intOf];omega⟩;by_cases e:k=i
   ·rw[e];exact u
   ·exact U.lo k h1 (by omega)
  ·refine aq u ?_;exact C d2.drew (co o2) (.inr u) rfl rfl rfl rfl
 ·refine dY (by omega) <|aH (fun _=>bw (by omega)) <|aO ?_;exact C d2.drew (co o2) (.inl c2) rfl rfl rfl rfl
theorem Vr {a:Nat}(hd:SD w g n c xs)(cL:a≤p)(c6:p<b)(hb:b≤n)(h:∀w' ys m f,SD w' g n c ys→Oth g w w'→Rng a b xs ys→PR ys a b m→K (.tuple #[.int .i64 (m:Nat),.bool f]) w'):call Tryz.prog 195 #[.slice (some ⟨g,0,none⟩) n c,.int .i64 (a:Nat),.int .i64 (b:Nat),.int .i64 (p:Nat)] K w:=by
 have hm:n≤4611686018427387904:=by obtain⟨_,_,_,_,hm⟩:=hd;exact hm
 have c5:=hd.len;refine aj (goK func195) (ue ?_);refine FA (i:=a) (j:=p) hd (by omega) (by omega) ?_;intro w1 d1 o1;have r1:Rng a b xs (swp xs a p):=Rng.swp (by omega) (by omega) (by omega) (by omega);obtain⟨zs,cm⟩:∃zs,swp xs a p=zs:=⟨_,rfl⟩
 rw[cm]at d1 r1;have lz:=d1.len;have ca:∀{z:List Int} {j:Nat} {wz:World} {f:Bool},SD wz g n c (swp z j a)→Oth g w wz→Rng a b xs z→PIs z a b (j+1) j→K (.tuple #[.int .i64 (j:Nat),.bool f]) wz:=by
  intro z j wz f d o r q;have hl:=r.len;have hj:=q.hj;exact h wz _ j f d o (r.trans (Rng.swp (by omega) (by omega) (by omega) (by omega))) (q.done (by omega) (by omega))
 refine aW (by omega) (by omega) <|bh (by omega) (by omega) <|tC (Inv:=fun i _ _ _ _ _ _ _ _ _ wr=>∃q:Nat,i=.int .i64 (q:Nat)∧PIs zs a b q (b-1)∧SD wr g n c zs∧Oth g w1 wr) (μ:=fun i _ _ _ _ _ _ _ _ _ _=>b-(intOf i).toNat) ⟨a+1,by simp,⟨Nat.le_refl _,by omega,by omega,fun k h1 h2=>by omega,fun k h1 h2=>by omega⟩,d1,lh _ _⟩ ?_;rintro _ _ _ _ _ _ _ _ _ _ _ w2 m2 ⟨i,rfl,q2,d2,o2⟩ ce;have cR:=q2.hi
 have cX:=q2.hj;have cp:=q2.ij
 have M:∀{w3:World},SD w3 g n c zs→Oth g w1 w3→(¬i≤b-1∨¬G zs i<G zs a)→∀{aJ a1 b2 a5 I J a8 a9 ba bb bd be bg bi bk bn bs bt bW b0 b3 b4 b5 b6 b7 U aa ad af ag al am an ap ar av az aE aS a0 a2 a3 a4 a7:Value} {zf:Nat→Value},aJ=.slice (some ⟨g,0,none⟩) n c→a1=.int .i64 (a:Nat)→I=.int .i64 (i:Nat)→J=.int .i64 ((b:Int)-1)→cS K ((aD aJ a1 b2 a5 I J a8 a9 ba bb bd be bg bi bk bn bs bt bW b0 b3 b4 b5 b6 b7 U aa ad af ag al am an ap ar av az aE aS a0 a2 a3 a4 a7 zf)) w3:=by
  intro w3 d3 o3 cl
  intros
  rename_i e1 e2 e3 e4;subst e1 e2 e3 e4;refine tH <|tD (Inv:=fun j _ _ _ _ _ _ _ _ _ _ wr=>∃q:Nat,j=.int .i64 (q:Nat)∧q≤b-1∧PIs zs a b i q∧SD wr g n c zs∧Oth g w1 wr) (μ:=fun j _ _ _ _ _ _ _ _ _ _ _=>(intOf j).toNat) ⟨b-1,by congr 1;omega,Nat.le_refl _,q2,d3,o3⟩ ?_;rintro _ _ _ _ _ _ _ _ _ _ _ _ w4 m4 ⟨j,rfl,c3,q4,d4,o4⟩ cf;have cV:=q4.hi;have c1:=q4.hj;have cD:=q4.ij
  have O:∀{w5:World},SD w5 g n c zs→Oth g w1 w5→(¬i≤j∨G zs j<G zs a)→∀{aJ a1 b2 a5 I J a8 a9 ba bb bd be bg bi bk bn bs bt bW b0 b3 b4 b5 b6 b7 U aa ad af ag al am an ap ar av az aE aS a0 a2 a3 a4 a7:Value} {zf:Nat→Value},aJ=.slice (some ⟨g,0,none⟩) n c→a1=.int .i64 (a:Nat)→I=.int .i64 (i:Nat)→J=.int .i64 (j:Nat)→cU K ((aD aJ a1 b2 a5 I J a8 a9 ba bb bd be bg bi bk bn bs bt bW b0 b3 b4 b5 b6 b7 U aa ad af ag al am an ap ar av az aE aS a0 a2 a3 a4 a7 zf)) w5:=by
   intro w5 d5 o5 cc
   intros
   rename_i e1 e2 e3 e4;subst e1 e2 e3 e4;refine tI <|de ?_;by_cases cO:j<i
   ·refine ax (by omega) <|FA (i:=j) (j:=a) d5 (by omega) (by omega) ?_;intro w6 d6 o6
    have:i=j+1:=by omega
    subst this;exact ca d6 (cw (cw o1 o5) o6) r1 q4
   ·refine aq (by omega) <|FA (i:=i) (j:=j) d5 (by omega) (by omega) ?_;intro w6 d6 o6;obtain⟨q6,cI⟩:=q4.swap (by omega) (by omega) (cl.resolve_left (by omega)) (cc.resolve_left (by omega));have r6:=r1.trans (Rng.swp (xs:=zs) (i:=i) (j:=j) (by omega) (by omega) (by omega) (by omega));refine tB <|aW (by omega) (by omega) <|bh (by omega) (by omega) ?_
    refine tE (Inv:=fun i j _ _ _ _ _ _ _ _ _ _ _ _ _ _ _ _ _ _ _ wr=>∃(i' j':Nat) (z:List Int),i=.int .i64 (i':Nat)∧j=.int .i64 (j':Nat)∧PIs z a b i' j'∧SD wr g n c z∧Oth g w wr∧Rng a b xs z)
     (μ:=fun i j _ _ _ _ _ _ _ _ _ _ _ _ _ _ _ _ _ _ _ _=>(intOf j+2-intOf i).toNat) ⟨i+1,j-1,swp zs i j,by simp,by congr 1;omega,q6,d6,cw (cw o1 o5) o6,r6⟩ ?_
    rintro _ _ _ _ _ _ _ _ _ _ _ _ _ _ _ _ _ _ _ _ _ _ w7 m7 ⟨i7,j7,z,rfl,rfl,q7,d7,o7,r7⟩ ch;have c7:=d7.len;refine TI rfl rfl rfl rfl d7 hb q7 ?_ (fun d o q=>ca d (cw o7 o) r7 q);intro e w8 i8 j8 b8 b9 h1 h2 h3 d8 o8 q8
    have:=q7.hi
    have:=q7.hj
    refine⟨⟨i8+1,j8-1,swp z i8 j8,by rw[b8];simp,by rw[b9];congr 1;omega,q8,d8,cw o7 o8,r7.trans (Rng.swp (by omega) (by omega) (by omega) (by omega))⟩,?_⟩;show (intOf (gd e 11)+2-intOf (gd e 10)).toNat<_;rw[b8,b9,ch];simp only[intOf];omega
  refine aH (fun _=>fU) ?_;by_cases c4:i≤j
  ·refine dD (by omega) <|aH (fun _=>iw (by omega)) <|aH (fun _=>ldS d4.drew (by omega)) <|aH (fun _=>iw (by omega)) <|aH (fun _=>ldS d4.drew (by omega)) <|aH (fun _=>ru) <|aH (fun _=>tO) <|aH (fun _=>bO (by omega)) ?_;by_cases C:G zs j<G zs a
   ·refine aq (by omega) ?_;exact O d4.drew (co o4) (.inr C) rfl rfl rfl rfl
   ·refine ax (by omega) <|bh (by omega) (by omega) ?_;refine⟨⟨j-1,by show Value.int .i64 _=Value.int .i64 _;congr 1;omega,by omega,⟨q4.hi,by omega,by omega,q4.lo,fun k h1 h2=>?_⟩,d4.drew,co o4⟩,by rw[cf];show (intOf (.int .i64 ((j:Int)-1))).toNat<_;simp only[intOf];omega⟩;by_cases e:k=j
    ·rw[e];omega
    ·exact q4.up k (by omega) h2
  ·refine dY (by omega) <|aH (fun _=>bw (by omega)) <|aO ?_;exact O d4.drew (co o4) (.inl c4) rfl rfl rfl rfl
 refine aH (fun _=>fU) ?_;by_cases c2:i≤b-1
 ·refine dD (by omega) <|aH (fun _=>iw (by omega)) <|aH (fun _=>ldS d2.drew (by omega)) <|aH (fun _=>iw (by omega)) <|aH (fun _=>ldS d2.drew (by omega)) <|aH (fun _=>ru) <|aH (fun _=>bO (by omega)) ?_;by_cases C:G zs i<G zs a
  ·refine ax C <|aW (by omega) (by omega) ?_;refine⟨⟨i+1,(show Value.int .i64 ((i:Int)+1)=_ by simp),⟨by omega,q2.hj,by omega,fun k h1 h2=>?_,q2.up⟩,d2.drew,co o2⟩,by rw[ce];show b-(intOf (.int .i64 ((i:Int)+1))).toNat<_;simp only[intOf];omega⟩;by_cases e:k=i
   ·rw[e];exact C
   ·exact q2.lo k h1 (by omega)
  ·refine aq C ?_;exact M d2.drew (co o2) (.inr C) rfl rfl rfl rfl
 ·refine dY (by omega) <|aH (fun _=>bw (by omega)) <|aO ?_;exact M d2.drew (co o2) (.inl c2) rfl rfl rfl rfl
def chi (i c:Nat):Prop:=c=2*i+1∨c=2*i+2
def Hp (xs:List Int)(f lo hi:Nat):Prop:=∀i c,lo≤i→chi i c→c<hi→G xs (f+c)≤G xs (f+i)
structure HI (xs:List Int) (f lo hi r:Nat):Prop where
 own:∀i c,lo≤i→i≠r→chi i c→c<hi→G xs (f+c)≤G xs (f+i)
 far:∀p c,lo≤p→chi p r→chi r c→c<hi→G xs (f+c)≤G xs (f+p)
theorem HI.start {lo:Nat}(h:Hp xs f (lo+1) hi):HI xs f lo hi lo :=
 ⟨fun i c u j C I=>h i c (by omega) C I,fun p c u j=>by unfold chi at j;omega⟩
theorem HI.stop {lo r:Nat}(h:HI xs f lo hi r)(I:∀c,chi r c→c<hi→G xs (f+c)≤G xs (f+r)):Hp xs f lo hi:=by
 intro i c C j u;by_cases e:i=r
 ·rw[e]at j ⊢; exact I c j u
 ·exact h.own i c C e j u
theorem HI.swap {lo r:Nat}(h:HI xs f lo hi r)(aa:lo≤r)(hf:f+hi≤xs.length)(C:chi r c)(U:c<hi)(ad:G xs (f+r)<G xs (f+c))(hs:∀M,chi r M→M<hi→G xs (f+M)≤G xs (f+c)):HI (swp xs (f+r) (f+c)) f lo hi c:=by
 have I:=fun k=>yL (xs:=xs) (i:=f+r) (j:=f+c) (k:=k) (by unfold chi at C;omega) (by omega);refine⟨fun i d O h2 u J=>?_,fun p d O h2 u J=>?_⟩
 ·rw[I,I];by_cases ei:i=r
  ·subst ei;rw[if_neg (c:=f+i=f+c) (by omega),if_pos rfl];by_cases ed:d=c
   ·rw[if_pos (by omega)];omega
   ·rw[if_neg (by omega),if_neg (by unfold chi at u;omega)];exact hs d u J
  ·rw[if_neg (c:=f+i=f+c) (by omega),if_neg (c:=f+i=f+r) (by omega),if_neg (by unfold chi at u C;omega)];by_cases ed:d=r
   ·rw[if_pos (by omega)];subst ed;exact h.far i c O u C U
   ·rw[if_neg (by omega)];exact h.own i d O ei u J
 ·have ep:p=r:=by unfold chi at h2 C;omega
  subst ep;rw[I,I];rw[if_neg (c:=f+p=f+c) (by unfold chi at C;omega),if_pos rfl,if_neg (by unfold chi at u;omega),if_neg (by unfold chi at u C;omega)];exact h.own c d (by unfold chi at C;omega) (by unfold chi at C;omega) u J
theorem Hp.top (h:Hp xs f 0 hi):∀k,k<hi→G xs (f+k)≤G xs f:=by
 intro k
 induction k using Nat.strongRecOn with
 | _ k ih =>
  intro j;by_cases e:k=0
  ·rw[e,Nat.add_zero];exact Int.le_refl _
  ·have u:=h ((k-1) / 2) k (by omega) (by unfold chi;omega) j;have C:=ih ((k-1) / 2) (by omega) (by omega);omega
section
variable {w w':World}{K:KV}{g n c:Nat}{xs:List Int}
theorem CL {K2:Value→Value→Value→Value→Value→Value→World→Prop}(hd:SD w g n c xs)(hi:i<n)(hj:j<n)(h:∀w',SD w' g n c (swp xs i j)→Oth g w w'→K2 (.pointer (some ⟨g,0+j*1,none⟩)) (uv (G xs j)) (.pointer (some ⟨g,0+i*1,none⟩)) (uv (G xs i)) (.pointer (some ⟨g,0+i*1,none⟩)) (.pointer (some ⟨g,0+j*1,none⟩)) w'):hld (fun x=>SD x g n c xs) (fun k w=>aV Tryz.prog 120 (.slice (some ⟨g,0,none⟩) n c) (.int .i64 (j:Nat)) k w) (fun I =>
   hld (fun x=>SD x g n c xs) (fun k w=>ld Tryz.prog 31 I k w) (fun J =>
   hld (fun x=>SD x g n c xs) (fun k w=>aV Tryz.prog 120 (.slice (some ⟨g,0,none⟩) n c) (.int .i64 (i:Nat)) k w) (fun M =>
   hld (fun x=>SD x g n c xs) (fun k w=>ld Tryz.prog 31 M k w) (fun O =>
   hld (fun x=>SD x g n c xs) (fun k w=>aV Tryz.prog 120 (.slice (some ⟨g,0,none⟩) n c) (.int .i64 (i:Nat)) k w) (fun U =>
   sto Tryz.prog 31 U J (fun _t w =>
   aG (fun S w =>
   hld S (fun k w=>aV Tryz.prog 120 (.slice (some ⟨g,0,none⟩) n c) (.int .i64 (j:Nat)) k w) (fun aa =>
   sto Tryz.prog 31 aa O (fun _t w=>K2 I J M O U aa w) w)) w) w))))):=by
 refine ab (fun x C _=>iw hj) <|ab (fun x C _=>ldS C hj) <|ab (fun x C _=>iw hi) <|ab (fun x C _=>ldS C hi) <|ab (fun x C _=>iw hi) <|Cc hd hi ?_;intro w3 ad o3;refine aw (fun _=>True) trivial <|ab (fun x C _=>iw hj) <|Cc ad hj ?_;intro w4 af o4;exact h w4 af (cw o3 o4)
theorem ye (a b:Nat):(a:Int)+(b:Int)=((a+b:Nat):Int):=rfl
theorem uE (a:Nat):(a:Int)+1=((a+1:Nat):Int):=rfl
theorem VO (a:Nat):(2:Int)*(a:Int)=((2*a:Nat):Int):=by omega
theorem rS {a:Nat}(h:0<a):(a:Int)-1=((a-1:Nat):Int):=by omega
theorem Lp {a:Nat}(h:b≤a):(a:Int)-(b:Int)=((a-b:Nat):Int):=by omega
theorem JY {lo r ch:Nat}(U:Y5=.slice (some ⟨g,0,none⟩) n c)(e3:K6=.int .i64 (f:Nat))(e8:W6=.int .i64 (r:Nat))(e9:X6=.int .i64 (ch:Nat))(C:SD w g n c xs)(hb:f+hi≤n)(hr:r<hi)(hc:chi r ch)(aa:ch<hi)(hs:∀I,chi r I→I<hi→G xs (f+I)≤G xs (f+ch))(h:∀w',¬G xs (f+r)<G xs (f+ch)→SD w' g n c xs→Oth g w w'→K (.tuple #[]) w')(hB:∀e w',gd e 8=.int .i64 (ch:Nat)→G xs (f+r)<G xs (f+ch)→SD w' g n c (swp xs (f+r) (f+ch))→Oth g w w'→W4 e w'):df K W4 ((dw Y5 Z5 K6 W6 X6 Y6 Z6 u7 B7 K7 W7 X7 Y7 Z7 B8 K8 W8 X8 Y8 Z8 zf)) w:=by
 subst U e3 e8 e9;have O:n≤4611686018427387904:=by obtain⟨_,_,_,_,O⟩:=C;exact O
 refine lP <|aw (fun x=>SD x g n c xs) C.drew <|ab (fun x j _=>aW (by omega) (by omega)) ?_;rw[ye];refine ab (fun x j _=>iw (by omega)) <|ab (fun x j _=>ldS j (by omega)) <|ab (fun x j _=>aW (by omega) (by omega)) ?_;rw[ye];refine ab (fun x j _=>iw (by omega)) <|ab (fun x j _=>ldS j (by omega)) <|ru <|aw (fun _=>True) trivial <|ab (fun x j _=>tO) ?_;by_cases u:G xs (f+r)<G xs (f+ch)
 rotate_left
 ·refine ax u ?_;exact h _ u C.drew (co (lh _ _))
 refine aq (by omega) <|aw (fun x=>SD x g n c xs) C.drew.drew <|ab (fun x j _=>aW (by omega) (by omega)) <|ab (fun x j _=>aW (by omega) (by omega)) <|ab (fun x j _=>aW (by omega) (by omega)) ?_;rw[ye,ye];refine ab (fun x j _=>iw (by omega)) <|ab (fun x j _=>ldS j (by omega)) <|ab (fun x j _=>aW (by omega) (by omega)) ?_;rw[ye]
 refine ab (fun x j _=>iw (by omega)) <|ab (fun x j _=>ldS j (by omega)) <|ab (fun x j _=>iw (by omega)) <|Cc C.drew.drew (by omega) ?_;intro w3 J o3;refine aw (fun _=>True) trivial <|ab (fun x j _=>iw (by omega)) <|Cc J (by omega) ?_;intro w4 M o4;exact hB _ _ rfl u M (cw (cw (co (co (lh _ _))) o3) o4)
theorem Qr {lo:Nat}(hd:SD w g n c xs)(hb:f+hi≤n)(al:lo<hi∨lo=0)(hp:Hp xs f (lo+1) hi)(h:∀w' ys,SD w' g n c ys→Oth g w w'→Rng f (f+hi) xs ys→Hp ys f lo hi→K (.tuple #[]) w'):call Tryz.prog 204 #[.slice (some ⟨g,0,none⟩) n c,.int .i64 (lo:Nat),.int .i64 (hi:Nat),.int .i64 (f:Nat)] K w:=by
 have hm:n≤4611686018427387904:=by obtain⟨_,_,_,_,hm⟩:=hd;exact hm
 refine aj (goK func204) (uY ?_);refine lO (Inv:=fun r _ _ _ _ _ _ _ _ _ _ _ _ _ _ wr=>∃(p:Nat) (z:List Int),r=.int .i64 (p:Nat)∧lo≤p∧(p<hi∨p=0)∧SD wr g n c z∧Oth g w wr∧Rng f (f+hi) xs z∧HI z f lo hi p)
  (μ:=fun r _ _ _ _ _ _ _ _ _ _ _ _ _ _ _=>hi-(intOf r).toNat) ⟨lo,xs,rfl,Nat.le_refl _,al,hd,lh _ _,Rng.refl _ _ _,HI.start hp⟩ ?_
 rintro _ _ _ _ _ _ _ _ _ _ _ _ _ _ _ _ w1 m ⟨r,z,rfl,ag,an,I,o1,r1,s1⟩ af;have lz:=I.len;refine DI (by omega) (by omega) ?_;rw[VO];refine aW (by omega) (by omega) ?_;rw[uE];refine bM ?_;by_cases am:hi≤2*r+1
 ·refine ax (by omega) ?_;exact h _ z I o1 r1 (s1.stop fun c U J=>by unfold chi at U;omega)
 refine aq (by omega) <|aH (fun _=>aW (by omega) (by omega)) ?_;rw[uE];refine aH (fun _=>aM) ?_;have ad:∀w',∀ch,chi r ch→ch<hi→(∀u,chi r u→u<hi→G z (f+u)≤G z (f+ch))→¬G z (f+r)<G z (f+ch)→SD w' g n c z→Oth g w w'→K (.tuple #[]) w':=by
  intro w' ch h1 h2 h3 h4 h5 h6;exact h _ z h5 h6 r1 (s1.stop fun c U J=>by have:=h3 c U J;omega)
 by_cases h2:2*r+1+1<hi
 ·refine dD (by omega) <|aH (fun _=>aW (by omega) (by omega)) ?_;rw[ye];refine aH (fun _=>iw (by omega)) <|aH (fun _=>ldS I.drew (by omega)) <|aH (fun _=>aW (by omega) (by omega)) ?_;rw[ye];refine aH (fun _=>aW (by omega) (by omega)) ?_;rw[uE];refine aH (fun _=>iw (by omega)) <|aH (fun _=>ldS I.drew (by omega)) <|aH (fun _=>ru) <|aH (fun _=>bO (by omega)) <|oC ?_
  by_cases J:G z (f+(2*r+1))<G z (f+(2*r+1)+1)
  ·refine ax J <|aW (by omega) (by omega) ?_;have O:∀u,chi r u→u<hi→G z (f+u)≤G z (f+(2*r+1+1)):=by
    intro u U aa;rcases U with rfl|rfl
    ·rw[←Nat.add_assoc f (2*r+1)];omega
    ·exact Int.le_refl _
   refine JY (f:=f) (lo:=lo) (hi:=hi) (r:=r) (ch:=2*r+1+1) rfl rfl rfl rfl I.drew hb (by omega) (.inr rfl) h2 O (fun w' a b d=>ad w' _ (.inr rfl) h2 O a b (cw (co o1) d)) ?_;intro e w' e8 C M o2;refine⟨⟨2*r+1+1,_,e8,by omega,.inl h2,M,cw (co o1) o2,r1.trans (Rng.swp (by omega) (by omega) (by omega) (by omega)),s1.swap ag (by omega) (.inr rfl) h2 C O⟩,?_⟩
   show hi-(intOf (gd e 8)).toNat<_;rw[e8,af];simp only[intOf];omega
  ·refine aq J ?_;have O:∀u,chi r u→u<hi→G z (f+u)≤G z (f+(2*r+1)):=by
    intro u U aa;rcases U with rfl|rfl
    ·exact Int.le_refl _
    ·rw[Nat.add_assoc f (2*r+1)]at J
     have:f+(2*r+2)=f+(2*r+1+1):=rfl
     rw[this];omega
   refine JY (f:=f) (lo:=lo) (hi:=hi) (r:=r) (ch:=2*r+1) rfl rfl rfl rfl I.drew hb (by omega) (.inl rfl) (by omega) O (fun w' a b d=>ad w' _ (.inl rfl) (by omega) O a b (cw (co o1) d)) ?_;intro e w' e8 C M o2
   refine⟨⟨2*r+1,_,e8,by omega,.inl (by omega),M,cw (co o1) o2,r1.trans (Rng.swp (by omega) (by omega) (by omega) (by omega)),s1.swap ag (by omega) (.inl rfl) (by omega) C O⟩,?_⟩;show hi-(intOf (gd e 8)).toNat<_;rw[e8,af];simp only[intOf];omega
 ·refine dY (by omega) <|aH (fun _=>bw (by omega)) <|oC <|aO ?_;have O:∀u,chi r u→u<hi→G z (f+u)≤G z (f+(2*r+1)):=by
   intro u U aa;rcases U with rfl|rfl
   ·exact Int.le_refl _
   ·omega
  refine JY (f:=f) (lo:=lo) (hi:=hi) (r:=r) (ch:=2*r+1) rfl rfl rfl rfl I.drew hb (by omega) (.inl rfl) (by omega) O (fun w' a b d=>ad w' _ (.inl rfl) (by omega) O a b (cw (co o1) d)) ?_;intro e w' e8 C M o2;refine⟨⟨2*r+1,_,e8,by omega,.inl (by omega),M,cw (co o1) o2,r1.trans (Rng.swp (by omega) (by omega) (by omega) (by omega)),s1.swap ag (by omega) (.inl rfl) (by omega) C O⟩,?_⟩
  show hi-(intOf (gd e 8)).toNat<_;rw[e8,af];simp only[intOf];omega
structure HS (z:List Int) (a b i:Nat):Prop where
 heap:Hp z a 0 i
 srt:Srt z (a+i) b
 sep:∀k m,k<i→a+i≤m→m<b→G z (a+k)≤G z m
theorem UR {a b : Nat} (hd : SD w g n c xs) (hab : a < b) (hb : b ≤ n) (hn : xs.Nodup) (h : ∀ w' ys, SD w' g n c ys → Oth g w w' → Rng a b xs ys → Srt ys a b → K (.tuple #[]) w') :
    call Tryz.prog 188 #[.slice (some ⟨g, 0, none⟩) n c, .int .i64 (a : Nat), .int .i64 (b : Nat)] K w := by
  have hm : n ≤ 4611686018427387904 := by obtain ⟨_, _, _, _, hm⟩ := hd; exact hm
  refine aj (goK Tryz.func188) (uX ?_)
  refine bh (by omega) (by omega) ?_
  rw [Lp (by omega)]
  refine bh (by omega) (by omega) ?_
  rw [rS (by omega)]
  refine IX (by omega) (by omega) (by omega) ?_
  refine tX (Inv := fun i wr => ∃ (p : Nat) (z : List Int), i = .int .i64 ((p : Int) - 1) ∧ (p ≤ b - a) ∧ SD wr g n c z ∧ Oth g w wr ∧ Rng a b xs z ∧ Hp z a p (b - a))
    (μ := fun i _ => (intOf i + 1).toNat) ⟨(b - a - 1) / 2 + 1, xs, by congr 1; omega, by omega, hd, lh _ _, Rng.refl _ _ _, fun i c h1 h2 h3 => by unfold chi at h2; omega⟩ ?_
  rintro _ _ w1 m ⟨p, z, rfl, hp1, hd1, o1, r1, s1⟩ hm1
  have lz := hd1.len
  refine bM ?_
  by_cases hp0 : 0 < p
  · refine ax (by omega) ?_
    rw [rS hp0]
    refine Qr hd1 (f := a) (lo := p - 1) (hi := b - a) (by omega) (by omega) (by rw [show p - 1 + 1 = p by omega]; exact s1) ?_
    intro w2 y hd2 o2 r2 s2
    rw [show a + (b - a) = b by omega] at r2
    refine bh (by omega) (by omega) ?_
    refine ⟨⟨p - 1, y, rfl, by omega, hd2, cw o1 o2, r1.trans r2, s2⟩, ?_⟩
    rw [hm1]; simp only [intOf]; omega
  refine aq (by omega) ?_
  refine tZ ?_
  have ep : p = 0 := by omega
  subst ep
  refine bh (by omega) (by omega) ?_
  refine tY (Inv := fun i wr => ∃ (p : Nat) (z : List Int), i = .int .i64 ((p : Int) - 1) ∧ (p ≤ b - a) ∧ SD wr g n c z ∧ Oth g w wr ∧ Rng a b xs z ∧ HS z a b p)
    (μ := fun i _ => (intOf i + 1).toNat) ⟨b - a, z, rfl, Nat.le_refl _, hd1, o1, r1, s1, fun i h1 h2 => by omega, fun k m h1 h2 h3 => by omega⟩ ?_
  rintro _ _ w3 m3 ⟨p, z3, rfl, hp3, hd3, o3, r3, s3⟩ hm3
  have lz3 := hd3.len
  refine bM ?_
  by_cases hp0 : 0 < p
  rotate_left
  · refine aq (by omega) ?_
    have ep : p = 0 := by omega
    subst ep
    exact h _ z3 hd3 o3 r3 s3.srt
  refine ax (by omega) ?_
  rw [rS hp0]
  refine aw (fun x => SD x g n c z3) hd3.drew ?_
  refine ab (fun x hx K hK => aW (by omega) (by omega) hK) ?_
  refine ab (fun x hx K hK => aW (by omega) (by omega) hK) ?_
  rw [ye]
  refine CL hd3.drew (i := a) (j := a + (p - 1)) (by omega) (by omega) ?_
  intro w4 hd4 o4
  have gs := fun k => yL (xs := z3) (i := a) (j := a + (p - 1)) (k := k) (by omega) (by omega)
  refine Qr hd4 (f := a) (lo := 0) (hi := p - 1) (by omega) (.inr rfl) ?_ ?_
  · intro i c h1 h2 h3
    rw [gs, gs, if_neg (by omega), if_neg (by unfold chi at h2; omega), if_neg (by unfold chi at h2; omega), if_neg (by omega)]
    exact s3.heap i c (by omega) h2 (by omega)
  intro w5 y hd5 o5 r5 s5
  refine bh (by omega) (by omega) ?_
  have hnz : z3.Nodup := r3.perm.nodup_iff.2 hn
  have r4 : Rng a (a + p) z3 (swp z3 a (a + (p - 1))) := Rng.swp (by omega) (by omega) (by omega) (by omega)
  have r34 := r4.trans (r5.mono (c := a) (d := a + p) (by omega) (by omega))
  have top : ∀ k, k < p - 1 → G y (a + k) ≤ G z3 a := by
    intro k hk
    obtain ⟨j, hj1, hj2, hj3⟩ := r34.from (by omega) hnz (a + k) (by omega) (by omega)
    rw [hj3]
    have := s3.heap.top (j - a) (by omega)
    rw [show a + (j - a) = j by omega] at this
    exact this
  have high : ∀ m, a + p ≤ m → G y m = G z3 m := fun m h1 => r34.out m (by omega)
  have at_p : G y (a + (p - 1)) = G z3 a := by rw [r5.out _ (by omega), gs, if_pos rfl]
  refine ⟨⟨p - 1, y, rfl, by omega, hd5, cw (cw (co o3) o4) o5, r3.trans (r34.mono (by omega) (by omega)), ⟨s5, fun i h1 h2 => ?_, fun k m h1 h2 h3 => ?_⟩⟩, ?_⟩
  · by_cases e : i = a + (p - 1)
    · rw [e, at_p, high _ (by omega)]
      have := s3.sep 0 (a + (p - 1) + 1) (by omega) (by omega) (by omega)
      exact this
    · rw [high _ (by omega), high _ (by omega)]
      exact s3.srt i (by omega) h2
  · by_cases e : m = a + (p - 1)
    · rw [e, at_p]; exact top k h1
    · rw [high m (by omega)]
      have h5 := top k h1
      have h6 := s3.sep 0 m (by omega) (by omega) h3
      rw [Nat.add_zero] at h6
      omega
  · rw [hm3, rS hp0]; simp only [intOf]; omega
end
def Low (a b:Nat)(xs:List Int):Prop:=∀i k,i<a→a≤k→k<b→G xs i<G xs k
theorem Low.rng {a:Nat}{ys:List Int}(h:Low a b xs)(r:Rng a b xs ys)(J:b≤xs.length)(M:xs.Nodup):Low a b ys:=by
 intro i k u C I;obtain⟨j,O,U,j3⟩:=r.from J M k C I;rw[r.out i (.inl u),j3];exact h i j u O U
section
variable {w w0 w':World}{K:KV}{g n c:Nat}{xs z:List Int}
theorem Mu {a:Nat}(e0:Y5=.slice (some ⟨g,0,none⟩) n c)(e1:Z5=.int .i64 (a:Nat))(e2:K6=.int .i64 (b:Nat))(e7:W6=.int .i64 (i:Nat))(e8:X6=.int .i64 (s:Nat))(O:SD w g n c z)(ho:Oth g w0 w)(hr:Rng a b xs z)(hs:Srt z a i)(ad:a<i)(af:i<b)(hb:b≤n)(an:s<5)(M:∀e w' z,gd e 7=.int .i64 (i:Nat)→gd e 8=.int .i64 ((s:Int)+1)→SD w' g n c z→Oth g w0 w'→Rng a b xs z→Srt z a i→W4 e w'):aX K W4 ((ak Y5 Z5 K6 W6 X6 Y6 Z6 u7 B7 K7 W7 X7 Y7 Z7 B8 K8 W8 X8 Y8 zf)) w:=by
 subst e0 e1 e2 e7 e8;have hm:n≤4611686018427387904:=by obtain⟨_,_,_,_,hm⟩:=O;exact hm
 refine pJ <|bh (by omega) (by omega) <|bM ?_;by_cases J:(2:Int)≤(b:Int)-i
 rotate_left
 ·refine aq J <|im <|aW (by omega) (by omega) ?_;exact M _ _ _ rfl rfl O ho hr hs
 refine ax J <|aW (by omega) (by omega) ?_;rw[uE];refine pH (Inv:=fun j wr=>∃(q:Nat) (z:List Int),j=.int .i64 (q:Nat)∧i+1≤q∧q≤b∧SD wr g n c z∧Oth g w0 wr∧Rng a b xs z∧Srt z a i) (μ:=fun j _=>b-(intOf j).toNat)
  ⟨i+1,z,rfl,Nat.le_refl _,by omega,O,ho,hr,hs⟩ ?_
 rintro _ _ w1 m1 ⟨q,I,rfl,ag,al,C,o1,r1,s1⟩ aa;have lz:=C.len;refine aM ?_;by_cases am:q<b
 rotate_left
 ·refine aq (by omega) <|im <|aW (by omega) (by omega) ?_;exact M _ _ _ rfl rfl C o1 r1 s1
 refine ax (by omega) <|aw (fun x=>SD x g n c I) C.drew <|ab (fun x u _=>iw (by omega)) <|ab (fun x u _=>ldS u (by omega)) <|ab (fun x u _=>bh (by omega) (by omega)) ?_;rw[rS (by omega)];refine ab (fun x u _=>iw (by omega)) <|ab (fun x u _=>ldS u (by omega)) <|ru <|aw (fun _=>True) trivial <|ab (fun x u _=>tO) ?_;by_cases U:G I q<G I (q-1)
 rotate_left
 ·refine ax U <|im <|aW (by omega) (by omega) ?_;exact M _ _ _ rfl rfl C.drew (co o1) r1 s1
 refine aq (by omega) <|aw (fun x=>SD x g n c I) C.drew.drew <|ab (fun x u _=>bh (by omega) (by omega)) <|ab (fun x u _=>bh (by omega) (by omega)) ?_;rw[rS (by omega)];refine CL C.drew.drew (i:=q) (j:=q-1) (by omega) (by omega) ?_;intro w4 d4 o4;refine aW (by omega) (by omega) ?_;have gs:=fun k=>yL (xs:=I) (i:=q) (j:=q-1) (k:=k) (by omega) (by omega)
 refine⟨⟨q+1,_,rfl,by omega,by omega,d4,cw (co (co o1)) o4,r1.trans (Rng.swp (by omega) (by omega) (by omega) (by omega)),fun k h1 J=>?_⟩,?_⟩
 ·rw[gs,gs,if_neg (by omega),if_neg (by omega),if_neg (by omega),if_neg (by omega)];exact s1 k h1 J
 ·rw[aa,uE];simp only[intOf];omega
theorem Vv {a:Nat}(e0:Y5=.slice (some ⟨g,0,none⟩) n c)(e1:Z5=.int .i64 (a:Nat))(e2:K6=.int .i64 (b:Nat))(e7:W6=.int .i64 (i:Nat))(e8:X6=.int .i64 (s:Nat))(hd:SD w g n c z)(ho:Oth g w0 w)(hr:Rng a b xs z)(hs:Srt z a (i-1))(J:a<i)(M:i<b)(hb:b≤n)(U:s<5)(aa:Low a b xs)(hn:xs.Nodup)(hB:∀e w' z,gd e 7=.int .i64 (i:Nat)→gd e 8=.int .i64 ((s:Int)+1)→SD w' g n c z→Oth g w0 w'→Rng a b xs z→Srt z a i→W4 e w'):dy K W4 ((ak Y5 Z5 K6 W6 X6 Y6 Z6 u7 B7 K7 W7 X7 Y7 Z7 B8 K8 W8 X8 Y8 zf)) w:=by
 subst e0 e1 e2 e7 e8;have hm:n≤4611686018427387904:=by obtain⟨_,_,_,_,hm⟩:=hd;exact hm
 refine pC <|bh (by omega) (by omega) <|bM <|pD ?_;by_cases h2:(2:Int)≤(i:Int)-a
 rotate_left
 ·refine aq h2 ?_;exact Mu rfl rfl rfl rfl rfl hd ho hr (fun k I h3=>by omega) J M hb U hB
 refine ax h2 <|bh (by omega) (by omega) ?_;rw[rS (by omega)];refine pG (Inv:=fun j wr=>∃(q:Nat) (z:List Int),j=.int .i64 (q:Nat)∧a≤q∧q≤i-1∧SD wr g n c z∧Oth g w0 wr∧Rng a b xs z ∧
   (∀k,a≤k→k+1≤i-1→k+1≠q→G z k≤G z (k+1))∧(a<q→q<i-1→G z (q-1)≤G z (q+1))) (μ:=fun j _=>(intOf j).toNat)
  ⟨i-1,z,rfl,by omega,Nat.le_refl _,hd,ho,hr,fun k I h2 h3=>hs k I (by omega),fun _ h=>by omega⟩ ?_
 rintro _ _ w1 m1 ⟨q,z1,rfl,am,an,d1,o1,r1,s1,x1⟩ ag;have lz:=d1.len;have C:=r1.len;have ad:=aa.rng r1 (by omega) hn;refine bM ?_;by_cases O:0<q
 rotate_left
 ·refine aq (by omega) ?_;exact Mu rfl rfl rfl rfl rfl d1 o1 r1 (fun k I h3=>s1 k I (by omega) (by omega)) J M hb U hB
 refine ax (by omega) <|aw (fun x=>SD x g n c z1) d1.drew <|ab (fun x C _=>iw (by omega)) <|ab (fun x C _=>ldS C (by omega)) <|ab (fun x C _=>bh (by omega) (by omega)) ?_;rw[rS O];refine ab (fun x C _=>iw (by omega)) <|ab (fun x C _=>ldS C (by omega)) <|ru <|aw (fun _=>True) trivial <|ab (fun x C _=>tO) ?_;by_cases af:G z1 q<G z1 (q-1)
 rotate_left
 ·refine ax af ?_;refine Mu rfl rfl rfl rfl rfl d1.drew (co o1) r1 (fun k I h3=>?_) J M hb U hB;by_cases e:k+1=q
  ·rw[e,show k=q-1 by omega];omega
  ·exact s1 k I (by omega) e
 refine aq (by omega) ?_;have al:a<q:=by
  rcases Nat.lt_or_ge a q with h|h
  ·exact h
  ·have:=ad (q-1) q (by omega) (by omega) (by omega)
   omega
 refine aw (fun x=>SD x g n c z1) d1.drew.drew <|ab (fun x C _=>bh (by omega) (by omega)) <|ab (fun x C _=>bh (by omega) (by omega)) ?_;rw[rS O];refine CL d1.drew.drew (i:=q) (j:=q-1) (by omega) (by omega) ?_;intro w4 d4 o4;refine bh (by omega) (by omega) ?_;rw[rS O];have gs:=fun k=>yL (xs:=z1) (i:=q) (j:=q-1) (k:=k) (by omega) (by omega)
 refine⟨⟨q-1,_,rfl,by omega,by omega,d4,cw (co (co o1)) o4,r1.trans (Rng.swp (by omega) (by omega) (by omega) (by omega)),fun k I h2 h3=>?_,fun I h2=>?_⟩,?_⟩
 ·rw[gs,gs];by_cases i1:k=q-1
  ·subst i1;rw[if_pos rfl,if_neg (by omega),if_pos (by omega)];omega
  by_cases i2:k=q
  ·subst i2;rw[if_neg i1,if_pos rfl,if_neg (by omega),if_neg (by omega)];exact x1 al (by omega)
  by_cases i3:k+1=q-1
  ·omega
  rw[if_neg i1,if_neg i2,if_neg i3,if_neg (by omega)];exact s1 k I h2 (by omega)
 ·rw[gs,gs];rw[if_neg (by omega),if_neg (by omega),if_neg (by omega),if_pos (by omega)]
  have:=s1 (q-1-1) (by omega) (by omega) (by omega)
  rw[show q-1-1+1=q-1 by omega]at this;exact this
 ·rw[ag];simp only[intOf];omega
theorem We {a:Nat}(hd:SD w g n c xs)(am:a<b)(hb:b≤n)(M:Low a b xs)(hn:xs.Nodup)(h:∀w' ys f,SD w' g n c ys→Oth g w w'→Rng a b xs ys→(f=true→Srt ys a b)→K (.bool f) w'):call Tryz.prog 192 #[.slice (some ⟨g,0,none⟩) n c,.int .i64 (a:Nat),.int .i64 (b:Nat)] K w:=by
 have hm:n≤4611686018427387904:=by obtain⟨_,_,_,_,hm⟩:=hd;exact hm
 refine aj (goK func192) (qj ?_);refine aW (by omega) (by omega) ?_;rw[uE];refine pE (Inv:=fun i j _ _ _ _ _ _ _ _ _ _ _ wr=>∃(p s:Nat) (z:List Int),i=.int .i64 (p:Nat)∧j=.int .i64 (s:Nat)∧a+1≤p∧p≤b∧SD wr g n c z∧Oth g w wr∧Rng a b xs z∧Srt z a p)
  (μ:=fun i j _ _ _ _ _ _ _ _ _ _ _ _=>5-(intOf j).toNat) ⟨a+1,0,xs,rfl,rfl,Nat.le_refl _,by omega,hd,lh _ _,Rng.refl _ _ _,fun k h1 h2=>by omega⟩ ?_
 rintro _ _ _ _ _ _ _ _ _ _ _ _ _ _ w1 m ⟨p,s,z,rfl,rfl,O,U,I,o1,r1,s1⟩ ad;have lz:=I.len;refine aM ?_;by_cases al:s<5
 rotate_left
 ·refine aq (by omega) <|pI ?_;exact h _ z false I o1 r1 (fun e=>by cases e)
 refine ax (by omega) <|pA ?_;refine pF (Inv:=fun i _ _ _ _ _ _ _ _ _ _ _ wr=>∃(p:Nat),i=.int .i64 (p:Nat)∧a+1≤p∧p≤b∧SD wr g n c z∧Oth g w wr∧Srt z a p)
  (μ:=fun i _ _ _ _ _ _ _ _ _ _ _ _=>b-(intOf i).toNat) ⟨p,rfl,O,U,I,o1,s1⟩ ?_
 rintro _ _ _ _ _ _ _ _ _ _ _ _ _ w2 m2 ⟨p,rfl,O,U,C,o2,s2⟩ af;refine aH (fun _=>aM) ?_;by_cases ag:p<b
 rotate_left
 ·refine dY (by omega) <|aH (fun _=>bw (by omega)) <|aO <|kY <|cA <|ax (by omega) ?_;refine h _ z true C.drew (co o2) r1 (fun _=>?_)
  have:p=b:=by omega
  rw[←this];exact s2
 refine dD (by omega) <|aH (fun _=>iw (by omega)) <|aH (fun _=>ldS C.drew (by omega)) <|aH (fun _=>bh (by omega) (by omega)) ?_;rw[rS (by omega)];refine aH (fun _=>iw (by omega)) <|aH (fun _=>ldS C.drew (by omega)) <|aH (fun _=>ru) <|aH (fun _=>tO) <|aH (fun _=>bO (by omega)) ?_;by_cases aa:G z p<G z (p-1)
 rotate_left
 ·refine ax aa <|aW (by omega) (by omega) ?_;refine⟨⟨p+1,rfl,by omega,by omega,C.drew,co o2,fun k h1 h2=>?_⟩,by rw[af,uE];simp only[intOf];omega⟩;by_cases e:k+1=p
  ·rw[e,show k=p-1 by omega];omega
  ·exact s2 k h1 (by omega)
 refine aq (by omega) <|kY <|cA <|aq (by omega) <|bh (by omega) (by omega) <|aM ?_;by_cases J:(b:Int)-a<50
 ·refine ax J ?_;exact h _ z false C.drew (co o2) r1 (fun e=>by cases e)
 refine aq J <|aw (fun x=>SD x g n c z) C.drew.drew <|ab (fun x hx _=>bh (by omega) (by omega)) <|ab (fun x hx _=>bh (by omega) (by omega)) ?_;rw[rS (by omega)];refine CL C.drew.drew (i:=p) (j:=p-1) (by omega) (by omega) ?_;intro w4 d4 o4;have gs:=fun k=>yL (xs:=z) (i:=p) (j:=p-1) (k:=k) (by omega) (by omega)
 refine Vv (s:=s) rfl rfl rfl rfl rfl d4 (cw (co (co o2)) o4) (r1.trans (Rng.swp (by omega) (by omega) (by omega) (by omega))) (fun k h1 h2=>?_) (by omega) ag hb al M hn ?_
 ·rw[gs,gs,if_neg (by omega),if_neg (by omega),if_neg (by omega),if_neg (by omega)];exact s2 k h1 (by omega)
 intro e w5 z5 e7 e8 d5 o5 r5 s5;refine⟨⟨p,s+1,z5,e7,by rw[e8,uE],by omega,by omega,d5,o5,r5,s5⟩,?_⟩;show 5-(intOf (gd e 8)).toNat<_;rw[e8,ad,uE];simp only[intOf];omega
end
end
end Go.Proofs.YtkbhfjljieopoaaGreatDoor
