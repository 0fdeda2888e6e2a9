import Derived.Test.YtgpfkmdknlcemaaGreatDoorEvF
import Derived.Test.YtgpfkmdknlcemaaGreatDoorQ6
import Derived.Test.YtgpfkmdknlcemaaGreatDoorQ3
import Derived.Test.YtgpfkmdknlcemaaGreatDoorQ1
import Derived.Test.YtgpfkmdknlcemaaGreatDoorQ5
import Derived.Test.YtgpfkmdknlcemaaGreatDoorQ4
namespace Go.Proofs.YtgpfkmdknlcemaaGreatDoor
set_option maxRecDepth 100000
set_option maxHeartbeats 4000000
open Tryz
section
attribute [local irreducible] bin un conv call dC blt slc ai fld aU idx lkp eX jl eSt rng nxt ent ext alc box bld dl ld sto bo eS mkS ifc pick rdy wts aJ sti cond bM Gives ae fU gX cOp
section
open Go.RowKit
theorem jM {w:World}{K:KV}{b o:Nat}(h:K (.pointer (some ⟨b,o+0,none⟩)) w):ai Tryz.prog 145 (.pointer (some ⟨b,o,none⟩)) 0 K w:=aM (by kernel_rfl) h
section
variable {w:World}{K:KV}{f:Nat}{e:EV}
theorem Pe {i:Int}(h:K (.bool (bV i)) w):call Tryz.prog 58 #[.int .i64 i] K w:=by
 refine aB (goK func58) (GV (cH ?_));unfold bV at h;by_cases d:i≥1
 ·rw[show decide (1≤i)=true from decide_eq_true d,Bool.true_and]at h;exact dE d (ir (bR d h))
 ·rw[show decide (1≤i)=false from decide_eq_false d,Bool.false_and]at h;exact eF d (bE d h)
theorem Ek {l:Int}(X:blk w f 145 (evC e))(h:∀w',blk w' f 145 (evC {e with n:=0,a:=0})→Oth f w w'→K (.bool (decide (l≤e.a)&&decide (e.a≤1125899906842624))) w'):call Tryz.prog 89 #[.pointer (some ⟨f,0,none⟩),.int .i64 l] K w:=by
 refine aB (goK func89) (BS (aw (jM (dQ (lK (v:=iv e.a) X rfl (cH ?_))))));have C:∀b:Bool,b=(decide (l≤e.a)&&decide (e.a≤1125899906842624))→bo (.pointer (some ⟨f,0,none⟩)) (fun I=>ai Q 145 I 0 fun J=>ai Q 54 J 4 fun V=>sto Q 24 V (cu 0) fun _=>bo (.pointer (some ⟨f,0,none⟩)) fun R=>ai Q 145 R 0 fun U=>ai Q 54 U 6 fun M=>sto Q 2 M (ci 0) fun _=>K (.bool b)) w:=by
  rintro b rfl;refine aw (jM (eO (dY (fun _=>by kernel_rfl) X (by show 9<14;decide) rfl fun w1 d j=>aw (jM (dQ (dY (fun _=>by kernel_rfl) d (by show 11<14;decide) rfl fun w2 h2 u=>?_))))));exact h w2 h2 ⟨u.os.trans j.os,u.tape.trans j.tape,u.output.trans j.output,u.size.trans j.size,fun k Z=>(u.other k Z).trans (j.other k Z)⟩
 by_cases d:e.a≥l
 ·refine dE d (aw (jM (dQ (lK (v:=iv e.a) X rfl (ir (bR d ?_))))));exact C _ (by rw[show decide (l≤e.a)=true from decide_eq_true d,Bool.true_and])
 ·refine eF d (bE d ?_);exact C _ (by rw[show decide (l≤e.a)=false from decide_eq_false d,Bool.false_and])
theorem Pf (d:blk w f 145 (evC e))(h:∀w',blk w' f 145 (evC {e with r:=0})→Oth f w w'→K (.bool (decide (0<e.r))) w'):call Tryz.prog 90 #[.pointer (some ⟨f,0,none⟩)] K w:=by
 refine aB (goK func90) (CD (aw (jM (gS (lK (v:=u6 e.r) d rfl (cB ?_))))));exact aw (jM (gS (dY (fun _=>by kernel_rfl) d (by show 12<14;decide) rfl fun C u j=>h C u j)))
theorem Vg (hb:blk w f 145 (evC e))(h:∀w',blk w' f 145 (evC {e with f:=0,r:=0})→Oth f w w'→K (.bool (decide (0<e.r)&&(decide (0<e.f)&&decide (e.f≠e.r)))) w'):call Tryz.prog 91 #[.pointer (some ⟨f,0,none⟩)] K w:=by
 have R:=hb.drew;refine aB (goK func91) (Du (aa (fun _=>aw) (aa (fun _=>jM) (aa (fun _=>po) (aa (v:=u6 e.f) (fun _=>lK R rfl) (aa (fun _=>cB) ?_))))))
 have M:∀b:Bool,b=(decide (0<e.f)&&decide (e.f≠e.r))→bo (.pointer (some ⟨f,0,none⟩)) (fun X=>ai Q 145 X 0 fun Z=>ai Q 54 Z 8 fun V=>sto Q 24 V (cu 0) fun _=>call Q 90 #[.pointer (some ⟨f,0,none⟩)] fun C w=>aJ C true (fun U=>U [.bool b] w) (fun k=>k [undef] w) fun u=>pick C (gd u 0) cF K) w.drew:=by
  rintro b rfl;refine aw (jM (po (dY (fun _=>by kernel_rfl) R (by show 13<14;decide) rfl fun w1 d I=>Pf (e:={e with f:=0}) d fun w2 h2 J=>?_)));have hh:=h w2 h2 ⟨J.os.trans I.os,J.tape.trans I.tape,J.output.trans I.output,J.size.trans I.size,fun k hk=>(J.other k hk).trans (I.other k hk)⟩;show aJ (.bool (decide (0<e.r))) true _ _ _;by_cases j:0<e.r
  ·rw[show decide (0<e.r)=true from decide_eq_true j,Bool.true_and]at hh;exact dE j (bR j hh)
  ·rw[show decide (0<e.r)=false from decide_eq_false j,Bool.false_and]at hh;exact eF j (bE j hh)
 by_cases d:0<e.f
 ·refine dE d (aa (fun _=>aw) (aa (fun _=>jM) (aa (fun _=>po) (aa (v:=u6 e.f) (fun _=>lK R rfl) (aa (fun _=>aw) (aa (fun _=>jM) (aa (fun _=>gS) (aa (v:=u6 e.r) (fun _=>lK R rfl) (aa (fun _=>cW) (aa (fun _=>bR d) ?_))))))))));exact M _ (by rw[show decide (0<e.f)=true from decide_eq_true d,Bool.true_and])
 ·refine eF d (aa (fun _=>bE d) ?_);exact M _ (by rw[show decide (0<e.f)=false from decide_eq_false d,Bool.false_and])
theorem RN (V:blk w f 145 (evC e))(h:∀w',blk w' f 145 (evC {e with t:=0})→Oth f w w'→K (.bool (bV e.t&&decide (e.t≠e.o))) w'):call Tryz.prog 92 #[.pointer (some ⟨f,0,none⟩)] K w:=by
 have u:=V.drew;refine aB (goK func92) (Dv (aa (fun _=>aw) (aa (fun _=>jM) (aa (fun _=>ic) (aa (v:=iv e.t) (fun _=>lK u rfl) (aa (fun _=>Pe) ?_))))));have j:∀b:Bool,b=(bV e.t&&decide (e.t≠e.o))→bo (.pointer (some ⟨f,0,none⟩)) (fun C=>ai Q 145 C 0 fun J=>ai Q 54 J 5 fun I=>sto Q 3 I (ci 0) fun _=>K (.bool b)) w.drew:=by
  rintro b rfl;exact aw (jM (ic (dY (fun _=>by kernel_rfl) u (by show 10<14;decide) rfl fun R U d=>h R U ⟨d.os,d.tape,d.output,d.size,d.other⟩)))
 cases M:bV e.t with
 | true =>
  refine nH (aa (fun _=>aw) (aa (fun _=>jM) (aa (fun _=>ic) (aa (v:=iv e.t) (fun _=>lK u rfl) (aa (fun _=>aw) (aa (fun _=>jM) (aa (fun _=>bS) (aa (v:=iv e.o) (fun _=>lK u rfl) (aa (fun _=>cW) (aa (fun _=>db) ?_))))))))));exact j _ (by rw[M,Bool.true_and])
 | false =>
  refine mK (aa (fun _=>fm) ?_);exact j _ (by rw[M,Bool.false_and])
end
end
section
open Go.RowKit
def uy (e:EV):EV:={e with
 n:=if e.k=1∨e.k=2∨e.k=3∨e.k=5 then 0 else e.n
 a:=if e.k=1∨e.k=2∨e.k=3∨e.k=5 then 0 else e.a
 t:=if e.k=5∨e.k=6 then 0 else e.t
 r:=if e.k=3∨e.k=4 then 0 else e.r
 f:=if e.k=4 then 0 else e.f}
def NE (e:EV):EV:={e with n:=0,a:=0,t:=0,r:=0,f:=0}
theorem QY {e:EV}:uy e=NE e↔e=nW e:=by
 obtain⟨o,s,I,V,J,R,M,U,k,n,t,a,r,f⟩:=e;simp only[uy,NE,nW,EV.mk.injEq,true_and];constructor
 ·rintro⟨u,h,d,j,C⟩;refine⟨?_,?_,?_,?_,?_⟩<;>split<;>simp_all
 ·rintro⟨u,h,d,j,C⟩;refine⟨?_,?_,?_,?_,?_⟩<;>split<;>simp_all
section
variable {w:World}{K:KV}{f:Nat}{e:EV}
theorem Tc (U:blk w f 145 (evC e))(h:∀w' e',blk w' f 145 (evC e')→Oth f w w'→(fdE e=true→e'=uy e)→K (.bool (fdE e)) w'):call Tryz.prog 60 #[.pointer (some ⟨f,0,none⟩)] K w:=by
 refine aB (goK func60) (BT (aw (jM (mP (lK (v:=kv8 e.k) U rfl (bm ?_))))));have tr:∀{u w2:World},Oth f w u→Oth f u w2→Oth f w w2:=fun d M=>⟨M.os.trans d.os,M.tape.trans d.tape,M.output.trans d.output,M.size.trans d.size,fun k hk=>(M.other k hk).trans (d.other k hk)⟩
 by_cases I:e.k=1
 ·refine ay I (Ek U fun u C d=>?_);have hh:=h u _ C d (fun _=>by unfold uy;rw[I];simp);rwa[show fdE e=(decide (0≤e.a)&&decide (e.a≤1125899906842624))by unfold fdE;rw[if_pos I]]at hh
 refine au I (bm ?_);by_cases J:e.k=2
 ·refine ay J (Ek U fun u C d=>?_);have hh:=h u _ C d (fun _=>by unfold uy;rw[J];simp);rwa[show fdE e=(decide (1≤e.a)&&decide (e.a≤1125899906842624))by unfold fdE smE;rw[if_neg I,if_pos J]]at hh
 refine au J (bm ?_);by_cases R:e.k=3
 ·have e3:fdE e=((decide (1≤e.a)&&decide (e.a≤1125899906842624))&&decide (0<e.r)):=by
   unfold fdE smE;rw[if_neg I,if_neg J,if_pos R];rfl
  refine ay R (Ek U fun u C d=>?_);cases j:(decide (1≤e.a)&&decide (e.a≤1125899906842624))with
  | true =>
   refine nH (Pf (e:={e with n:=0,a:=0}) C fun w2 h2 M=>db ?_);have hh:=h w2 _ h2 (tr d M) (fun _=>by unfold uy;rw[R];simp);rwa[e3,j,Bool.true_and]at hh
  | false =>
   refine mK (fm ?_);have hh:=h u _ C d (fun hf=>by rw[e3,j]at hf;cases hf);rwa[e3,j,Bool.false_and]at hh
 refine au R (bm (Ag ?_));by_cases V:e.k=4
 ·refine ay V (Vg U fun u C d=>?_);have hh:=h u _ C d (fun _=>by unfold uy;rw[V];simp);rwa[show fdE e=(decide (0<e.r)&&(decide (0<e.f)&&decide (e.f≠e.r)))by
   unfold fdE;rw[if_neg I,if_neg J,if_neg R,if_pos V,Bool.eq_iff_iff];simp only[Bool.and_eq_true,decide_eq_true_eq];constructor<;>(rintro⟨a,b,c⟩;exact⟨by omega,by omega,fun h=>c h.symm⟩)]at hh
 refine au V (bm ?_);by_cases X:e.k=5
 ·have e5:fdE e=((decide (1≤e.a)&&decide (e.a≤1125899906842624))&&(bV e.t&&decide (e.t≠e.o))):=by
   unfold fdE smE otE;rw[if_neg I,if_neg J,if_neg R,if_neg V,if_pos X]
  refine ay X (Ek U fun u C d=>?_);cases j:(decide (1≤e.a)&&decide (e.a≤1125899906842624))with
  | true =>
   refine nH (RN (e:={e with n:=0,a:=0}) C fun w2 h2 M=>db ?_);have hh:=h w2 _ h2 (tr d M) (fun _=>by unfold uy;rw[X];simp);rwa[e5,j,Bool.true_and]at hh
  | false =>
   refine mK (fm ?_);have hh:=h u _ C d (fun hf=>by rw[e5,j]at hf;cases hf);rwa[e5,j,Bool.false_and]at hh
 refine au X (bm ?_);by_cases Z:e.k=6
 ·refine ay Z (RN U fun u C d=>?_);have hh:=h u _ C d (fun _=>by unfold uy;rw[Z];simp);rwa[show fdE e=(bV e.t&&decide (e.t≠e.o))by unfold fdE otE;rw[if_neg I,if_neg J,if_neg R,if_neg V,if_neg X,if_pos Z]]at hh
 refine au Z (Ah (aw (jM (mP (lK (v:=kv8 e.k) U rfl (bm ?_))))));have hh:=h w e U ⟨rfl,rfl,rfl,rfl,fun _ _=>rfl⟩ (fun _=>by unfold uy;simp[I,J,R,V,X,Z]);rwa[show fdE e=decide (e.k=7)by unfold fdE;rw[if_neg I,if_neg J,if_neg R,if_neg V,if_neg X,if_neg Z]]at hh
theorem Us {b:Nat}{E:TypeId}{cs:List Value}{V:List Int}(M:blk w b E cs)(C:∀k,k<6→cs[2+k]? = some (u6 (V.getD k 0)))(h:∀m:Int,(∀k,k<6→V.getD k 0≤m)→(∃k,k<6∧m=V.getD k 0)→K (u6 m) w):call Tryz.prog 59 #[.slice (some ⟨b,2,none⟩) 6 6] K w:=by
 refine aB (goK func59) (vW (bx underlying76 (aV (uW (au (by decide) (uX ?_))))));refine eu underlying76 (s:=1) (fun _=>by kernel_rfl) (by decide) (by decide) <|lK (v:=u6 (V.getD 0 0)) M (C 0 (by omega)) ?_;refine uY (Inv:=fun m i w' => ∃(x:Int) (k:Nat),m=u6 x∧i=.int .i64 (k:Nat)∧1≤k∧k≤6∧w'=w∧(∀j,j<k→V.getD j 0≤x)∧∃j,j<6∧x=V.getD j 0) (μ:=fun _ i _=>6-(intOf i).toNat)
  ⟨_,1,rfl,rfl,by omega,by omega,rfl,fun j u=>by rw[show j=0 by omega];exact Int.le_refl _,0,by omega,rfl⟩ ?_
 rintro _ _ Z _ m ⟨x,k,rfl,rfl,R,U,rfl,d,J⟩ X;refine bx underlying76 (aV ?_);by_cases I:k<6
 ·refine ay (by omega) (eu underlying76 (s:=1) (fun _=>by kernel_rfl) (by omega) (by omega) ?_);rw[Int.toNat_natCast,Nat.mul_one];refine lK (v:=u6 (V.getD k 0)) M (C k I) (RK (aR (by omega) (by omega) ?_));refine⟨⟨_,k+1,rfl,ivS,by omega,by omega,rfl,fun j u=>?_,?_⟩,by rw[X];show 6-((k:Int)+1).toNat<6-(k:Int).toNat;omega⟩
  ·by_cases e:j=k
   ·subst e;split<;>omega
   ·have:=d j (by omega);split<;>omega
  ·split
   ·exact⟨k,I,rfl⟩
   ·exact J
 ·refine au (by omega) (uZ (h x (fun j u=>d j (by omega)) J))
end
end
end
section
open Go.RowKit
theorem JF {P:Program}{t:TypeId}{w:World}{K:KV}{p:Nat}{E:TypeId}{cs vs:List Value}{d:TypeDesc}(u:P.underlying t=some d)(C:d.isRow=true)(hi:(P.info? t).map (·.size)=some vs.length)(R:blk w p E cs)(J:cs=vs)(h:K (.agg vs.toArray) w):bM P [(some t,.pointer (some ⟨p,0,none⟩))] K w:=by
 subst J;have M:=run_loadVar_mid (P:=P) w p 0 t cs d (fun j v I=>by rw[R.cell,Nat.zero_add];exact I) u C hi;have e:(ks [(some t,.pointer (some ⟨p,0,none⟩))]).run P w=.ok (.agg cs.toArray) w:=by
  simp[ks,asAddr,Sem.run_bind,M]
 unfold bM;rw[e];exact⟨rfl,h⟩
attribute [local irreducible] bin un conv call dC blt slc ai fld aU idx lkp eX jl eSt rng nxt ent ext alc box bld dl ld sto bo eS mkS ifc pick rdy wts aJ sti cond bM Gives ae fU gX cOp
section
variable {w:World}{K:KV}
theorem Ic {i:Int}(h:K (.bool (bV i)) w):call Tryz.prog 77 #[.int .i64 i] K w:=by
 refine aB (goK func77) (CE ?_);unfold bV at h;refine cH ?_;by_cases d:i≥1
 ·refine dE d <|ir <|bR d ?_;rw[show decide (1≤i)=true from decide_eq_true d,Bool.true_and]at h;exact h
 ·refine eF d <|bE d ?_;rw[show decide (1≤i)=false from decide_eq_false d,Bool.false_and]at h;exact h
structure OW (w0 w:World) (e:EV) (cs:List Value):Prop where
 e:blk w w0.heap.size 54 (evC e)
 r:∃zs:List Value,blk w (w0.heap.size+1) 54 zs∧zs.length=14
 x:blk w (w0.heap.size+2) 54 cs
 l:cs.length=14
 bel:Below w0.heap.size w0 w
theorem OW.st {w0:World}{e:EV}{cs:List Value}{o:Nat}{t:TypeId}{v:Value}(g:OW w0 w e cs)(u:o<14)(J:v.oneCell'=true)(C:∀w,(sizeOf t).run Tryz.prog w=.ok 1 w)(h:∀w',OW w0 w' e (cs.set o v)→K undef w'):sto Tryz.prog t (.pointer (some ⟨w0.heap.size+2,o,none⟩)) v K w:=by
 obtain⟨U,R,d⟩:=g.r;exact dY C g.x (by rw[g.l];exact u) J fun I M j=>h I ⟨j.blk g.e (by omega),⟨U,j.blk R (by omega),d⟩,M,by rw[List.length_set,g.l],bA g.bel j (by omega)⟩
theorem yi {e1 t2 x3 j d:Value}{zf:Nat→Value}{w0:World}{e e':EV}(g:OW w0 w e (evC e'))(U:t2=.pointer (some ⟨w0.heap.size+1,0,none⟩))(u:x3=.pointer (some ⟨w0.heap.size+2,0,none⟩))(h:∀w',Below w0.heap.size w0 w'→K (.agg (evC e').toArray) w'):dD K ((eP e1 t2 x3 j d zf)) w:=by
 subst U u;refine Dy <|ldA (n:=14) (vs:=evC e') underlying54 rfl (by kernel_rfl) g.x rfl rfl ?_;obtain⟨V,C,J⟩:=g.r;refine iz (n:=14) (vs:=evC e') (by kernel_rfl) rfl C (by omega) (vw _) fun M R I=>?_;refine JF (vs:=evC e') underlying54 rfl (by kernel_rfl) R (by rw[List.take_zero,List.nil_append,List.drop_of_length_le (by omega),List.append_nil]) ?_;exact h M (bA g.bel I (by omega))
theorem Vh {e:EV}(h:∀w',Below w.heap.size w w'→K (.agg (evC (nW e)).toArray) w'):call Tryz.prog 78 #[.agg (evC e).toArray] K w:=by
 refine aB (goK func78) (FE ?_);refine dc fun w1 J b1 s1=>?_;have J:blk w1 w.heap.size 54 (evC e):=by simpa[Value.cells]using J
 refine dH (z:=.agg (evC ⟨0,0,0,0,0,0,0,0,0,0,0,0,0,0⟩).toArray) (by kernel_rfl) fun V C b2 s2=>?_;have C:blk V w1.heap.size 54 (evC ⟨0,0,0,0,0,0,0,0,0,0,0,0,0,0⟩):=by simpa[Value.cells]using C
 rw[s1]at C ⊢;have d:=af b2 J J.lt;refine bS <|lK (v:=iv e.o) d rfl <|lh <|lK (v:=u6 e.s) d rfl <|rr <|ldA (n:=6) (vs:=[u6 e.d0,u6 e.d1,u6 e.d2,u6 e.d3,u6 e.d4,u6 e.d5]) underlying25 rfl (by kernel_rfl) d rfl rfl <|mP <|lK (v:=kv8 e.k) d rfl <|fS (vs:=evC ⟨e.o,e.s,e.d0,e.d1,e.d2,e.d3,e.d4,e.d5,e.k,0,0,0,0,0⟩) (by kernel_rfl) ?_
 refine dH (z:=.agg (evC ⟨0,0,0,0,0,0,0,0,0,0,0,0,0,0⟩).toArray) (by kernel_rfl) fun w3 I X s3=>?_;have I:blk w3 V.heap.size 54 (evC ⟨0,0,0,0,0,0,0,0,0,0,0,0,0,0⟩):=by simpa[Value.cells]using I
 have M:V.heap.size=w.heap.size+2:=by omega
 rw[M]at I ⊢;refine iz (n:=14) (vs:=evC ⟨e.o,e.s,e.d0,e.d1,e.d2,e.d3,e.d4,e.d5,e.k,0,0,0,0,0⟩) (by kernel_rfl) rfl I (by simp[evC]) (vw _) fun w4 h4 U=>?_;have g:OW w w4 e (evC ⟨e.o,e.s,e.d0,e.d1,e.d2,e.d3,e.d4,e.d5,e.k,0,0,0,0,0⟩) :=
  ⟨U.blk (af X d d.lt) (by omega),⟨_,U.blk (af X C C.lt) (by omega),rfl⟩,h4,rfl,bA (b1.trans ((b2.mono (by omega)).trans (X.mono (by omega)))) U (by omega)⟩
 refine mP <|lK (v:=kv8 e.k) g.e rfl ?_;have u:∀e',e'=nW e→∀w',Below w.heap.size w w'→K (.agg (evC e').toArray) w':=fun e' he=>he ▸ h;refine Dw <|bm <|Dx ?_;by_cases R:e.k=1
 ·refine ay R <|vX <|ay R <|eO <|lK (v:=u6 e.n) g.e rfl <|eO ?_;refine g.st (by decide) rfl (fun _=>by kernel_rfl) fun j g=>?_;refine dQ <|lK (v:=iv e.a) g.e rfl <|dQ ?_;refine g.st (by decide) rfl (fun _=>by kernel_rfl) fun j g=>?_;exact yi (e':=⟨e.o,e.s,e.d0,e.d1,e.d2,e.d3,e.d4,e.d5,e.k,e.n,0,e.a,0,0⟩) g rfl rfl (u _ (by simp[nW, *]))
 refine au R <|bm <|vX ?_;by_cases k2:e.k=2
 ·refine ay k2 <|eO <|lK (v:=u6 e.n) g.e rfl <|eO ?_;refine g.st (by decide) rfl (fun _=>by kernel_rfl) fun j g=>?_;refine dQ <|lK (v:=iv e.a) g.e rfl <|dQ ?_;refine g.st (by decide) rfl (fun _=>by kernel_rfl) fun j g=>?_;exact yi (e':=⟨e.o,e.s,e.d0,e.d1,e.d2,e.d3,e.d4,e.d5,e.k,e.n,0,e.a,0,0⟩) g rfl rfl (u _ (by simp[nW, *]))
 refine au k2 <|bm ?_;by_cases k3:e.k=3
 ·refine ay k3 <|eO <|lK (v:=u6 e.n) g.e rfl <|eO ?_;refine g.st (by decide) rfl (fun _=>by kernel_rfl) fun j g=>?_;refine dQ <|lK (v:=iv e.a) g.e rfl <|dQ ?_;refine g.st (by decide) rfl (fun _=>by kernel_rfl) fun j g=>?_;refine gS <|lK (v:=u6 e.r) g.e rfl <|gS ?_;refine g.st (by decide) rfl (fun _=>by kernel_rfl) fun j g=>?_
  exact yi (e':=⟨e.o,e.s,e.d0,e.d1,e.d2,e.d3,e.d4,e.d5,e.k,e.n,0,e.a,e.r,0⟩) g rfl rfl (u _ (by simp[nW, *]))
 refine au k3 <|bm ?_;by_cases k4:e.k=4
 ·refine ay k4 <|gS <|lK (v:=u6 e.r) g.e rfl <|gS ?_;refine g.st (by decide) rfl (fun _=>by kernel_rfl) fun j g=>?_;refine po <|lK (v:=u6 e.f) g.e rfl <|po ?_;refine g.st (by decide) rfl (fun _=>by kernel_rfl) fun j g=>?_;exact yi (e':=⟨e.o,e.s,e.d0,e.d1,e.d2,e.d3,e.d4,e.d5,e.k,0,0,0,e.r,e.f⟩) g rfl rfl (u _ (by simp[nW, *]))
 refine au k4 <|bm ?_;by_cases Z:e.k=5
 ·refine ay Z <|eO <|lK (v:=u6 e.n) g.e rfl <|eO ?_;refine g.st (by decide) rfl (fun _=>by kernel_rfl) fun j g=>?_;refine dQ <|lK (v:=iv e.a) g.e rfl <|dQ ?_;refine g.st (by decide) rfl (fun _=>by kernel_rfl) fun j g=>?_;refine ic <|lK (v:=iv e.t) g.e rfl <|ic ?_;refine g.st (by decide) rfl (fun _=>by kernel_rfl) fun j g=>?_
  exact yi (e':=⟨e.o,e.s,e.d0,e.d1,e.d2,e.d3,e.d4,e.d5,e.k,e.n,e.t,e.a,0,0⟩) g rfl rfl (u _ (by simp[nW, *]))
 refine au Z <|bm ?_;by_cases k6:e.k=6
 ·refine ay k6 <|ic <|lK (v:=iv e.t) g.e rfl <|ic ?_;refine g.st (by decide) rfl (fun _=>by kernel_rfl) fun j g=>?_;exact yi (e':=⟨e.o,e.s,e.d0,e.d1,e.d2,e.d3,e.d4,e.d5,e.k,0,e.t,0,0,0⟩) g rfl rfl (u _ (by simp[nW, *]))
 refine au k6 ?_;exact yi (e':=⟨e.o,e.s,e.d0,e.d1,e.d2,e.d3,e.d4,e.d5,e.k,0,0,0,0,0⟩) g rfl rfl (u _ (by simp[nW, *]))
end
end
section
attribute [local irreducible] bin un conv call dC blt slc ai fld aU idx lkp eX jl eSt rng nxt ent ext alc box bld dl ld sto bo eS mkS ifc pick rdy wts aJ sti cond bM Gives ae fU gX cOp
section
open Go.RowKit
theorem nY {v:Value}{d:Bool}{S:World→Prop}{s:KV→World→Prop}{k:Value→Prop}(u:asB v≠some d)(j:k undef):hG v d S s k:=⟨undef,fun h=>absurd h u,fun _=>rfl,j⟩
theorem VA {v:Value}{d:Bool}{s:KV→World→Prop}{K:KV}{w:World}(j:asB v≠some d)(h:K undef w):xG v d s K w:=⟨fun hh=>absurd hh j,fun _=>h⟩
theorem JG {p:Prop}[Decidable p](d : ¬p):asB (.bool (decide p))≠some true:=by rw[vF d];simp
section
variable {w:World}{K:KV}
theorem Aa {e1 qm qC I J ap ar ag az a4 a6 av a3 ad a7 aS an am a2 a0 al:Value}{zf:Nat→Value}{e:EV}{b:Nat}(j:blk w b 54 (evC e))(q1:e1=.pointer (some ⟨b,0,none⟩))(q3:qm=.bool (smE e))(q4:qC=.bool (otE e))(q5:I=kv8 e.k)(q6:J=.bool (decide (e.k=1)))(h:K (.bool (fdE e)) w):kJ K ((jO e1 qm qC I J ap ar ag az a4 a6 av a3 ad a7 aS an am a2 a0 al zf)) w:=by
 subst q1 q3 q4 q5 q6;refine AP ?_;unfold fdE at h;by_cases V:e.k=1
 ·rw[if_pos V]at h;refine ay V <|dQ <|lK (v:=iv e.a) j rfl <|cH ?_;by_cases d:e.a≥0
  ·rw[show decide (0≤e.a)=true from decide_eq_true d,Bool.true_and]at h;refine dE d <|dQ <|lK (v:=iv e.a) j rfl <|ir <|bR d ?_;exact h
  ·rw[show decide (0≤e.a)=false from decide_eq_false d,Bool.false_and]at h;refine eF d <|bE d ?_;exact h
 rw[if_neg V]at h;refine au V <|bm ?_;by_cases Z:e.k=2
 ·rw[if_pos Z]at h;exact ay Z h
 rw[if_neg Z]at h;refine au Z <|bm ?_;by_cases R:e.k=3
 ·rw[if_pos R]at h;refine ay R ?_;cases C:smE e with
  | true =>
   rw[C,Bool.true_and]at h;refine nH <|gS <|lK (v:=u6 e.r) j rfl <|cH <|db ?_;exact h
  | false =>
   rw[C,Bool.false_and]at h;refine mK <|fm ?_;exact h
 rw[if_neg R]at h;refine au R <|bm ?_;by_cases M:e.k=4
 ·rw[if_pos M]at h;refine ay M <|gS <|lK (v:=u6 e.r) j rfl <|cH ?_;by_cases d:e.r≥1
  ·rw[show decide (1≤e.r)=true from decide_eq_true d,Bool.true_and]at h;refine dE d <|po <|lK (v:=u6 e.f) j rfl <|cH <|bR d ?_;by_cases u:e.f≥1
   ·rw[show decide (1≤e.f)=true from decide_eq_true u,Bool.true_and]at h;refine dE u <|gS <|lK (v:=u6 e.r) j rfl <|po <|lK (v:=u6 e.f) j rfl <|cW <|bR u ?_;exact h
   ·rw[show decide (1≤e.f)=false from decide_eq_false u,Bool.false_and]at h;refine eF u <|bE u ?_;exact h
  ·rw[show decide (1≤e.r)=false from decide_eq_false d,Bool.false_and]at h;refine eF d <|bE d <|mK <|fm ?_;exact h
 rw[if_neg M]at h;refine au M <|bm <|AQ ?_;by_cases U:e.k=5
 ·rw[if_pos U]at h;refine ay U ?_;cases C:smE e with
  | true =>
   rw[C,Bool.true_and]at h;refine nH <|db ?_;exact h
  | false =>
   rw[C,Bool.false_and]at h;refine mK <|fm ?_;exact h
 rw[if_neg U]at h;refine au U <|bm ?_;by_cases X:e.k=6
 ·rw[if_pos X]at h;exact ay X h
 rw[if_neg X]at h;refine au X <|AS <|mP <|lK (v:=kv8 e.k) j rfl <|bm ?_;exact h
theorem QZ {e:EV}(h:∀w',Below w.heap.size w w'→K (.bool (fdE e)) w'):call Tryz.prog 79 #[.agg (evC e).toArray] K w:=by
 refine aB (goK func79) (CF ?_);refine dc fun I d b1 s1=>?_;have d:blk I w.heap.size 54 (evC e):=by simpa[Value.cells]using d
 have h:=h I b1;refine dQ <|lK (v:=iv e.a) d rfl <|cH ?_;by_cases j:e.a≥1
 ·refine dE j <|dQ <|lK (v:=iv e.a) d rfl <|ir <|bR j <|ic <|lK (v:=iv e.t) d rfl <|Ic ?_;have u:Value.bool (decide (e.a≤1125899906842624))=.bool (smE e):=by unfold smE;rw[show decide (1≤e.a)=true from decide_eq_true j,Bool.true_and]
  cases C:bV e.t with
  | true =>
   refine nH <|ic <|lK (v:=iv e.t) d rfl <|bS <|lK (v:=iv e.o) d rfl <|cW <|db <|mP <|lK (v:=kv8 e.k) d rfl <|bm ?_;exact Aa d rfl u (by unfold otE;rw[C,Bool.true_and];rfl) rfl rfl h
  | false =>
   refine mK <|fm <|mP <|lK (v:=kv8 e.k) d rfl <|bm ?_;exact Aa d rfl u (by unfold otE;rw[C,Bool.false_and]) rfl rfl h
 ·refine eF j <|bE j <|ic <|lK (v:=iv e.t) d rfl <|Ic ?_;have u:Value.bool false=.bool (smE e):=by unfold smE;rw[show decide (1≤e.a)=false from decide_eq_false j,Bool.false_and]
  cases C:bV e.t with
  | true =>
   refine nH <|ic <|lK (v:=iv e.t) d rfl <|bS <|lK (v:=iv e.o) d rfl <|cW <|db <|mP <|lK (v:=kv8 e.k) d rfl <|bm ?_;exact Aa d rfl u (by unfold otE;rw[C,Bool.true_and];rfl) rfl rfl h
  | false =>
   refine mK <|fm <|mP <|lK (v:=kv8 e.k) d rfl <|bm ?_;exact Aa d rfl u (by unfold otE;rw[C,Bool.false_and]) rfl rfl h
theorem ixV {b o k:Nat}{i:Int}(hi:i=(k:Nat))(d:k<6)(hK:K (.pointer (some ⟨b,o+k,none⟩)) w):aU Tryz.prog 26 (.pointer (some ⟨b,o,none⟩)) (.int .i64 i) K w:=by
 subst hi;exact dB underlying26 (s:=1) (fun _=>by kernel_rfl) (by omega) (by omega) (by rw[Int.toNat_natCast,Nat.mul_one];exact hK)
theorem Ut {e1 i3 J C:Value}{zf:Nat→Value}{e:EV}{b:Nat}{w0:World}(I:blk w b 54 (evC e))(U:e1=.pointer (some ⟨b,0,none⟩))(R:Below w0.heap.size w0 w)(h:∀w',Below w0.heap.size w0 w'→K (.bool (decide (e=nW e)&&fdE e)) w'):jh K ((oQ e1 i3 J C zf)) w:=by
 subst U;refine DA <|aE (fun x=>blk x b 54 (evC e)) I <|ab (fun x j _=>ldA (n:=14) (vs:=evC e) underlying54 rfl (by kernel_rfl) j rfl rfl) <|ab (fun x j _=>ldA (n:=14) (vs:=evC e) underlying54 rfl (by kernel_rfl) j rfl rfl) ?_;refine Vh fun w2 b2=>?_;have l2:Below w0.heap.size w0 w2:=R.drew.trans (b2.mono R.drew.size);have u:blk w2 b 54 (evC e):=af b2 I.drew I.drew.lt;refine aO u ?_
 refine ab (v:=.bool (decide (e=nW e))) (fun x j K hK=>xW 3 (by omega) (by kernel_rfl) (by kernel_rfl) (by kernel_rfl) (by kernel_rfl) fun r M=>by
  have:r=decide (e=nW e):=by rw[MD]at M;exact Bool.eq_iff_iff.2 (M.trans decide_eq_true_iff.symm)
  rw[this];exact hK) ?_
 by_cases d:e=nW e
 ·refine fD (Ec d) (fun x j _=>ldA (n:=14) (vs:=evC e) underlying54 rfl (by kernel_rfl) j rfl rfl) <|Fe (Ec d) ?_;refine QZ fun w3 V=>?_;have l3:Below w0.heap.size w0 w3:=l2.trans (V.mono l2.size);refine aE (fun _=>True) trivial <|ab (fun x j _=>bR d) ?_
  have:=h w3 l3
  rw[show decide (e=nW e)=true from decide_eq_true d,Bool.true_and]at this;exact this
 ·refine nY (JG d) <|VA (JG d) <|aE (fun _=>True) trivial <|ab (fun x j _=>bE d) ?_
  have:=h w2 l2
  rw[show decide (e=nW e)=false from decide_eq_false d,Bool.false_and]at this;exact this
theorem NF {e:EV}(h:∀w',Below w.heap.size w w'→K (.bool (eE e)) w'):call Tryz.prog 51 #[.agg (evC e).toArray] K w:=by
 refine aB (goK func51) (FF ?_);refine dc fun X d b1 s1=>?_;have d:blk X w.heap.size 54 (evC e):=by simpa[Value.cells]using d
 have d:blk X.drew w.heap.size 54 (evC e):=d.drew;have b1:Below w.heap.size w X.drew:=b1.drew;have J:eE e=false→K (.bool false) X.drew:=fun hh=>by have:=h _ b1;rw[hh]at this;exact this
 refine aa (fun _=>bS) <|aa (v:=iv e.o) (fun _=>lK d rfl) <|aa (fun _=>Ic) <|aa (fun _=>eh) ?_;cases M:bV e.o with
 | false =>
  refine fK <|aa (fun _=>db) <|fK <|aa (fun _=>db) <|fK <|aa (fun _=>db) <|bu ?_;exact J (by simp[eE,M])
 | true =>
  refine nR <|aa (fun _=>lh) <|aa (v:=u6 e.s) (fun _=>lK d rfl) <|aa (fun _=>aV) <|aa (fun _=>fm) ?_;by_cases Z:e.s<1
  ·refine iZ Z <|aa (fun _=>bR Z) <|fK <|aa (fun _=>db) <|bu ?_;exact J (by simp[eE,M];omega)
  refine dZ Z <|aa (fun _=>lh) <|aa (v:=u6 e.s) (fun _=>lK d rfl) <|aa (fun _=>cH) <|aa (fun _=>bE Z) ?_;by_cases U:e.s≥1099511627776
  ·refine iZ U <|aa (fun _=>bR U) <|bu ?_;exact J (by simp[eE,M];omega)
  refine dZ U ?_;have hi:1≤e.o∧e.o≤6:=by simpa[bV]using M
  obtain⟨k,hk⟩:∃k:Nat,k=(e.o-1).toNat:=⟨_,rfl⟩
  refine aa (fun _=>bS) <|aa (v:=iv e.o) (fun _=>lK d rfl) <|aa (v:=.int .i64 ((k:Nat):Int)) (fun K hK=>kg (by rw[dP (by omega) (by omega),show (e.o-1)=(k:Nat)by omega];exact hK)) <|aa (fun _=>rr) <|aa (fun _=>ixV rfl (by omega)) <|aa (v:=u6 (e.V.getD k 0)) (fun _=>lK d (GT (by omega))) <|aa (fun _=>lh) <|aa (v:=u6 e.s) (fun _=>lK d rfl) <|aa (v:=u6 (e.s-1)) (fun K hK=>kg (by rw[hZ,show (e.s-1)%18446744073709551616=e.s-1 by omega];exact hK)) <|aa (fun _=>cW) <|aa (fun _=>bE U) ?_
  by_cases I:e.V.getD k 0≠e.s-1
  ·refine ay I ?_;exact J (by simp[eE,M, ←hk];intro _ _ hh;exact absurd hh I)
  refine au I ?_;have I:e.V.getD k 0=e.s-1:=by simpa using I
  refine Dz (Inv:=fun i wr=>∃j:Nat,i=.int .i64 (j:Nat)∧j≤6∧(∀q,q<j→e.V.getD q 0<1099511627776)∧blk wr w.heap.size 54 (evC e)∧Below w.heap.size w wr) (μ:=fun i _=>6-(intOf i).toNat) ⟨0,rfl,by omega,fun q hq=>by omega,d,b1⟩ ?_;rintro _ dd w2 m ⟨j,rfl,R,u,C,l2⟩ hm;have J:eE e=false→K (.bool false) w2:=fun hh=>by have:=h _ l2;rw[hh]at this;exact this
  refine aV ?_;by_cases hj:j<6
  ·refine ay (by omega) <|rr <|ixV rfl hj <|lK (v:=u6 (e.V.getD j 0)) C (GT hj) <|cH ?_;by_cases h4:e.V.getD j 0≥1099511627776
   ·refine ay h4 <|J ?_
    have:(List.range 6).all (fun k=>decide (e.V.getD k 0<1099511627776))=false:=by
     rw[List.all_eq_false];exact⟨j,by simpa using hj,by simp;simpa using h4⟩
    unfold eE;rw[this];simp
   refine au h4 <|aR (by omega) (by omega) ?_;refine⟨⟨j+1,by simp,by omega,fun q hq=>?_,C,l2⟩,?_⟩
   ·by_cases ad:q<j
    ·exact u q ad
    ·have:q=j:=by omega
     subst this;omega
   ·rw[hm];simp only[intOf];omega
  refine au (by omega) ?_;have R:j=6:=by omega
  subst R;refine Ut C rfl l2 fun w3 l3=>?_
  have:=h w3 l3
  have e1:(List.range 6).all (fun k=>decide (e.V.getD k 0<1099511627776))=true:=by
   rw[List.all_eq_true];exact fun q hq=>by simpa using u q (by simpa using hq)
  unfold eE at this;rw[M,e1, ←hk,I,show decide (1≤e.s)=true from decide_eq_true (by omega),show decide (e.s<1099511627776)=true from decide_eq_true (by omega)]at this;simpa using this
end
end
section
open Go.RowKit
section
variable {w:World}{K:KV}
theorem Td {e1 f3 ad I al ap av X ar Z J U an R ag am:Value}{zf:Nat→Value}{e:EV}{b f:Nat}{w0:World}(hb:blk w b 54 (evC e))(hf:blk w f 145 (evC e))(V:b≠f)(hn:w0.heap.size≤f)(q1:e1=.pointer (some ⟨b,0,none⟩))(q3:f3=.pointer (some ⟨f,0,none⟩))(C:Below w0.heap.size w0 w)(h:∀w',Below w0.heap.size w0 w'→K (.bool (decide (e=nW e)&&fdE e)) w'):pG K ((Ai e1 f3 ad I al ap av X ar Z J U an R ag am zf)) w:=by
 subst q1;subst q3;refine Ik ?_;refine aE (fun _=>True) trivial (Tc hf.drew fun w2 e2 h2 j hw=>?_);have j:Oth f w w2:=⟨j.os,j.tape,j.output,j.size,j.other⟩
 have M:blk w2 b 54 (evC e):=by unfold blk;rw[j.other b V];exact hb
 have l2:Below w0.heap.size w0 w2:=⟨j.os.trans C.os,j.tape.trans C.tape,j.output.trans C.output,by rw[j.size];exact C.size,fun k u=>(j.other k (by omega)).trans (C.block k u)⟩
 have hh:=h w2 l2;refine aE (fun x=>blk x b 54 (evC e)∧blk x f 145 (evC e2)) ⟨M,h2⟩ ?_;cases u:fdE e with
 | true =>
  have he:e2=uy e:=hw u;rw[u,Bool.and_true]at hh
  refine fD rfl (fun x d K hK=>hK) <|fD rfl (fun x d _=>aw) <|fD rfl (fun x d _=>jM) <|fD rfl (fun x d _=>ldA (n:=14) (vs:=evC e2) underlying54 rfl (by kernel_rfl) d.2 rfl rfl) <|fD rfl (fun x d _=>bS) <|fD rfl (fun x d _=>lK (v:=iv e.o) d.1 rfl) <|fD rfl (fun x d _=>lh) <|fD rfl (fun x d _=>lK (v:=u6 e.s) d.1 rfl) <|fD rfl (fun x d _=>rr) <|fD rfl (fun x d _=>ldA (n:=6) (vs:=[u6 e.d0,u6 e.d1,u6 e.d2,u6 e.d3,u6 e.d4,u6 e.d5]) underlying26 rfl (by kernel_rfl) d.1 rfl rfl) <|fD rfl (fun x d _=>mP) <|fD rfl (fun x d _=>lK (v:=kv8 e.k) d.1 rfl) <|fD rfl (fun x d _=>fS (vs:=evC (NE e)) (by kernel_rfl)) ?_
  refine fD (x:=.bool (decide (e=nW e))) rfl (fun x d K hK=>xW 3 (by omega) (by kernel_rfl) (by kernel_rfl) (by kernel_rfl) (by kernel_rfl) fun r hr=>by
   have:r=decide (e=nW e):=by rw[MD,he,QY]at hr;exact Bool.eq_iff_iff.2 (hr.trans decide_eq_true_iff.symm)
   rw[this];exact hK) ?_
  exact ab (fun x d _=>db) hh
 | false =>
  rw[u,Bool.and_false]at hh;have nt:asB (.bool false)≠some true:=by simp[asB]
  iterate 14 refine nY nt ?_
  exact ab (fun x d _=>fm) hh
theorem KO {e:EV}(h:∀w',Below w.heap.size w w'→K (.bool (eE e)) w'):call Tryz.prog 38 #[.agg (evC e).toArray] K w:=by
 refine aB (goK func38) (La ?_);refine dc fun u d b1 s1=>?_;have d:blk u w.heap.size 54 (evC e):=by simpa[Value.cells]using d
 have d:blk u.drew w.heap.size 54 (evC e):=d.drew;have b1:Below w.heap.size w u.drew:=b1.drew;have I:eE e=false→K (.bool false) u.drew:=fun hh=>by have:=h _ b1;rw[hh]at this;exact this
 refine aa (fun _=>bS) <|aa (v:=iv e.o) (fun _=>lK d rfl) <|aa (fun _=>Pe) <|aa (fun _=>eh) ?_;cases C:bV e.o with
 | false =>
  refine fK <|aa (fun _=>db) <|fK <|aa (fun _=>db) <|fK <|aa (fun _=>db) <|bu ?_;exact I (by simp[eE,C])
 | true =>
  refine nR <|aa (fun _=>lh) <|aa (v:=u6 e.s) (fun _=>lK d rfl) <|aa (fun _=>aV) <|aa (fun _=>fm) ?_;by_cases R:e.s<1
  ·refine iZ R <|aa (fun _=>bR R) <|fK <|aa (fun _=>db) <|bu ?_;exact I (by simp[eE,C];omega)
  refine dZ R <|aa (fun _=>lh) <|aa (v:=u6 e.s) (fun _=>lK d rfl) <|aa (fun _=>cH) <|aa (fun _=>bE R) ?_;by_cases M:e.s≥1099511627776
  ·refine iZ M <|aa (fun _=>bR M) <|bu ?_;exact I (by simp[eE,C];omega)
  refine dZ M ?_;have hi:1≤e.o∧e.o≤6:=by simpa[bV]using C
  obtain⟨k,hk⟩:∃k:Nat,k=(e.o-1).toNat:=⟨_,rfl⟩
  refine aa (fun _=>bS) <|aa (v:=iv e.o) (fun _=>lK d rfl) <|aa (v:=.int .i64 ((k:Nat):Int)) (fun K hK=>kg (by rw[dP (by omega) (by omega),show (e.o-1)=(k:Nat)by omega];exact hK)) <|aa (fun _=>rr) <|aa (fun _=>ixV rfl (by omega)) <|aa (v:=u6 (e.V.getD k 0)) (fun _=>lK d (GT (by omega))) <|aa (fun _=>lh) <|aa (v:=u6 e.s) (fun _=>lK d rfl) <|aa (v:=u6 (e.s-1)) (fun K hK=>kg (by rw[hZ,show (e.s-1)%18446744073709551616=e.s-1 by omega];exact hK)) <|aa (fun _=>cW) <|aa (fun _=>bE M) ?_
  by_cases j:e.V.getD k 0≠e.s-1
  ·refine ay j ?_;exact I (by simp[eE,C, ←hk];intro _ _ hh;exact absurd hh j)
  refine au j ?_;have j:e.V.getD k 0=e.s-1:=by simpa using j
  refine rr (Pp underlying26 (s:=1) (fun _=>by kernel_rfl) (Us (V:=e.V) d (fun q J=>GT J) fun m Z hx=>cH ?_));by_cases X:m≥1099511627776
  ·refine ay X <|I ?_;obtain⟨q,J,rfl⟩:=hx
   have:(List.range 6).all (fun k=>decide (e.V.getD k 0<1099511627776))=false:=by
    rw[List.all_eq_false];exact⟨q,by simpa using J,by simp;simpa using X⟩
   unfold eE;rw[this];simp
  refine au X <|ldA (n:=14) (vs:=evC e) underlying54 rfl (by kernel_rfl) d rfl rfl <|fS (vs:=evC e) (by kernel_rfl) ?_;refine dc fun w2 U b2 s2=>?_;have U:blk w2 u.drew.heap.size 145 (evC e):=by simpa[Value.cells]using U
  have ad:w.heap.size<u.drew.heap.size:=d.lt;refine Td (af b2 d d.lt) U (by omega) (by omega) rfl rfl (b1.trans (b2.mono b1.size)) fun w3 l3=>?_
  have:=h w3 l3
  have e1:(List.range 6).all (fun k=>decide (e.V.getD k 0<1099511627776))=true:=by
   rw[List.all_eq_true];exact fun q J=>by have:=Z q (by simpa using J);simpa using (by omega:e.V.getD q 0<1099511627776)
  unfold eE at this;rw[C,e1, ←hk,j,show decide (1≤e.s)=true from decide_eq_true (by omega),show decide (e.s<1099511627776)=true from decide_eq_true (by omega)]at this;simpa using this
end
end
end
section
open Go.RowKit
def vCs (V:List Int):List Value:=V.map u6
def leV (V W:List Int):Bool:=(List.range 6).all fun k=>decide (V.getD k 0≤W.getD k 0)
theorem kI {V:List Int}:(vCs V).length=V.length:=by simp[vCs]
theorem xV {V:List Int}{k:Nat}(h:V.length=6)(d:k<6):(vCs V)[k]? = some (u6 (V.getD k 0)):=by
 have:k<V.length:=by omega
 simp[vCs,List.getD,List.getElem?_eq_getElem this]
theorem Te {V W:List Int}:vCs V=vCs W↔V=W:=by
 constructor
 ·intro h
  have:=congrArg (List.map intOf) h
  simpa[vCs,u6,intOf,Function.comp_def]using this
 ·rintro rfl;rfl
theorem My {V:List Int}:∀v∈vCs V,v.oneCell'=true:=by
 intro v d;obtain⟨x,_,rfl⟩:=List.mem_map.1 d;rfl
theorem oO {n b:Nat}{w d w2:World}(h:Below n w d)(o:Oth b d w2)(u:n≤b):Below n w w2 :=
 ⟨o.os.trans h.os,o.tape.trans h.tape,o.output.trans h.output,by rw[o.size];exact h.size,fun k j=>(o.other k (by omega)).trans (h.block k j)⟩
theorem KP {V:List Int}(h:V.length=6):∃a b c d e f,V=[a,b,c,d,e,f]:=by
 match V,h with
 | [a,b,c,d,e,f],_=>exact⟨a,b,c,d,e,f,rfl⟩
theorem Vi {P:Program}{t e:TypeId}{s q:Nat}{K:KV}{w:World}(d:P.underlying t=some (.slice e))(j:∀w,(sizeOf e).run P w=.ok s w){av:Option Addr}{n c:Nat}{k:IntKind}(I:q≤n)(C:n≤c)(h:K (.slice (if c=q then av else av.map (·.add (q*s))) (n-q) (c-q)) w):slc P t (.slice av n c) (some (.int k (q:Int))) none none K w:=by
 have u:(Instr.sliceBounds true n c (some (.int k (q:Int))) none none).run P w=.ok (q,n,c) w:=by
  have:=run_sliceBound (P:=P) w k (q:Int) n .sliceB (by omega) (by omega)
  simp[Instr.sliceBounds]at this ⊢;rw[this];simp
 unfold slc;refine gW (w':=w) ?_ h;simp only[Instr.sliceAt,Instr.slice,Sem.run_bind,Sem.run_pure,Result.andThen_ok,run_underlying d,j,u]
attribute [local irreducible] bin un conv call dC blt slc ai fld aU idx lkp eX jl eSt rng nxt ent ext alc box bld dl ld sto bo eS mkS ifc pick rdy wts aJ sti cond bM Gives ae fU gX cOp
section
variable {w:World}{K:KV}
theorem Tf {o:Int}(h:K (.bool (bV o)) w):call Tryz.prog 93 #[iv o] K w:=by
 refine aB (goK func93) (FG (cH ?_));unfold bV at h;by_cases d:o≥1
 ·rw[show decide (1≤o)=true from decide_eq_true d,Bool.true_and]at h;exact dE d (ir (bR d h))
 ·rw[show decide (1≤o)=false from decide_eq_false d,Bool.false_and]at h;exact eF d (bE d h)
theorem Uu {V:List Int}{o s:Int}(C:V.length=6)(h:∀w',Below w.heap.size w w'→K (.bool (bV o&&(decide (s>0)&&decide (V.getD (o-1).toNat 0≥s)))) w'):call Tryz.prog 61 #[.agg (vCs V).toArray,iv o,u6 s] K w:=by
 refine aB (goK func61) (Jr ?_);refine dc fun J j b1 s1=>?_;have j:blk J w.heap.size 26 (vCs V):=by obtain⟨_,_,_,_,_,_,rfl⟩:=KP C;simpa[Value.cells,vCs,u6]using j
 have h:=h _ b1;refine Tf ?_;cases u:bV o with
 | false =>
  rw[u,Bool.false_and]at h;exact mK (fm (mK (fm h)))
 | true =>
  rw[u,Bool.true_and]at h;refine nH (cB (db ?_));by_cases d:s>0
  ·rw[show decide (s>0)=true from decide_eq_true d,Bool.true_and]at h;have hi:1≤o∧o≤6:=by simpa[bV]using u
   obtain⟨k,I⟩:∃k:Nat,k=(o-1).toNat:=⟨_,rfl⟩
   rw[←I]at h;refine dE d (kg (by
    rw[dP (by omega) (by omega),show (o-1)=(k:Nat)by omega];exact ixV rfl (by omega) (by rw[Nat.zero_add];exact lK (v:=u6 (V.getD k 0)) j (xV C (by omega)) (cH (bR d h)))))
  ·rw[show decide (s>0)=false from decide_eq_false d,Bool.false_and]at h;exact eF d (bE d h)
theorem Tg {fv:Value}{G:List Int}(hG:G.length=6)(hf:∀k,k<6→∀J,Below w.heap.size w J→∀K':KV,(∀M,Below J.heap.size J M→K' (u6 (G.getD k 0)) M)→dC Tryz.prog fv #[iv (k:Nat)] K' J)(h:∀w',Below w.heap.size w w'→K (.agg (vCs G).toArray) w'):call Tryz.prog 129 #[fv] K w:=by
 refine aB (goK func129) (Im ?_);refine dH (z:=.agg #[u6 0,u6 0,u6 0,u6 0,u6 0,u6 0]) (by kernel_rfl) fun J U b1 s1=>?_;have U:blk J w.heap.size 26 [u6 0,u6 0,u6 0,u6 0,u6 0,u6 0]:=by simpa[Value.cells,u6]using U
 refine FH (Inv:=fun i wr=>∃(k:Nat) (cs:List Value),i=iv (k:Nat)∧k≤6∧cs.length=6∧(∀j,j<k→cs[j]? = some (u6 (G.getD j 0)))∧blk wr w.heap.size 26 cs∧Below w.heap.size w wr) (μ:=fun i _=>6-(intOf i).toNat)
  ⟨0,_,rfl,by omega,rfl,fun j R=>by omega,U,b1⟩ ?_
 rintro _ dd M m ⟨k,cs,rfl,hk,hl,I,u,l2⟩ hm;refine aV ?_;by_cases C:k<6
 ·refine ay (by omega) (hf k C M l2 _ fun w3 Z=>?_);have d:=af Z u u.lt;refine ixV rfl C (by
   rw[Nat.zero_add];refine dY (fun _=>by kernel_rfl) d (by omega) rfl fun w4 V o4=>aR (by omega) (by omega) ?_;refine⟨⟨k+1,_,ivS,by omega,by rw[List.length_set];exact hl,fun j R=>?_,V,oO (l2.trans (Z.mono l2.size)) o4 (Nat.le_refl _)⟩,by rw[hm];show 6-((k:Int)+1).toNat<6-(k:Int).toNat;omega⟩;by_cases e:j=k
   ·subst e;rw[List.getElem?_set_self (by omega)]
   ·rw[List.getElem?_set_ne (by omega)];exact I j (by omega))
 ·refine au (by omega) (FI ?_);have C:k=6:=by omega
  subst C;have ec:cs=vCs G:=by
   refine List.ext_getElem? fun j=>?_;by_cases R:j<6
   ·rw[I j R,xV hG R]
   ·rw[List.getElem?_eq_none (by omega),List.getElem?_eq_none (by rw[kI];omega)]
  subst ec;have X:((vCs G).drop 0).take 6=vCs G:=by rw[List.drop_zero,List.take_of_length_le (by omega)]
  refine ldA (n:=6) (vs:=vCs G) underlying26 rfl (by kernel_rfl) u X (by omega) ?_;refine iz (n:=6) (by kernel_rfl) (by omega) u (by omega) My fun w3 d o3=>?_;have d:blk w3 w.heap.size 26 (vCs G):=by
   have e:(vCs G).take 0++vCs G++(vCs G).drop (0+6)=vCs G:=by rw[List.take_zero,List.nil_append,List.drop_of_length_le (by omega),List.append_nil]
   rwa[e]at d
  exact CO (v:=.agg (vCs G).toArray) (fun _=>ldA (n:=6) (vs:=vCs G) underlying26 rfl (by kernel_rfl) d X (by omega)) (h _ (oO l2 o3 (Nat.le_refl _)))
def jV (A B:List Int):List Int:=(List.range 6).map fun k=>if A.getD k 0<B.getD k 0 then B.getD k 0 else A.getD k 0
theorem qs {A B:List Int}:(jV A B).length=6:=by simp[jV]
theorem KQ {A B:List Int}{k:Nat}(d:k<6):(jV A B).getD k 0=if A.getD k 0<B.getD k 0 then B.getD k 0 else A.getD k 0:=by
 unfold jV;rw[List.getD_eq_getElem?_getD,List.getElem?_map,List.getElem?_range d];rfl
theorem Vj {A B:List Int}(C:B.length=6):jV A B=B↔leV A B=true:=by
 unfold leV;rw[List.all_eq_true];constructor
 ·intro h k d;have d:k<6:=by simpa using d
  have:=KQ (A:=A) (B:=B) d
  rw[h]at this;rw[decide_eq_true_eq];split at this<;>omega
 ·intro h;refine List.ext_getElem? fun k=>?_;by_cases d:k<6
  ·have u:=KQ (A:=A) (B:=B) d;have j:=h k (by simpa using d);rw[decide_eq_true_eq]at j;have e1:(jV A B).getD k 0=(jV A B)[k]'(by rw[qs];exact d):=by rw[List.getD_eq_getElem?_getD,List.getElem?_eq_getElem (by rw[qs];exact d)];rfl
   have e2:B.getD k 0=B[k]'(by omega):=by rw[List.getD_eq_getElem?_getD,List.getElem?_eq_getElem (by omega)];rfl
   rw[List.getElem?_eq_getElem (by rw[qs];exact d),List.getElem?_eq_getElem (by omega), ←e1, ←e2,u]
   congr 1
   split<;>omega
  ·rw[List.getElem?_eq_none (by rw[qs];omega),List.getElem?_eq_none (by omega)]
theorem uz {V:List Int}(d:V.length=6):(Value.agg (vCs V).toArray).cells.toList=vCs V:=by
 obtain⟨_,_,_,_,_,_,rfl⟩:=KP d;simp[Value.cells,vCs,u6]
theorem GP {V:List Int}(d:V.length=6)(h:∀w',blk w' w.heap.size 26 (vCs V)→Below w.heap.size w w'→w'.heap.size=w.heap.size+1→K (.pointer (some ⟨w.heap.size,0,none⟩)) w'):box Tryz.prog 26 (.agg (vCs V).toArray) K w :=
 dc fun w' j b s=>h w' (by rwa[uz d]at j) b s
theorem Dm (h:∀w',blk w' w.heap.size 26 (vCs [0,0,0,0,0,0])→Below w.heap.size w w'→w'.heap.size=w.heap.size+1→K (.pointer (some ⟨w.heap.size,0,none⟩)) w'):alc Tryz.prog 26 K w :=
 dH (z:=.agg #[u6 0,u6 0,u6 0,u6 0,u6 0,u6 0]) (by kernel_rfl) fun w' d b s=>h w' (by simpa[Value.cells,vCs,u6]using d) b s
theorem xu {b:Nat}{V:List Int}(j:V.length=6)(d:blk w b 26 (vCs V))(h:K (.agg (vCs V).toArray) w):ld Tryz.prog 26 (.pointer (some ⟨b,0,none⟩)) K w :=
 ldA (n:=6) (vs:=vCs V) underlying26 rfl (by kernel_rfl) d (by rw[List.drop_zero,List.take_of_length_le (by rw[kI];omega)]) (by rw[kI];omega) h
theorem AK {b:Nat}{V W:List Int}(C:V.length=6)(j:W.length=6)(u:blk w b 26 (vCs V))(h:∀w',blk w' b 26 (vCs W)→Oth b w w'→K undef w'):sto Tryz.prog 26 (.pointer (some ⟨b,0,none⟩)) (.agg (vCs W).toArray) K w:=by
 have I:=kI (V:=V);refine iz (n:=6) (by kernel_rfl) (by rw[kI,j]) u (by omega) My fun w' d o=>h w' ?_ o;have e:(vCs V).take 0++vCs W++(vCs V).drop (0+6)=vCs W:=by rw[List.take_zero,List.nil_append,List.drop_of_length_le (by omega),List.append_nil]
 rwa[e]at d
theorem Th {x y:Int}(h:K (u6 (if x<y then y else x)) w):call Tryz.prog 115 #[u6 x,u6 y] K w :=
 aB (goK func115) (FM (RK h))
theorem Ti {c a b:Nat}{A B:List Int}{E:TypeId}{k:Nat}(I:A.length=6)(M:B.length=6)(j:k<6)(u:blk w c E [.func (.func 115) #[] #[]])(C:blk w a 26 (vCs A))(J:blk w b 26 (vCs B))(h:K (u6 ((jV A B).getD k 0)) w.drew):call Tryz.prog 130 #[iv (k:Nat),.pointer (some ⟨c,0,none⟩),.pointer (some ⟨a,0,none⟩),.pointer (some ⟨b,0,none⟩)] K w:=by
 refine aB (goK func130) (FL ?_)
 refine aE (fun x=>blk x c E [.func (.func 115) #[] #[]]∧blk x a 26 (vCs A)∧blk x b 26 (vCs B)) ⟨u.drew,C.drew,J.drew⟩ <|ab (v:=.func (.func 115) #[] #[]) (fun x d _=>lK d.1 rfl) <|ab (fun x d _=>ixV rfl j) <|ab (v:=u6 (A.getD k 0)) (fun x d _=>lK d.2.1 (by rw[Nat.zero_add];exact xV I j)) <|ab (fun x d _=>ixV rfl j) <|ab (v:=u6 (B.getD k 0)) (fun x d _=>lK d.2.2 (by rw[Nat.zero_add];exact xV M j)) ?_
 refine ia rfl (Th (aE (fun _=>True) trivial ?_));rwa[KQ j]at h
end
end
section
attribute [local irreducible] bin un conv call dC blt slc ai fld aU idx lkp eX jl eSt rng nxt ent ext alc box bld dl ld sto bo eS mkS ifc pick rdy wts aJ sti cond bM Gives ae fU gX cOp
section
open Go.RowKit
def lr (A:List Int)(x:Int)(is:Bool)(E:Int)(q:Nat):List Int×Int :=
 if iO A=false∨x<1∨MXA<x then (z54,1)else if is=false then (z54,10)else if E≠0 then (z54,E)else qK A q x
section
variable {w:World}{K:KV}
theorem vu {A:List Int}{x:Int}{J:Bool}{mv nv:Value}{q:Nat}{E:Int}(d:A.length=54)(hq:q<54)(U:iO A=true→1≤x→x≤MXA→J=true→∀u,Below w.heap.size w u→∀K':KV,(∀X,Below u.heap.size u X→K' (.int .i64 E) X)→dC Tryz.prog mv #[] K' u)(M:J=true→∀u b,Below w.heap.size w u→∀K':KV,K' (.pointer (some ⟨b,q,none⟩)) u.drew→dC Tryz.prog nv #[.pointer (some ⟨b,0,none⟩)] K' u)(h:∀w',Below w.heap.size w w'→K (.tuple #[.agg ((lr A x J E q).1.map iv).toArray,.int .i64 (lr A x J E q).2]) w'):call Tryz.prog 181 #[.agg (A.map iv).toArray,.int .i64 x,.bool J,mv,nv] K w:=by
 refine aB (goK func181) (Fw ?_);refine RV3.make d fun u g1 s1=>?_;have V:((A.map iv).drop 0).take 54=A.map iv:=by rw[List.drop_zero,List.take_of_length_le (by simp[d])]
 refine ldA (n:=54) (vs:=A.map iv) underlying36 rfl (by kernel_rfl) g1.r V (by simp[d]) ?_;refine Lf d fun X b2=>eh (Dr ?_);have I:=g1.fresh b2;unfold lr at h;have hM:MXA=1125899906842624:=rfl;rw[OX];cases hm:iO A with
 | false =>
  rw[if_pos (.inl hm)]at h;exact bu (ru (bu (I.no h)))
 | true =>
  have hn:=vx hm;refine bw (aV ?_);by_cases h1:x<1
  ·rw[if_pos (.inr (.inl h1))]at h;exact ay h1 (ru (ay h1 (I.no h)))
  refine au h1 (cB (ru ?_));by_cases h2:1125899906842624<x
  ·rw[if_pos (.inr (.inr h2))]at h;exact ay h2 (I.no h)
  refine au h2 (eh ?_);rw[if_neg (by rw[hm];simp;omega)]at h;cases J with
  | false =>
   rw[if_pos rfl]at h;exact bu (I.no h)
  | true =>
   rw[if_neg (by simp)]at h;refine bw (Ds (U hm (by omega) (by omega) rfl X I.bel _ fun w3 b3=>cW ?_));have C:=I.fresh b3;by_cases hE:E≠0
   ·rw[if_pos hE]at h;exact ay hE (C.no h)
   refine au hE (M rfl w3 _ C.bel _ ?_);rw[if_neg hE]at h;have C:=C.drew;have hb:=hn q hq;unfold qK at h;rw[hM]at hb h;refine aw (lK (v:=iv (nA A q)) C.r (pF (by omega)) (aR (by omega) (by omega) (aw (dY (fun _=>by kernel_rfl) C.r (by simp[d];exact hq) rfl fun w4 Z o4=>?_))));have e:(A.map iv).set q (.int .i64 (nA A q+x))=(A.set q (nA A q+x)).map iv:=by rw[List.map_set];rfl
   rw[e]at Z;have g4:RV3 w w4 (A.set q (nA A q+x)):=⟨Z,o4.blk C.t (by omega),bA C.bel o4 (Nat.le_refl _)⟩
   have l4:(A.set q (nA A q+x)).length=54:=by simp[d]
   refine aw (lK (v:=iv (nA A q+x)) Z (by
    rw[pF (by omega)];simp[nA,List.getD,d,hq]) (cB ?_))
   by_cases j:1125899906842624<nA A q+x
   ·rw[if_pos j]at h;exact ay j (g4.no h)
   rw[if_neg j]at h;refine au j ?_;have R:(((A.set q (nA A q+x)).map iv).drop 0).take 54=(A.set q (nA A q+x)).map iv:=by rw[List.drop_zero,List.take_of_length_le (by simp[d])]
   refine ldA (n:=54) (vs:=(A.set q (nA A q+x)).map iv) underlying36 rfl (by kernel_rfl) Z R (by simp[d]) ?_;exact Kk (N:=54) underlying36 rfl (by kernel_rfl) g4.t rfl (by simp[d]) (uB _) fun w' o=>h w' (bA g4.bel o (by omega))
theorem Id {b:Bool}{E:Int}(h:K (.int .i64 (if b=true then E else 0)) w):call Tryz.prog 183 #[.bool b,.int .i64 E] K w:=by
 refine aB (goK func183) (Ig ?_);cases b with
 | true=>exact bu h
 | false=>exact bw h
end
end
section
open Go.RowKit
theorem KR {A:List Int}{k:Nat}(d:k<6)(h:iO A=true):sv A k=dG A k:=by rw[Ft A d,h]
theorem Mz {A:List Int}{i x:Int}:iu A i x=lr A x (bV i) (if dG A (i-1).toNat<x then 11 else 0) (6+(i-1).toNat):=by
 unfold iu lr pn;generalize (i-1).toNat=k;by_cases d:iO A=false∨x<1∨MXA<x
 ·simp only[if_pos d];simp
 ·simp only[if_neg d];cases bV i with
  | false=>simp
  | true =>
   by_cases h:dG A k<x
   ·simp[h]
   ·simp[h]
theorem MA {A:List Int}{i x:Int}:iw A i x=lr A x (bV i) (if nA A (6+(i-1).toNat)-nA A (12+(i-1).toNat)<x then 12 else 0) (12+(i-1).toNat):=by
 unfold iw lr pn;obtain⟨k,C⟩:∃k:Nat,k=(i-1).toNat:=⟨_,rfl⟩
 rw[←C];by_cases d:iO A=false∨x<1∨MXA<x
 ·simp only[if_pos d];simp
 ·simp only[if_neg d];cases u:bV i with
  | false=>simp
  | true =>
   by_cases h:nA A (6+k)-nA A (12+k)<x
   ·simp[h]
   ·have I:iO A=true:=by cases J:iO A with|true=>rfl|false=>exact absurd (.inl J) d
    have hi:1≤i∧i≤6:=by simpa[bV]using u
    have:=vx I (6+k) (by omega)
    have j : ¬MXA<nA A (12+k)+x:=by omega
    unfold qK;rw[if_neg j];simp[h]
theorem MC {A:List Int}{i j x:Int}:kh A i j x=lr A x (bV i&&bV j) (if i=j then 1 else if dG A (i-1).toNat<x then 11 else 0) (18+6*(i-1).toNat+(j-1).toNat):=by
 unfold kh lr pn;generalize (i-1).toNat=k;generalize (j-1).toNat=m;by_cases h:iO A=false∨x<1∨MXA<x
 ·simp only[if_pos h];simp
 ·simp only[if_neg h];cases bV i with
  | false=>simp
  | true =>
   cases bV j with
   | false=>simp
   | true =>
    by_cases d:i=j
    ·simp[d]
    ·by_cases u:dG A k<x
     ·simp[u,d]
     ·simp[u,d]
theorem AL (A:List Int)(x:Int)(d:Bool)(E:Int)(q:Nat)(h:A.length=54):(lr A x d E q).1.length=54:=by
 unfold lr qK;split
 ·rfl
 split
 ·rfl
 split
 ·rfl
 split
 ·rfl
 ·simp[h]
section
variable {w:World}{K:KV}
theorem GQ {A:List Int}(h:∀w',blk w' w.heap.size 36 (A.map iv)→Below w.heap.size w w'→w'.heap.size=w.heap.size+1→K (.pointer (some ⟨w.heap.size,0,none⟩)) w'):box Tryz.prog 36 (.agg (A.map iv).toArray) K w :=
 dc fun w' d b s=>h w' (by simpa[Value.cells]using d) b s
theorem Dn {t:TypeId}{x:Int}(h:∀w',blk w' w.heap.size t [iv x]→Below w.heap.size w w'→w'.heap.size=w.heap.size+1→K (.pointer (some ⟨w.heap.size,0,none⟩)) w'):box Tryz.prog t (iv x) K w :=
 dc fun w' d b s=>h w' (by simpa[Value.cells,iv]using d) b s
theorem uA (h:∀w',blk w' w.heap.size 36 (z54.map iv)→Below w.heap.size w w'→w'.heap.size=w.heap.size+1→K (.pointer (some ⟨w.heap.size,0,none⟩)) w'):alc Tryz.prog 36 K w :=
 dH (z:=.agg (z54.map iv).toArray) (by kernel_rfl) fun w' d b s=>h w' (by simpa[Value.cells]using d) b s
theorem oP {b:Nat}{A:List Int}(d:A.length=54)(j:blk w b 36 (A.map iv))(h:K (.agg (A.map iv).toArray) w):ld Tryz.prog 36 (.pointer (some ⟨b,0,none⟩)) K w :=
 ldA (n:=54) (vs:=A.map iv) underlying36 rfl (by kernel_rfl) j (by rw[List.drop_zero,List.take_of_length_le (by simp[d])]) (by simp[d]) h
structure R3 (w0 w:World) (A:List Int) (i x:Int):Prop where
 r:blk w w0.heap.size 36 (A.map iv)
 i:blk w (w0.heap.size+1) 3 [iv i]
 x:blk w (w0.heap.size+2) 2 [iv x]
 t:blk w (w0.heap.size+3) 36 (z54.map iv)
 bel:Below w0.heap.size w0 w
theorem R3.fresh {w0 w':World}{A:List Int}{i x:Int}(g:R3 w0 w A i x)(d:Below w.heap.size w w'):R3 w0 w' A i x :=
 ⟨af d g.r g.r.lt,af d g.i g.i.lt,af d g.x g.x.lt,af d g.t g.t.lt,g.bel.trans (d.mono g.bel.size)⟩
theorem R3.drew {w0:World}{A:List Int}{i x:Int}(g:R3 w0 w A i x):R3 w0 w.drew A i x:=g.fresh (Below.refl _ w).drew
theorem Tj {w0:World}{A:List Int}{i x:Int}(C:A.length=54)(J:iO A=true)(u:bV i=true)(g:R3 w0 w A i x)(h:∀w',Below w.heap.size w w'→K (.int .i64 (if dG A (i-1).toNat<x then 11 else 0)) w'):call Tryz.prog 182 #[.pointer (some ⟨w0.heap.size+2,0,none⟩),.pointer (some ⟨w0.heap.size,0,none⟩),.pointer (some ⟨w0.heap.size+1,0,none⟩)] K w:=by
 have hi:1≤i∧i≤6:=by simpa[bV]using u
 refine aB (goK func182) (Fx ?_);have gd:=g.drew;refine aE (fun y=>R3 w0 y A i x) gd <|ab (fun y d _=>lK (v:=iv x) d.x rfl) <|ab (fun y d _=>oP C d.r) <|ab (fun y d _=>lK (v:=iv i) d.i rfl) ?_;refine Cf C fun I b2=>?_;refine aO (gd.fresh b2) ?_;rw[u,if_pos rfl,KR (by omega) J];refine ab (fun y d _=>cB) ?_;refine Id (aE (fun _=>True) trivial ?_)
 have:=h I ((Below.refl _ w).drew.trans (b2.mono (Nat.le_refl _)))
 by_cases j:dG A (i-1).toNat<x
 ·rw[if_pos j]at this;rw[if_pos (by simpa using j)];exact this
 ·rw[if_neg j]at this;rw[if_neg (by simpa using j)];exact this
theorem Tk {w0:World}{A:List Int}{i x:Int}(R:A.length=54)(M:iO A=true)(I:bV i=true)(g:R3 w0 w A i x)(h:∀w',Below w.heap.size w w'→K (.int .i64 (if nA A (6+(i-1).toNat)-nA A (12+(i-1).toNat)<x then 12 else 0)) w'):call Tryz.prog 185 #[.pointer (some ⟨w0.heap.size+2,0,none⟩),.pointer (some ⟨w0.heap.size,0,none⟩),.pointer (some ⟨w0.heap.size+1,0,none⟩)] K w:=by
 have hi:1≤i∧i≤6:=by simpa[bV]using I
 refine aB (goK func185) (Fz ?_);have gd:=g.drew;have u:=vx M;obtain⟨k,J⟩:∃k:Nat,k=(i-1).toNat:=⟨_,rfl⟩
 rw[←J]at h;have e1:=u (6+k) (by omega);have e2:=u (12+k) (by omega);have C:MXA=1125899906842624:=rfl;rw[C]at e1 e2
 refine aE (fun y=>R3 w0 y A i x) gd <|ab (fun y d _=>lK (v:=iv x) d.x rfl) <|ab (fun y d _=>lK (v:=iv i) d.i rfl) <|ab (v:=iv (k:Nat)) (fun y d K hK=>kg (by rw[dP (by omega) (by omega),show (i-1)=(k:Nat)by omega];exact hK)) <|ab (fun y d _=>vy) <|ab (fun y d _=>ixR rfl (by omega)) <|ab (v:=iv (nA A (6+k))) (fun y d _=>lK d.r (by rw[Nat.zero_add];exact pF (by omega))) <|ab (fun y d _=>lK (v:=iv i) d.i rfl) <|ab (v:=iv (k:Nat)) (fun y d K hK=>kg (by rw[dP (by omega) (by omega),show (i-1)=(k:Nat)by omega];exact hK)) <|ab (fun y d _=>yj) <|ab (fun y d _=>ixR rfl (by omega)) <|ab (v:=iv (nA A (12+k))) (fun y d _=>lK d.r (by rw[Nat.zero_add];exact pF (by omega))) <|ab (v:=iv (nA A (6+k)-nA A (12+k))) (fun y d K hK=>kg (by rw[dP (by omega) (by omega)];exact hK)) <|ab (fun y d _=>cB) ?_
 refine Id (aE (fun _=>True) trivial ?_)
 have:=h _ (Below.refl _ w).drew
 by_cases j:nA A (6+k)-nA A (12+k)<x
 ·rw[if_pos j]at this;rw[if_pos (by simpa using j)];exact this
 ·rw[if_neg j]at this;rw[if_neg (by simpa using j)];exact this
theorem Tl {b p:Nat}{i:Int}(u:bV i=true)(j:blk w p 3 [iv i])(h:K (.pointer (some ⟨b,6+(i-1).toNat,none⟩)) w.drew):call Tryz.prog 184 #[.pointer (some ⟨b,0,none⟩),.pointer (some ⟨p,0,none⟩)] K w:=by
 have hi:1≤i∧i≤6:=by simpa[bV]using u
 obtain⟨k,d⟩:∃k:Nat,k=(i-1).toNat:=⟨_,rfl⟩
 rw[←d]at h;refine aB (goK func184) (Fy ?_);refine aa (fun _=>lK (v:=iv i) j.drew rfl) <|aa (v:=iv (k:Nat)) (fun K hK=>kg (by rw[dP (by omega) (by omega),show (i-1)=(k:Nat)by omega];exact hK)) ?_;refine aa (fun _=>aw) (aa (fun _=>vy) (aa (fun K hK=>ixR rfl (by omega) (by rw[Nat.zero_add];exact hK)) h))
theorem Tm {b p:Nat}{i:Int}(u:bV i=true)(j:blk w p 3 [iv i])(h:K (.pointer (some ⟨b,12+(i-1).toNat,none⟩)) w.drew):call Tryz.prog 186 #[.pointer (some ⟨b,0,none⟩),.pointer (some ⟨p,0,none⟩)] K w:=by
 have hi:1≤i∧i≤6:=by simpa[bV]using u
 obtain⟨k,d⟩:∃k:Nat,k=(i-1).toNat:=⟨_,rfl⟩
 rw[←d]at h;refine aB (goK func186) (FA ?_);refine aa (fun _=>lK (v:=iv i) j.drew rfl) <|aa (v:=iv (k:Nat)) (fun K hK=>kg (by rw[dP (by omega) (by omega),show (i-1)=(k:Nat)by omega];exact hK)) ?_;refine aa (fun _=>aw) (aa (fun _=>yj) (aa (fun K hK=>ixR rfl (by omega) (by rw[Nat.zero_add];exact hK)) h))
end
end
end
section
open Go.RowKit
theorem GS {P:Program}{t:TypeId}{j:Addr}{v u:Value}{K:KV}{w:World}(I:∀K':KV,K' v w→ld P t (.pointer (some j)) K' w)(h:K (.tuple #[v,u]) w):bM P [(some t,.pointer (some j)),(none,u)] K w:=by
 have C:(loadVar t j).run P w=.ok v w:=by
  have:=I (fun v' w' => v'=v∧w'=w) ⟨rfl,rfl⟩
  unfold ld okV at this;unfold Instr.loadAt at this;simp only[Instr.sureAddr,Sem.run_bind,Sem.run_pure,Result.andThen_ok]at this;split at this
  ·rename_i v' w' d;rw[d,this.1,this.2]
  ·exact this.elim
 unfold bM
 have:(ks [(some t,.pointer (some j)),(none,u)]).run P w=.ok (.tuple #[v,u]) w:=by simp[ks,asAddr,Sem.run_bind,C]
 rw[this];exact⟨rfl,h⟩
attribute [local irreducible] bin un conv call dC blt slc ai fld aU idx lkp eX jl eSt rng nxt ent ext alc box bld dl ld sto bo eS mkS ifc pick rdy wts aJ sti cond bM Gives ae fU gX cOp
section
variable {w:World}{K:KV}
theorem sK {b:Nat}{A B:List Int}(j:A.length=54)(u:B.length=54)(C:blk w b 36 (A.map iv))(h:∀w',blk w' b 36 (B.map iv)→Oth b w w'→K undef w'):sto Tryz.prog 36 (.pointer (some ⟨b,0,none⟩)) (.agg (B.map iv).toArray) K w:=by
 refine iz (n:=54) (by kernel_rfl) (by simp[u]) C (by simp[j]) (uB _) fun w' d o=>h w' ?_ o;have e:(A.map iv).take 0++B.map iv++(A.map iv).drop (0+54)=B.map iv:=by rw[List.take_zero,List.nil_append,List.drop_of_length_le (by simp[j]),List.append_nil]
 rwa[e]at d
theorem R3.make {A:List Int}{i x:Int}{K4:Value→Value→Value→Value→World→Prop}(h:∀w',R3 w w' A i x→w'.heap.size=w.heap.size+4→K4 (.pointer (some ⟨w.heap.size,0,none⟩)) (.pointer (some ⟨w.heap.size+1,0,none⟩)) (.pointer (some ⟨w.heap.size+2,0,none⟩)) (.pointer (some ⟨w.heap.size+3,0,none⟩)) w'):box Tryz.prog 36 (.agg (A.map iv).toArray) (fun r=>box Tryz.prog 3 (iv i) fun j=>box Tryz.prog 2 (iv x) fun y=>alc Tryz.prog 36 fun t w=>K4 r j y t w) w:=by
 refine GQ fun X M b1 s1=>Dn fun U I b2 s2=>Dn fun R C u Z=>uA fun V J d s4=>?_;have e2:U.heap.size=w.heap.size+2:=by omega
 have e3:R.heap.size=w.heap.size+3:=by omega
 have hh:=h V ⟨af d (af u (af b2 M M.lt) (by omega)) (by omega),by rw[s1]at I;exact af d (af u I (by omega)) (by omega),by rw[e2]at C;exact af d C (by omega),by rw[e3]at J;exact J,(((b1.trans (b2.mono (by omega))).trans (u.mono (by omega))).trans (d.mono (by omega)))⟩ (by omega);rw[s1,e2,e3];exact hh
theorem R3.fin {w0:World}{A B:List Int}{i x e:Int}(u:B.length=54)(g:R3 w0 w A i x)(h:∀w',Below w0.heap.size w0 w'→K (.tuple #[.agg (B.map iv).toArray,.int .i64 e]) w'):aK (fun S w=>hld S (ext Tryz.prog (.tuple #[.agg (B.map iv).toArray,.int .i64 e]) 0) fun j=>hld S (ext Tryz.prog (.tuple #[.agg (B.map iv).toArray,.int .i64 e]) 1) fun d=>sto Tryz.prog 36 (.pointer (some ⟨w0.heap.size+3,0,none⟩)) j (fun _=>aK fun _=>bM Tryz.prog [(some 36,.pointer (some ⟨w0.heap.size+3,0,none⟩)),(none,d)] K) w) w:=by
 refine aE (fun _=>True) trivial ?_;refine ab (fun y I _=>eB) (ab (fun y I _=>eC) ?_);refine sK rfl u g.t fun M J C=>aE (fun _=>True) trivial ?_;exact GS (fun _=>oP u J) (h _ (bA g.bel C (by omega)))
theorem Tn {A:List Int}{i x:Int}(I:A.length=54)(h:∀w',Below w.heap.size w w'→K (.tuple #[.agg ((iu A i x).1.map iv).toArray,.int .i64 (iu A i x).2]) w'):call Tryz.prog 168 #[.agg (A.map iv).toArray,iv i,iv x] K w:=by
 refine aB (goK func168) (Ih (R3.make fun V d s1=>?_));have d:=d.drew;refine aE (fun y=>R3 w y A i x) d <|ab (fun y C _=>oP I C.r) <|ab (fun y C _=>lK (v:=iv x) C.x rfl) <|ab (fun y C _=>lK (v:=iv i) C.i rfl) ?_;refine yq (aO d ?_);rw[Mz]at h;have J:=AL A x (bV i) (if dG A (i-1).toNat<x then 11 else 0) (6+(i-1).toNat) I;by_cases u:bV i=true
 ·have hi:1≤i∧i≤6:=by simpa[bV]using u
  refine vu (q:=6+(i-1).toNat) (E:=if dG A (i-1).toNat<x then 11 else 0) I (by omega) (fun U _ _ _ M b2 K' j => ia rfl (Tj I U u (d.fresh b2) j))
   (fun _ M b b2 K' j => ia rfl (Tl u (d.fresh b2).i j)) fun M b2=>(d.fresh b2).fin J h
 ·have u:bV i=false:=by simpa using u
  rw[u]at J h ⊢;have e:lr A x false (if dG A (i-1).toNat<x then 11 else 0) (6+(i-1).toNat)=lr A x false 0 0:=rfl;rw[e]at h J;exact vu (q:=0) (E:=0) I (by omega) (fun _ _ _ R=>by cases R) (fun R=>by cases R) fun M b2=>(d.fresh b2).fin J h
theorem To {A:List Int}{i x:Int}(I:A.length=54)(h:∀w',Below w.heap.size w w'→K (.tuple #[.agg ((iw A i x).1.map iv).toArray,.int .i64 (iw A i x).2]) w'):call Tryz.prog 171 #[.agg (A.map iv).toArray,iv i,iv x] K w:=by
 refine aB (goK func171) (Ii (R3.make fun V d s1=>?_));have d:=d.drew;refine aE (fun y=>R3 w y A i x) d <|ab (fun y C _=>oP I C.r) <|ab (fun y C _=>lK (v:=iv x) C.x rfl) <|ab (fun y C _=>lK (v:=iv i) C.i rfl) ?_;refine yq (aO d ?_);rw[MA]at h;have J:=AL A x (bV i) (if nA A (6+(i-1).toNat)-nA A (12+(i-1).toNat)<x then 12 else 0) (12+(i-1).toNat) I;by_cases u:bV i=true
 ·have hi:1≤i∧i≤6:=by simpa[bV]using u
  refine vu (q:=12+(i-1).toNat) (E:=if nA A (6+(i-1).toNat)-nA A (12+(i-1).toNat)<x then 12 else 0) I (by omega) (fun U _ _ _ M b2 K' j => ia rfl (Tk I U u (d.fresh b2) j))
   (fun _ M b b2 K' j => ia rfl (Tm u (d.fresh b2).i j)) fun M b2=>(d.fresh b2).fin J h
 ·have u:bV i=false:=by simpa using u
  rw[u]at J h ⊢;have e:lr A x false (if nA A (6+(i-1).toNat)-nA A (12+(i-1).toNat)<x then 12 else 0) (12+(i-1).toNat)=lr A x false 0 0:=rfl;rw[e]at h J;exact vu (q:=0) (E:=0) I (by omega) (fun _ _ _ R=>by cases R) (fun R=>by cases R) fun M b2=>(d.fresh b2).fin J h
end
end
section
attribute [local irreducible] bin un conv call dC blt slc ai fld aU idx lkp eX jl eSt rng nxt ent ext alc box bld dl ld sto bo eS mkS ifc pick rdy wts aJ sti cond bM Gives ae fU gX cOp
section
open Go.RowKit
structure R4 (w0 w:World) (A:List Int) (i j x:Int):Prop where
 r:blk w w0.heap.size 36 (A.map iv)
 i:blk w (w0.heap.size+1) 3 [iv i]
 j:blk w (w0.heap.size+2) 3 [iv j]
 x:blk w (w0.heap.size+3) 2 [iv x]
 t:blk w (w0.heap.size+4) 36 (z54.map iv)
 bel:Below w0.heap.size w0 w
theorem R4.fresh {w w0 w':World}{A:List Int}{i j x:Int}(g:R4 w0 w A i j x)(d:Below w.heap.size w w'):R4 w0 w' A i j x :=
 ⟨af d g.r g.r.lt,af d g.i g.i.lt,af d g.j g.j.lt,af d g.x g.x.lt,af d g.t g.t.lt,g.bel.trans (d.mono g.bel.size)⟩
theorem R4.drew {w w0:World}{A:List Int}{i j x:Int}(g:R4 w0 w A i j x):R4 w0 w.drew A i j x:=g.fresh (Below.refl _ w).drew
section
variable {w:World}{K:KV}
theorem R4.make {A:List Int}{i j x:Int}{K5:Value→Value→Value→Value→Value→World→Prop}(h:∀w',R4 w w' A i j x→w'.heap.size=w.heap.size+5→K5 (.pointer (some ⟨w.heap.size,0,none⟩)) (.pointer (some ⟨w.heap.size+1,0,none⟩)) (.pointer (some ⟨w.heap.size+2,0,none⟩)) (.pointer (some ⟨w.heap.size+3,0,none⟩)) (.pointer (some ⟨w.heap.size+4,0,none⟩)) w'):box Tryz.prog 36 (.agg (A.map iv).toArray) (fun r=>box Tryz.prog 3 (iv i) fun p=>box Tryz.prog 3 (iv j) fun q=>box Tryz.prog 2 (iv x) fun y=>alc Tryz.prog 36 fun t w=>K5 r p q y t w) w:=by
 refine GQ fun w1 V b1 s1=>Dn fun Z M b2 s2=>Dn fun X I C s3=>Dn fun w4 U u s4=>uA fun w5 R d s5=>?_;have e2:Z.heap.size=w.heap.size+2:=by omega
 have e3:X.heap.size=w.heap.size+3:=by omega
 have J:w4.heap.size=w.heap.size+4:=by omega
 have hh:=h w5 ⟨af d (af u (af C (af b2 V V.lt) (by omega)) (by omega)) (by omega),by rw[s1]at M;exact af d (af u (af C M (by omega)) (by omega)) (by omega),by rw[e2]at I;exact af d (af u I (by omega)) (by omega),by rw[e3]at U;exact af d U (by omega),by rw[J]at R;exact R,((((b1.trans (b2.mono (by omega))).trans (C.mono (by omega))).trans (u.mono (by omega))).trans (d.mono (by omega)))⟩ (by omega)
 rw[s1,e2,e3,J];exact hh
theorem R4.fin {w0:World}{A B:List Int}{i j x e:Int}(C:B.length=54)(g:R4 w0 w A i j x)(h:∀w',Below w0.heap.size w0 w'→K (.tuple #[.agg (B.map iv).toArray,.int .i64 e]) w'):aK (fun S w=>hld S (ext Tryz.prog (.tuple #[.agg (B.map iv).toArray,.int .i64 e]) 0) fun u=>hld S (ext Tryz.prog (.tuple #[.agg (B.map iv).toArray,.int .i64 e]) 1) fun d=>sto Tryz.prog 36 (.pointer (some ⟨w0.heap.size+4,0,none⟩)) u (fun _=>aK fun _=>bM Tryz.prog [(some 36,.pointer (some ⟨w0.heap.size+4,0,none⟩)),(none,d)] K) w) w:=by
 refine aE (fun _=>True) trivial ?_;refine ab (fun y J _=>eB) (ab (fun y J _=>eC) ?_);refine sK rfl C g.t fun R M I=>aE (fun _=>True) trivial ?_;exact GS (fun _=>oP C M) (h _ (bA g.bel I (by omega)))
theorem Tp {w0:World}{A:List Int}{i j x:Int}(J:A.length=54)(R:iO A=true)(I:bV i=true)(g:R4 w0 w A i j x)(h:∀w',Below w.heap.size w w'→K (.int .i64 (if i=j then 1 else if dG A (i-1).toNat<x then 11 else 0)) w'):call Tryz.prog 187 #[.pointer (some ⟨w0.heap.size+1,0,none⟩),.pointer (some ⟨w0.heap.size+2,0,none⟩),.pointer (some ⟨w0.heap.size+3,0,none⟩),.pointer (some ⟨w0.heap.size,0,none⟩)] K w:=by
 have hi:1≤i∧i≤6:=by simpa[bV]using I
 refine aB (goK func187) (FB (lK (v:=iv i) g.i rfl (lK (v:=iv j) g.j rfl (bm ?_))));by_cases d:i=j
 ·have:=h _ (Below.refl _ w)
  rw[if_pos d]at this;exact ay d this
 refine au d ?_;have gd:=g.drew;refine aE (fun y=>R4 w0 y A i j x) gd <|ab (fun y u _=>lK (v:=iv x) u.x rfl) <|ab (fun y u _=>oP J u.r) <|ab (fun y u _=>lK (v:=iv i) u.i rfl) ?_;refine Cf J fun M b2=>?_;refine aO (gd.fresh b2) ?_;rw[I,if_pos rfl,KR (by omega) R];refine ab (fun y u _=>cB) ?_;refine Id (aE (fun _=>True) trivial ?_)
 have:=h M ((Below.refl _ w).drew.trans (b2.mono (Nat.le_refl _)))
 rw[if_neg d]at this;by_cases C:dG A (i-1).toNat<x
 ·rw[if_pos C]at this;rw[if_pos (by simpa using C)];exact this
 ·rw[if_neg C]at this;rw[if_neg (by simpa using C)];exact this
theorem Tq {b p u:Nat}{i j:Int}(I:bV i=true)(C:bV j=true)(M:blk w p 3 [iv i])(d:blk w u 3 [iv j])(h:K (.pointer (some ⟨b,18+6*(i-1).toNat+(j-1).toNat,none⟩)) w.drew):call Tryz.prog 188 #[.pointer (some ⟨b,0,none⟩),.pointer (some ⟨p,0,none⟩),.pointer (some ⟨u,0,none⟩)] K w:=by
 have hi:1≤i∧i≤6:=by simpa[bV]using I
 have U:1≤j∧j≤6:=by simpa[bV]using C
 obtain⟨k,J⟩:∃k:Nat,k=(i-1).toNat:=⟨_,rfl⟩
 obtain⟨m,R⟩:∃m:Nat,m=(j-1).toNat:=⟨_,rfl⟩
 rw[←J, ←R]at h;refine aB (goK func188) (FC ?_);refine aa (fun _=>lK (v:=iv i) M.drew rfl) <|aa (v:=iv (k:Nat)) (fun K hK=>kg (by rw[dP (by omega) (by omega),show (i-1)=(k:Nat)by omega];exact hK)) <|aa (fun _=>lK (v:=iv j) d.drew rfl) <|aa (v:=iv (m:Nat)) (fun K hK=>kg (by rw[dP (by omega) (by omega),show (j-1)=(m:Nat)by omega];exact hK)) ?_
 exact aa (fun _=>aw) (aa (fun _=>BQ) (aa (fun _=>NG rfl (by omega)) (aa (fun K hK=>ixR rfl (by omega) (by rw[show 0+18+6*k+m=18+6*k+m by omega];exact hK)) h)))
theorem Tr {A:List Int}{i j x:Int}(R:A.length=54)(h:∀w',Below w.heap.size w w'→K (.tuple #[.agg ((kh A i j x).1.map iv).toArray,.int .i64 (kh A i j x).2]) w'):call Tryz.prog 173 #[.agg (A.map iv).toArray,iv i,iv j,iv x] K w:=by
 refine aB (goK func173) (Ij (R4.make fun w1 d s1=>?_));have d:=d.drew;refine aE (fun y=>R4 w y A i j x) d <|ab (fun y u _=>oP R u.r) <|ab (fun y u _=>lK (v:=iv x) u.x rfl) <|ab (fun y u _=>lK (v:=iv i) u.i rfl) ?_;refine yq (aO d ?_);rw[MC]at h;generalize hE:(if i=j then (1:Int)else if dG A (i-1).toNat<x then 11 else 0)=E at h
 have M:=AL A x (bV i&&bV j) E (18+6*(i-1).toNat+(j-1).toNat) R;have X:(bV i&&bV j)=false→lr A x (bV i&&bV j) E (18+6*(i-1).toNat+(j-1).toNat)=lr A x false 0 0:=fun C=>by rw[C];rfl
 have Z:asB (.bool false)≠some true:=by simp[asB]
 cases J:bV i with
 | false =>
  rw[X (by rw[J];rfl)]at h M;refine nY Z (xGn Z (aO d (ab (fun y u _=>fm) ?_)));exact vu (q:=0) (E:=0) R (by omega) (fun _ _ _ C=>by cases C) (fun C=>by cases C) fun V b2=>(d.fresh b2).fin M h
 | true =>
  refine fD rfl (fun y u _=>lK (v:=iv j) u.j rfl) ?_;refine Fe rfl (yq (aO d (ab (fun y u _=>db) ?_)));cases U:bV j with
  | false =>
   rw[X (by rw[J,U];rfl)]at h M;exact vu (q:=0) (E:=0) R (by omega) (fun _ _ _ C=>by cases C) (fun C=>by cases C) fun V b2=>(d.fresh b2).fin M h
  | true =>
   have hi:1≤i∧i≤6:=by simpa[bV]using J
   have hj:1≤j∧j≤6:=by simpa[bV]using U
   rw[J,U]at h M;refine vu (q:=18+6*(i-1).toNat+(j-1).toNat) (E:=E) R (by omega) (fun hm _ _ _ V b2 K' I => ia rfl (Tp R hm J (d.fresh b2) (by rw[hE];exact I)))
    (fun _ V b b2 K' I => ia rfl (Tq J U (d.fresh b2).i (d.fresh b2).j I)) fun V b2=>(d.fresh b2).fin M h
end
end
end
section
open Go.RowKit
/-! ## Plain -/
def G (xs:List Int)(i:Nat):Int:=xs.getD i 0
def swp (xs:List Int)(i j:Nat):List Int:=(xs.set i (G xs j)).set j (G xs i)
theorem Ra {xs:List Int}{i j:Nat}(hi:i<xs.length)(d:j<xs.length):(swp xs i j).Perm xs:=by
 unfold swp;have e1:G xs j=xs[j]:=by simp[G,List.getD,d]
 have e2:G xs i=xs[i]:=by simp[G,List.getD,hi]
 rw[e1,e2];exact List.set_set_perm hi d
/-! ## In memory -/
abbrev E64 :TypeId:=24
abbrev uv (x:Int):Value:=.int .u64 x
theorem Pg {P:Program}{w w':World}{K:KV}{v x i:Value}{t:TypeId}(h:(Instr.index t x i).run P w=.ok v w')(hK:K v w'):idx P t x i K w:=gW h hK
theorem Uv {w:World}{K:KV}{a:Option Addr}{n c:Nat}{ty:TypeId}{cs:Array Bool}(h:K (.int .i64 (n:Int)) w):blt Tryz.prog .len #[76] ty cs #[.slice a n c] K w:=bx underlying76 h
def SD (w:World)(g n c:Nat)(xs:List Int):Prop:=∃rest,blk w g E64 (xs.map uv++rest)∧xs.length=n∧n≤c∧n≤4611686018427387904
attribute [local irreducible] bin un conv call dC blt slc ai fld aU idx lkp eX jl eSt rng nxt ent ext alc box bld dl ld sto bo eS mkS ifc pick rdy wts aJ sti cond bM Gives ae fU gX cOp
section
variable {w w':World}{K:KV}{g n c:Nat}{xs:List Int}
theorem SD.drew (h:SD w g n c xs):SD w.drew g n c xs:=h
theorem SD.len (h:SD w g n c xs):xs.length=n:=by obtain⟨_,_,d,_⟩:=h;exact d
theorem KS :∀w,(sizeOf 24).run Tryz.prog w=.ok 1 w:=fun _=>by kernel_rfl
theorem gZ {i:Nat}{k:IntKind}{m:Nat}(hi:i<m)(h:K (.pointer (some ⟨g,0+i*1,none⟩)) w):aU Tryz.prog 76 (.slice (some ⟨g,0,none⟩) m c) (.int k (i:Nat)) K w:=by
 refine eu (s:=1) underlying76 KS (by omega) (by omega) ?_;rw[Int.toNat_natCast];exact h
theorem ldS {i:Nat}(d:SD w g n c xs)(hi:i<n)(h:K (uv (G xs i)) w):ld Tryz.prog 24 (.pointer (some ⟨g,0+i*1,none⟩)) K w:=by
 obtain⟨rest,j,u,_⟩:=d;refine lK j ?_ h;rw[Nat.zero_add,Nat.mul_one,List.getElem?_append_left (by simp;omega),List.getElem?_map,List.getElem?_eq_getElem (by omega)];simp[G,List.getD,show i<xs.length by omega]
theorem Af {i:Nat}{v:Int}(j:SD w g n c xs)(hi:i<n)(h:∀w',SD w' g n c (xs.set i v)→Oth g w w'→K undef w'):sto Tryz.prog 24 (.pointer (some ⟨g,0+i*1,none⟩)) (uv v) K w:=by
 obtain⟨rest,I,M,J,C⟩:=j;refine dY KS I (by simp;omega) rfl ?_;intro w' d u;refine h w' ⟨rest,?_,by simp[M],J,C⟩ u;rw[Nat.zero_add,Nat.mul_one,List.set_append_left _ _ (by simp;omega), ←List.map_set]at d;exact d
theorem qt {x y:Int}(h:K (.bool (decide (x<y))) w):call Tryz.prog 122 #[uv x,uv y] K w:=by
 refine aB (goK func122) (DC ?_);have d:∀{z:Int} {K':KV},K' (.bool false) w→call Tryz.prog 46 #[uv z] K' w:=by
  intro z K' hK;refine aB (goK func46) (vd ?_);refine cW ?_;rw[decide_eq_false (fun hh=>hh rfl)];exact hK
 refine d ?_
 (repeat (first|refine aV ?_|refine fm ?_|refine mK ?_|refine nR ?_))
 exact h
theorem ct {a b d:World}(h:Oth g a b)(k:Oth g b d):Oth g a d:=⟨k.os.trans h.os,k.tape.trans h.tape,k.output.trans h.output,k.size.trans h.size,fun i hi=>(k.other i hi).trans (h.other i hi)⟩
theorem bZ (h:Oth g w w'):Oth g w w'.drew:=⟨h.os,h.tape,h.output,h.size,h.other⟩
theorem kA (w:World)(g:Nat):Oth g w w:=⟨rfl,rfl,rfl,rfl,fun _ _=>rfl⟩
end
end
section
attribute [local irreducible] bin un conv call dC blt slc ai fld aU idx lkp eX jl eSt rng nxt ent ext alc box bld dl ld sto bo eS mkS ifc pick rdy wts aJ sti cond bM Gives ae fU gX cOp
section
open Go.RowKit
theorem RO {xs:List Int}{i k:Nat}{v:Int}(hi:i<xs.length):G (xs.set i v) k=if k=i then v else G xs k:=by
 unfold G;by_cases h:k=i
 ·subst h;simp[List.getD,hi]
 ·have : ¬i=k:=fun e=>h e.symm
  simp[List.getD,h,this]
theorem xv {xs:List Int}{i j k:Nat}(hi:i<xs.length)(d:j<xs.length):G (swp xs i j) k=if k=j then G xs i else if k=i then G xs j else G xs k:=by
 unfold swp;rw[RO (by simpa using d),RO hi]
def Srt (xs:List Int)(a b:Nat):Prop:=∀i,a≤i→i+1<b→G xs i≤G xs (i+1)
structure Rng (a b:Nat) (xs ys:List Int):Prop where
 perm:ys.Perm xs
 out:∀k,k<a∨b≤k→G ys k=G xs k
theorem Rng.refl (a b:Nat)(xs:List Int):Rng a b xs xs:=⟨List.Perm.refl _,fun _ _=>rfl⟩
theorem Rng.trans {a b:Nat}{xs ys zs:List Int}(h:Rng a b xs ys)(k:Rng a b ys zs):Rng a b xs zs:=⟨k.perm.trans h.perm,fun i hi=>(k.out i hi).trans (h.out i hi)⟩
theorem Rng.len {a b:Nat}{xs ys:List Int}(h:Rng a b xs ys):ys.length=xs.length:=h.perm.length_eq
theorem Rng.mono {a b c d:Nat}{xs ys:List Int}(h:Rng a b xs ys)(C:c≤a)(u:b≤d):Rng c d xs ys:=⟨h.perm,fun k j=>h.out k (by omega)⟩
theorem Rng.swp {a b i j:Nat}{xs:List Int}(hi:i<xs.length)(d:j<xs.length)(u:a≤i∧i<b)(C:a≤j∧j<b):Rng a b xs (swp xs i j) :=
 ⟨Ra hi d,fun k h=>by rw[xv hi d,if_neg (by omega),if_neg (by omega)]⟩
theorem Rng.from {a b:Nat}{xs ys:List Int}(h:Rng a b xs ys)(hb:b≤xs.length)(Z:xs.Nodup):∀k,a≤k→k<b→∃j,a≤j∧j<b∧G ys k=G xs j:=by
 intro k hk ad;have hl:=h.len;have e:G ys k=ys[k]'(by omega):=by simp[G,List.getD,show k<ys.length by omega]
 have hm:G ys k∈xs:=by rw[e];exact h.perm.subset (List.getElem_mem _)
 obtain⟨j,X,d⟩:=List.getElem_of_mem hm;have J:G xs j=xs[j]:=by simp[G,List.getD,X]
 by_cases R:a≤j∧j<b
 ·exact⟨j,R.1,R.2,by rw[J,d]⟩
 ·have V:=h.out j (by omega);have I:G ys j=ys[j]'(by omega):=by simp[G,List.getD,show j<ys.length by omega]
  have C:ys.Nodup:=h.perm.nodup_iff.2 Z;have M:ys[j]'(by omega)=ys[k]'(by omega):=by rw[←I, ←e,V,J,d]
  have U:=List.pairwise_iff_getElem.1 C;rcases Nat.lt_trichotomy j k with u|u|u
  ·exact absurd M (U j k _ _ u)
  ·omega
  ·exact absurd M.symm (U k j _ _ u)
section
variable {w w':World}{K:KV}{g n c:Nat}{xs:List Int}
theorem Rb {a b:Nat}(hd:SD w g n c xs)(a2:a≤b)(hb:b≤n)(h:∀w' ys,SD w' g n c ys→Oth g w w'→Rng a b xs ys→Srt ys a b→K (.tuple #[]) w'):call Tryz.prog 116 #[.slice (some ⟨g,0,none⟩) n c,.int .i64 (a:Nat),.int .i64 (b:Nat)] K w:=by
 have hm:n≤4611686018427387904:=by obtain⟨_,_,_,_,hm⟩:=hd;exact hm
 refine aB (goK func116) (mS ?_)
 (repeat (first|refine aR (by omega) (by omega) ?_))
 refine ms (Inv:=fun i _ _ _ _ _ _ _ _ _ _ wr=>∃(p:Nat) (ys:List Int),i=.int .i64 (p:Nat)∧a+1≤p∧(p≤b∨p=a+1)∧SD wr g n c ys∧Oth g w wr∧Rng a b xs ys∧Srt ys a p)
  (μ:=fun i _ _ _ _ _ _ _ _ _ _ _=>b-(intOf i).toNat) ⟨a+1,xs,by simp,Nat.le_refl _,.inr rfl,hd,kA _ _,Rng.refl _ _ _,fun i C R=>by omega⟩ ?_
 rintro _ _ _ _ _ _ _ _ _ _ _ _ w1 m ⟨p,ys,rfl,aS,av,Z,o1,r1,s1⟩ X;by_cases a3:p<b
 rotate_left
 ·(repeat (first|refine aV ?_|refine au (by omega) ?_))
  exact h w1 ys Z o1 r1 (fun i C R=>s1 i C (by omega))
 (repeat (first|refine aV ?_|refine ay (by omega) ?_))
 refine qu (Inv:=fun j _ _ _ _ _ _ _ _ _ _ wr=>∃(q:Nat) (d:List Int),j=.int .i64 (q:Nat)∧a≤q∧q≤p∧SD wr g n c d∧Oth g w wr∧Rng a b xs d ∧
   (∀i,a≤i→i+1≤p→i+1≠q→G d i≤G d (i+1))∧(a<q→q<p→G d (q-1)≤G d (q+1)))
  (μ:=fun j _ _ _ _ _ _ _ _ _ _ _=>(intOf j).toNat) ⟨p,ys,rfl,by omega,Nat.le_refl _,Z,o1,r1,fun i C R h3=>s1 i C (by omega),fun _ h=>by omega⟩ ?_
 rintro _ _ _ _ _ _ _ _ _ _ _ _ w2 m2 ⟨q,d,rfl,az,a0,V,o2,r2,J,al⟩ ar;have u:=V.drew;refine aa (fun _=>cB) ?_;by_cases an:a<q
 ·have U:((q:Nat):Int)-1=((q-1:Nat):Int):=by omega
  have ag:q<d.length:=by rw[V.len];omega
  refine dE (by omega) <|aa (fun _=>gZ (by omega)) <|aa (fun _=>ldS u (by omega)) <|aa (fun _=>bg (by omega) (by omega)) ?_;rw[U];refine aa (fun _=>gZ (by omega)) <|aa (fun _=>ldS u (by omega)) <|aa (fun _=>qt) <|aa (fun _=>bR (by omega)) ?_;by_cases ad:G d q<G d (q-1)
  ·refine ay ad <|aE (fun x=>SD x g n c d) u.drew <|ab (fun x I _=>bg (by omega) (by omega)) <|ab (fun x I _=>bg (by omega) (by omega)) ?_;rw[U];refine ab (fun x I _=>gZ (by omega)) <|ab (fun x I _=>ldS I (by omega)) <|ab (fun x I _=>gZ (by omega)) <|ab (fun x I _=>ldS I (by omega)) <|ab (fun x I _=>gZ (by omega)) <|Af u.drew (by omega) ?_;intro w3 am o3
   refine aE (fun _=>True) trivial <|ab (fun x I _=>gZ (by omega)) <|Af am (by omega) ?_;intro w4 ap o4;refine bg (by omega) (by omega) ?_;have M:q-1<d.length:=by omega
   have gs:=fun k=>xv (k:=k) ag M;refine⟨⟨q-1,swp d q (q-1),by rw[U],by omega,by omega,ap,ct (ct (bZ (bZ o2)) o3) o4,r2.trans (Rng.swp ag M (by omega) (by omega)),fun i C R h3=>?_,fun C R=>?_⟩,?_⟩
   ·rw[gs,gs];by_cases i1:i=q-1
    ·subst i1;rw[if_pos rfl,if_neg (by omega),if_pos (by omega)];omega
    by_cases i2:i=q
    ·subst i2;rw[if_neg i1,if_pos rfl,if_neg (by omega),if_neg (by omega)];exact al an (by omega)
    by_cases i3:i+1=q-1
    ·omega
    rw[if_neg i1,if_neg i2,if_neg i3,if_neg (by omega)];exact J i C R (by omega)
   ·rw[gs,gs];rw[if_neg (by omega),if_neg (by omega),if_neg (by omega),if_pos (by omega)]
    have:=J (q-1-1) (by omega) (by omega) (by omega)
    rw[show q-1-1+1=q-1 by omega]at this;exact this
   ·rw[ar];show (intOf (.int .i64 ((q:Int)-1))).toNat<_;simp only[intOf];omega
  ·refine au ad <|mw ?_
   (repeat (first|refine aR (by omega) (by omega) ?_))
   refine⟨⟨p+1,d,(show Value.int .i64 ((p:Int)+1)=_ by simp),by omega,.inl (by omega),u,bZ o2,r2,fun i C R=>?_⟩,by rw[X];show b-(intOf (.int .i64 ((p:Int)+1))).toNat<_;simp only[intOf];omega⟩;by_cases hi:i+1=q
   ·have:i=q-1:=by omega
    rw[hi,this];omega
   ·exact J i C (by omega) hi
 ·refine eF (by omega) <|aa (fun _=>bE (by omega)) <|bw <|mw ?_
  (repeat (first|refine aR (by omega) (by omega) ?_))
  exact⟨⟨p+1,d,(show Value.int .i64 ((p:Int)+1)=_ by simp),by omega,.inl (by omega),u,bZ o2,r2,fun i C R=>J i C (by omega) (by omega)⟩,by rw[X];show b-(intOf (.int .i64 ((p:Int)+1))).toNat<_;simp only[intOf];omega⟩
end
end
section
open Go.RowKit
section
variable {w w':World}{K:KV}{g n c:Nat}{xs:List Int}
theorem Vk {a b:Nat}(R:SD w g n c xs)(hb:b≤n)(h:∀w' ys,SD w' g n c ys→Oth g w w'→Rng a b xs ys→K (.tuple #[]) w'):call Tryz.prog 120 #[.slice (some ⟨g,0,none⟩) n c,.int .i64 (a:Nat),.int .i64 (b:Nat)] K w:=by
 have V:n≤4611686018427387904:=by obtain⟨_,_,_,_,V⟩:=R;exact V
 refine aB (goK func120) (rc ?_);refine bg (by omega) (by omega) ?_;refine qH (Inv:=fun i j wr=>∃(p:Nat) (q:Int) (ys:List Int),i=.int .i64 (p:Nat)∧j=.int .i64 q∧a≤p∧(p:Int)≤q+2+a∧-1≤q∧q<b∧SD wr g n c ys∧Oth g w wr∧Rng a b xs ys)
  (μ:=fun i j _=>(intOf j+1).toNat) ⟨a,(b:Int)-1,xs,rfl,rfl,Nat.le_refl _,by omega,by omega,by omega,R,kA _ _,Rng.refl _ _ _⟩ ?_
 rintro _ _ _ Z m ⟨p,q,ys,rfl,rfl,hp,ag,X,ad,d,U,r1⟩ J;refine aV ?_;by_cases C:(p:Int)<q
 rotate_left
 ·refine au C ?_;exact h Z ys d U r1
 refine ay C ?_;obtain⟨k,rfl⟩:=Int.eq_ofNat_of_zero_le (show 0≤q by omega);have hl:=d.len;refine aE (fun x=>SD x g n c ys) d.drew <|ab (fun x u _=>gZ (by omega)) <|ab (fun x u _=>ldS u (by omega)) <|ab (fun x u _=>gZ (by omega)) <|ab (fun x u _=>ldS u (by omega)) <|ab (fun x u _=>gZ (by omega)) <|Af d.drew (by omega) ?_;intro w3 I o3
 refine aE (fun _=>True) trivial <|ab (fun x u _=>gZ (by omega)) <|Af I (by omega) ?_;intro w4 M o4;refine aR (by omega) (by omega) <|bg (by omega) (by omega) ?_;refine⟨⟨p+1,(k:Int)-1,swp ys p k,by simp,rfl,by omega,by omega,by omega,by omega,M,ct (ct (bZ U) o3) o4,r1.trans (Rng.swp (by omega) (by omega) (by omega) (by omega))⟩,?_⟩;rw[J];simp only[intOf];omega
end
end
end
section
open Go.RowKit
structure PIs (zs:List Int) (a b i j:Nat):Prop where
 hi:a+1≤i
 hj:a≤j∧j<b
 ij:i≤j+1
 lo:∀k,a<k→k<i→G zs k<G zs a
 up:∀k,j<k→k<b→G zs a≤G zs k
structure PR (ys:List Int) (a b m:Nat):Prop where
 hm:a≤m∧m<b
 lo:∀k,a≤k→k<m→G ys k<G ys m
 up:∀k,m<k→k<b→G ys m≤G ys k
theorem PIs.done {C:List Int}{a b i j:Nat}(h:PIs C a b i j)(M : ¬i≤j)(X:b≤C.length):PR (swp C j a) a b j:=by
 have V:=h.hi;have J:=h.hj;have U:=h.ij;have u:=fun k=>xv (xs:=C) (i:=j) (j:=a) (k:=k) (by omega) (by omega);refine⟨J,fun k I R=>?_,fun k I d=>?_⟩
 ·rw[u,u];by_cases e:k=a
  ·rw[if_pos e,if_neg (by omega),if_pos rfl];exact h.lo j (by omega) (by omega)
  ·rw[if_neg e,if_neg (by omega),if_neg (by omega),if_pos rfl];exact h.lo k (by omega) (by omega)
 ·rw[u,u];rw[if_neg (c:=k=a) (by omega),if_neg (c:=k=j) (by omega)];by_cases e:j=a
  ·rw[if_pos e,e]
   have:=h.up k (by omega) d
   exact this
  ·rw[if_neg e,if_pos rfl];exact h.up k I d
theorem PIs.swap {d:List Int}{a b i j:Nat}(h:PIs d a b i j)(R:i≤j)(hb:b≤d.length)(hi : ¬G d i<G d a)(I:G d j<G d a):PIs (swp d i j) a b (i+1) (j-1)∧i<j:=by
 have h1:=h.hi;have Z:=h.hj;have X:=h.ij;have U:i≠j:=by rintro rfl;exact hi I
 have u:=fun k=>xv (xs:=d) (i:=i) (j:=j) (k:=k) (by omega) (by omega);have J:G (swp d i j) a=G d a:=by rw[u,if_neg (by omega),if_neg (by omega)]
 refine⟨⟨by omega,by omega,by omega,fun k M V=>?_,fun k M C=>?_⟩,by omega⟩
 ·rw[J,u,if_neg (by omega)];by_cases e:k=i
  ·rw[if_pos e];exact I
  ·rw[if_neg e];exact h.lo k M (by omega)
 ·rw[J,u];by_cases e:k=j
  ·rw[if_pos e];omega
  ·rw[if_neg e,if_neg (by omega)];exact h.up k (by omega) C
end
section
attribute [local irreducible] bin un conv call dC blt slc ai fld aU idx lkp eX jl eSt rng nxt ent ext alc box bld dl ld sto bo eS mkS ifc pick rdy wts aJ sti cond bM Gives ae fU gX cOp
section
open Go.RowKit
section
variable {w w':World}{K:KV}{g n c:Nat}{xs:List Int}
theorem Do {i j:Nat}{K2:Value→Value→Value→Value→Value→Value→World→Prop}(Z:SD w g n c xs)(hi:i<n)(U:j<n)(h:∀w',SD w' g n c (swp xs i j)→Oth g w w'→K2 (.pointer (some ⟨g,0+j*1,none⟩)) (uv (G xs j)) (.pointer (some ⟨g,0+i*1,none⟩)) (uv (G xs i)) (.pointer (some ⟨g,0+i*1,none⟩)) (.pointer (some ⟨g,0+j*1,none⟩)) w'):aK (fun S w =>
   hld S (fun k w=>aU Tryz.prog 76 (.slice (some ⟨g,0,none⟩) n c) (.int .i64 (j:Nat)) k w) (fun R =>
   hld S (fun k w=>ld Tryz.prog 24 R k w) (fun u =>
   hld S (fun k w=>aU Tryz.prog 76 (.slice (some ⟨g,0,none⟩) n c) (.int .i64 (i:Nat)) k w) (fun C =>
   hld S (fun k w=>ld Tryz.prog 24 C k w) (fun M =>
   hld S (fun k w=>aU Tryz.prog 76 (.slice (some ⟨g,0,none⟩) n c) (.int .i64 (i:Nat)) k w) (fun I =>
   sto Tryz.prog 24 I u (fun _t w =>
   aK (fun S w =>
   hld S (fun k w=>aU Tryz.prog 76 (.slice (some ⟨g,0,none⟩) n c) (.int .i64 (j:Nat)) k w) (fun J =>
   sto Tryz.prog 24 J M (fun _t w=>K2 R u C M I J w) w)) w) w)))))) w.drew:=by
 refine aE (fun x=>SD x g n c xs) Z.drew <|ab (fun x d _=>gZ U) <|ab (fun x d _=>ldS d U) <|ab (fun x d _=>gZ hi) <|ab (fun x d _=>ldS d hi) <|ab (fun x d _=>gZ hi) <|Af Z.drew hi ?_;intro w3 V o3;refine aE (fun _=>True) trivial <|ab (fun x d _=>gZ U) <|Af V U ?_;intro w4 X o4;exact h w4 X (ct (ct (bZ (kA _ _)) o3) o4)
theorem Tt {a b i j:Nat}{B1:List Value→World→Prop}{ac a1 b2 a5 i10 j11 a7 a2 bd bv bW b3 a3 a6 b4 bb az a8 b0 bi a9 bk be a4 a0 Z C ag ar M X I V u am U h d ad ap al J an R:Value}{zf:Nat→Value}(e0:ac=.slice (some ⟨g,0,none⟩) n c)(e1:a1=.int .i64 (a:Nat))(ca:i10=.int .i64 (i:Nat))(e11:j11=.int .i64 (j:Nat))(hd:SD w g n c xs)(hb:b≤n)(q:PIs xs a b i j)(hB:∀e w' (i' j':Nat),gd e 10=.int .i64 ((i':Int)+1)→gd e 11=.int .i64 ((j':Int)-1)→i≤i'→j'≤j→i'<j'→SD w' g n c (swp xs i' j')→Oth g w w'→PIs (swp xs i' j') a b (i'+1) (j'-1)→B1 e w')(cg:∀{j:Nat} {wz:World} {f:Bool},SD wz g n c (swp xs j a)→Oth g w wz→PIs xs a b (j+1) j→K (.tuple #[.int .i64 (j:Nat),.bool f]) wz):fX K B1 ((aF ac a1 b2 a5 i10 j11 a7 a2 bd bv bW b3 a3 a6 b4 bb az a8 b0 bi a9 bk be a4 a0 Z C ag ar M X I V u am U h d ad ap al J an R zf)) w:=by
 subst e0 e1 ca e11;have hm:n≤4611686018427387904:=by obtain⟨_,_,_,_,hm⟩:=hd;exact hm
 have lz:=hd.len;refine rO (Inv:=fun i' _ _ _ _ _ _ _ _ _ wr=>∃q:Nat,i'=.int .i64 (q:Nat)∧i≤q∧PIs xs a b q j∧SD wr g n c xs∧Oth g w wr) (μ:=fun i _ _ _ _ _ _ _ _ _ _=>b-(intOf i).toNat) ⟨i,rfl,Nat.le_refl _,q,hd,kA _ _⟩ ?_;rintro _ _ _ _ _ _ _ _ _ _ _ w2 m2 ⟨i,rfl,b7,q2,d2,o2⟩ cc;have hi2:=q2.hi;have ck:=q2.hj;have cj:=q2.ij
 have aS:∀{w3:World},SD w3 g n c xs→Oth g w w3→(¬i≤j∨¬G xs i<G xs a)→∀{ac a1 b2 a5 i10 j11 a7 a2 bd bv bW b3 a3 a6 b4 bb az a8 b0 bi a9 bk be a4 a0 Z C ag ar M X I V u am U h d ad ap al J an R:Value} {zf:Nat→Value},ac=.slice (some ⟨g,0,none⟩) n c→a1=.int .i64 (a:Nat)→i10=.int .i64 (i:Nat)→j11=.int .i64 (j:Nat)→cR K B1 ((aF ac a1 b2 a5 i10 j11 a7 a2 bd bv bW b3 a3 a6 b4 bb az a8 b0 bi a9 bk be a4 a0 Z C ag ar M X I V u am U h d ad ap al J an R zf)) w3:=by
  intro w3 d3 o3 ce
  intros
  rename_i e1 e2 e3 e4;subst e1 e2 e3 e4;refine rP <|rQ (Inv:=fun j' _ _ _ _ _ _ _ _ _ _ wr=>∃q:Nat,j'=.int .i64 (q:Nat)∧q≤j∧PIs xs a b i q∧SD wr g n c xs∧Oth g w wr) (μ:=fun j _ _ _ _ _ _ _ _ _ _ _=>(intOf j).toNat) ⟨j,rfl,Nat.le_refl _,q2,d3,o3⟩ ?_;rintro _ _ _ _ _ _ _ _ _ _ _ _ w4 m4 ⟨j,rfl,b9,q4,d4,o4⟩ b8;have cn:=q4.hi;have cm:=q4.hj;have ch:=q4.ij
  have bt:∀{w5:World},SD w5 g n c xs→Oth g w w5→(¬i≤j∨G xs j<G xs a)→∀{ac a1 b2 a5 i10 j11 a7 a2 bd bv bW b3 a3 a6 b4 bb az a8 b0 bi a9 bk be a4 a0 Z C ag ar M X I V u am U h d ad ap al J an R:Value} {zf:Nat→Value},ac=.slice (some ⟨g,0,none⟩) n c→a1=.int .i64 (a:Nat)→i10=.int .i64 (i:Nat)→j11=.int .i64 (j:Nat)→cS K B1 ((aF ac a1 b2 a5 i10 j11 a7 a2 bd bv bW b3 a3 a6 b4 bb az a8 b0 bi a9 bk be a4 a0 Z C ag ar M X I V u am U h d ad ap al J an R zf)) w5:=by
   intro w5 d5 o5 b5
   intros
   rename_i e1 e2 e3 e4;subst e1 e2 e3 e4;refine rR <|cB ?_;by_cases cl:j<i
   ·refine ay (by omega) <|rS <|Do (i:=j) (j:=a) d5 (by omega) (by omega) ?_;intro w6 d6 o6
    have:i=j+1:=by omega
    subst this;exact cg d6 (ct o5 o6) q4
   ·refine au (by omega) <|Do (i:=i) (j:=j) d5 (by omega) (by omega) ?_;intro w6 d6 o6;obtain⟨q6,b6⟩:=q4.swap (by omega) (by omega) (ce.resolve_left (by omega)) (b5.resolve_left (by omega));refine aR (by omega) (by omega) <|bg (by omega) (by omega) ?_;exact hB _ _ i j rfl rfl b7 b9 b6 d6 (ct o5 o6) q6
  refine aa (fun _=>ir) ?_;by_cases c4:i≤j
  ·refine dE (by omega) <|aa (fun _=>gZ (by omega)) <|aa (fun _=>ldS d4.drew (by omega)) <|aa (fun _=>gZ (by omega)) <|aa (fun _=>ldS d4.drew (by omega)) <|aa (fun _=>qt) <|aa (fun _=>rT) <|aa (fun _=>bR (by omega)) ?_;by_cases av:G xs j<G xs a
   ·refine au (by omega) ?_;exact bt d4.drew (bZ o4) (.inr av) rfl rfl rfl rfl
   ·refine ay (by omega) <|bg (by omega) (by omega) ?_;refine⟨⟨j-1,by show Value.int .i64 _=Value.int .i64 _;congr 1;omega,by omega,⟨q4.hi,by omega,by omega,q4.lo,fun k h1 h2=>?_⟩,d4.drew,bZ o4⟩,by rw[b8];show (intOf (.int .i64 ((j:Int)-1))).toNat<_;simp only[intOf];omega⟩;by_cases e:k=j
    ·rw[e];omega
    ·exact q4.up k (by omega) h2
  ·refine eF (by omega) <|aa (fun _=>bE (by omega)) <|bw ?_;exact bt d4.drew (bZ o4) (.inl c4) rfl rfl rfl rfl
 refine aa (fun _=>ir) ?_;by_cases c2:i≤j
 ·refine dE (by omega) <|aa (fun _=>gZ (by omega)) <|aa (fun _=>ldS d2.drew (by omega)) <|aa (fun _=>gZ (by omega)) <|aa (fun _=>ldS d2.drew (by omega)) <|aa (fun _=>qt) <|aa (fun _=>bR (by omega)) ?_;by_cases av:G xs i<G xs a
  ·refine ay av <|aR (by omega) (by omega) ?_;refine⟨⟨i+1,(show Value.int .i64 ((i:Int)+1)=_ by simp),by omega,⟨by omega,q2.hj,by omega,fun k h1 h2=>?_,q2.up⟩,d2.drew,bZ o2⟩,by rw[cc];show b-(intOf (.int .i64 ((i:Int)+1))).toNat<_;simp only[intOf];omega⟩;by_cases e:k=i
   ·rw[e];exact av
   ·exact q2.lo k h1 (by omega)
  ·refine au av ?_;exact aS d2.drew (bZ o2) (.inr av) rfl rfl rfl rfl
 ·refine eF (by omega) <|aa (fun _=>bE (by omega)) <|bw ?_;exact aS d2.drew (bZ o2) (.inl c2) rfl rfl rfl rfl
theorem Uw {a b p:Nat}(hd:SD w g n c xs)(cI:a≤p)(cO:p<b)(hb:b≤n)(h:∀w' ys m f,SD w' g n c ys→Oth g w w'→Rng a b xs ys→PR ys a b m→K (.tuple #[.int .i64 (m:Nat),.bool f]) w'):call Tryz.prog 124 #[.slice (some ⟨g,0,none⟩) n c,.int .i64 (a:Nat),.int .i64 (b:Nat),.int .i64 (p:Nat)] K w:=by
 have hm:n≤4611686018427387904:=by obtain⟨_,_,_,_,hm⟩:=hd;exact hm
 have cp:=hd.len;refine aB (goK func124) (sE ?_);refine Do (i:=a) (j:=p) hd (by omega) (by omega) ?_;intro w1 d1 o1;have r1:Rng a b xs (swp xs a p):=Rng.swp (by omega) (by omega) (by omega) (by omega);obtain⟨zs,cc⟩:∃zs,swp xs a p=zs:=⟨_,rfl⟩
 rw[cc]at d1 r1;have lz:=d1.len;have b9:∀{z:List Int} {j:Nat} {wz:World} {f:Bool},SD wz g n c (swp z j a)→Oth g w wz→Rng a b xs z→PIs z a b (j+1) j→K (.tuple #[.int .i64 (j:Nat),.bool f]) wz:=by
  intro z j wz f d o r q;have hl:=r.len;have hj:=q.hj;exact h wz _ j f d o (r.trans (Rng.swp (by omega) (by omega) (by omega) (by omega))) (q.done (by omega) (by omega))
 refine aR (by omega) (by omega) <|bg (by omega) (by omega) <|rI (Inv:=fun i _ _ _ _ _ _ _ _ _ wr=>∃q:Nat,i=.int .i64 (q:Nat)∧PIs zs a b q (b-1)∧SD wr g n c zs∧Oth g w1 wr) (μ:=fun i _ _ _ _ _ _ _ _ _ _=>b-(intOf i).toNat) ⟨a+1,by simp,⟨Nat.le_refl _,by omega,by omega,fun k h1 h2=>by omega,fun k h1 h2=>by omega⟩,d1,kA _ _⟩ ?_;rintro _ _ _ _ _ _ _ _ _ _ _ w2 m2 ⟨i,rfl,q2,d2,o2⟩ cg;have hi2:=q2.hi
 have cm:=q2.hj;have ck:=q2.ij
 have C:∀{w3:World},SD w3 g n c zs→Oth g w1 w3→(¬i≤b-1∨¬G zs i<G zs a)→∀{ac a1 b2 a5 i10 j11 bb a6 bk b0 b3 b5 a7 a9 b6 bi a3 bd b4 bv be bW bt a8 a4 an R ar a2 X am U al M az ag J I ap a0 av V aS ad:Value} {zf:Nat→Value},ac=.slice (some ⟨g,0,none⟩) n c→a1=.int .i64 (a:Nat)→i10=.int .i64 (i:Nat)→j11=.int .i64 ((b:Int)-1)→cM K ((aF ac a1 b2 a5 i10 j11 bb a6 bk b0 b3 b5 a7 a9 b6 bi a3 bd b4 bv be bW bt a8 a4 an R ar a2 X am U al M az ag J I ap a0 av V aS ad zf)) w3:=by
  intro w3 d3 o3 ch
  intros
  rename_i e1 e2 e3 e4;subst e1 e2 e3 e4;refine rJ <|rK (Inv:=fun j _ _ _ _ _ _ _ _ _ _ wr=>∃q:Nat,j=.int .i64 (q:Nat)∧q≤b-1∧PIs zs a b i q∧SD wr g n c zs∧Oth g w1 wr) (μ:=fun j _ _ _ _ _ _ _ _ _ _ _=>(intOf j).toNat) ⟨b-1,by congr 1;omega,Nat.le_refl _,q2,d3,o3⟩ ?_;rintro _ _ _ _ _ _ _ _ _ _ _ _ w4 m4 ⟨j,rfl,cD,q4,d4,o4⟩ ca;have cQ:=q4.hi;have cG:=q4.hj;have cj:=q4.ij
  have Z:∀{w5:World},SD w5 g n c zs→Oth g w1 w5→(¬i≤j∨G zs j<G zs a)→∀{ac a1 b2 a5 i10 j11 bb a6 bk b0 b3 b5 a7 a9 b6 bi a3 bd b4 bv be bW bt a8 a4 an R ar a2 X am U al M az ag J I ap a0 av V aS ad:Value} {zf:Nat→Value},ac=.slice (some ⟨g,0,none⟩) n c→a1=.int .i64 (a:Nat)→i10=.int .i64 (i:Nat)→j11=.int .i64 (j:Nat)→cP K ((aF ac a1 b2 a5 i10 j11 bb a6 bk b0 b3 b5 a7 a9 b6 bi a3 bd b4 bv be bW bt a8 a4 an R ar a2 X am U al M az ag J I ap a0 av V aS ad zf)) w5:=by
   intro w5 d5 o5 b7
   intros
   rename_i e1 e2 e3 e4;subst e1 e2 e3 e4;refine rL <|cB ?_;by_cases cn:j<i
   ·refine ay (by omega) <|Do (i:=j) (j:=a) d5 (by omega) (by omega) ?_;intro w6 d6 o6
    have:i=j+1:=by omega
    subst this;exact b9 d6 (ct (ct o1 o5) o6) r1 q4
   ·refine au (by omega) <|Do (i:=i) (j:=j) d5 (by omega) (by omega) ?_;intro w6 d6 o6;obtain⟨q6,cl⟩:=q4.swap (by omega) (by omega) (ch.resolve_left (by omega)) (b7.resolve_left (by omega));have r6:=r1.trans (Rng.swp (xs:=zs) (i:=i) (j:=j) (by omega) (by omega) (by omega) (by omega));refine rM <|aR (by omega) (by omega) <|bg (by omega) (by omega) ?_
    refine rN (Inv:=fun i j _ _ _ _ _ _ _ _ _ _ _ _ _ _ _ _ _ _ _ wr=>∃(i' j':Nat) (z:List Int),i=.int .i64 (i':Nat)∧j=.int .i64 (j':Nat)∧PIs z a b i' j'∧SD wr g n c z∧Oth g w wr∧Rng a b xs z)
     (μ:=fun i j _ _ _ _ _ _ _ _ _ _ _ _ _ _ _ _ _ _ _ _=>(intOf j+2-intOf i).toNat) ⟨i+1,j-1,swp zs i j,by simp,by congr 1;omega,q6,d6,ct (ct o1 o5) o6,r6⟩ ?_
    rintro _ _ _ _ _ _ _ _ _ _ _ _ _ _ _ _ _ _ _ _ _ _ w7 m7 ⟨i7,j7,z,rfl,rfl,q7,d7,o7,r7⟩ ce;have cL:=d7.len;refine Tt rfl rfl rfl rfl d7 hb q7 ?_ (fun d o q=>b9 d (ct o7 o) r7 q);intro e w8 i8 j8 b8 e11 h1 h2 h3 d8 o8 q8
    have:=q7.hi
    have:=q7.hj
    refine⟨⟨i8+1,j8-1,swp z i8 j8,by rw[b8];simp,by rw[e11];congr 1;omega,q8,d8,ct o7 o8,r7.trans (Rng.swp (by omega) (by omega) (by omega) (by omega))⟩,?_⟩;show (intOf (gd e 11)+2-intOf (gd e 10)).toNat<_;rw[b8,e11,ce];simp only[intOf];omega
  refine aa (fun _=>ir) ?_;by_cases c4:i≤j
  ·refine dE (by omega) <|aa (fun _=>gZ (by omega)) <|aa (fun _=>ldS d4.drew (by omega)) <|aa (fun _=>gZ (by omega)) <|aa (fun _=>ldS d4.drew (by omega)) <|aa (fun _=>qt) <|aa (fun _=>rT) <|aa (fun _=>bR (by omega)) ?_;by_cases u:G zs j<G zs a
   ·refine au (by omega) ?_;exact Z d4.drew (bZ o4) (.inr u) rfl rfl rfl rfl
   ·refine ay (by omega) <|bg (by omega) (by omega) ?_;refine⟨⟨j-1,by show Value.int .i64 _=Value.int .i64 _;congr 1;omega,by omega,⟨q4.hi,by omega,by omega,q4.lo,fun k h1 h2=>?_⟩,d4.drew,bZ o4⟩,by rw[ca];show (intOf (.int .i64 ((j:Int)-1))).toNat<_;simp only[intOf];omega⟩;by_cases e:k=j
    ·rw[e];omega
    ·exact q4.up k (by omega) h2
  ·refine eF (by omega) <|aa (fun _=>bE (by omega)) <|bw ?_;exact Z d4.drew (bZ o4) (.inl c4) rfl rfl rfl rfl
 refine aa (fun _=>ir) ?_;by_cases c2:i≤b-1
 ·refine dE (by omega) <|aa (fun _=>gZ (by omega)) <|aa (fun _=>ldS d2.drew (by omega)) <|aa (fun _=>gZ (by omega)) <|aa (fun _=>ldS d2.drew (by omega)) <|aa (fun _=>qt) <|aa (fun _=>bR (by omega)) ?_;by_cases u:G zs i<G zs a
  ·refine ay u <|aR (by omega) (by omega) ?_;refine⟨⟨i+1,(show Value.int .i64 ((i:Int)+1)=_ by simp),⟨by omega,q2.hj,by omega,fun k h1 h2=>?_,q2.up⟩,d2.drew,bZ o2⟩,by rw[cg];show b-(intOf (.int .i64 ((i:Int)+1))).toNat<_;simp only[intOf];omega⟩;by_cases e:k=i
   ·rw[e];exact u
   ·exact q2.lo k h1 (by omega)
  ·refine au u ?_;exact C d2.drew (bZ o2) (.inr u) rfl rfl rfl rfl
 ·refine eF (by omega) <|aa (fun _=>bE (by omega)) <|bw ?_;exact C d2.drew (bZ o2) (.inl c2) rfl rfl rfl rfl
end
end
section
open Go.RowKit
def chi (i c:Nat):Prop:=c=2*i+1∨c=2*i+2
def Hp (xs:List Int)(f lo hi:Nat):Prop:=∀i c,lo≤i→chi i c→c<hi→G xs (f+c)≤G xs (f+i)
structure HI (xs:List Int) (f lo hi r:Nat):Prop where
 own:∀i c,lo≤i→i≠r→chi i c→c<hi→G xs (f+c)≤G xs (f+i)
 far:∀p c,lo≤p→chi p r→chi r c→c<hi→G xs (f+c)≤G xs (f+p)
theorem HI.start {xs:List Int}{f lo hi:Nat}(h:Hp xs f (lo+1) hi):HI xs f lo hi lo :=
 ⟨fun i c C d j u=>h i c (by omega) j u,fun p c C d=>by unfold chi at d;omega⟩
theorem HI.stop {xs:List Int}{f lo hi r:Nat}(h:HI xs f lo hi r)(u:∀c,chi r c→c<hi→G xs (f+c)≤G xs (f+r)):Hp xs f lo hi:=by
 intro i c C d j;by_cases e:i=r
 ·rw[e]at d ⊢; exact u c d j
 ·exact h.own i c C e d j
theorem HI.swap {xs:List Int}{f lo hi r c:Nat}(h:HI xs f lo hi r)(ag:lo≤r)(hf:f+hi≤xs.length)(C:chi r c)(R:c<hi)(ad:G xs (f+r)<G xs (f+c))(hs:∀M,chi r M→M<hi→G xs (f+M)≤G xs (f+c)):HI (swp xs (f+r) (f+c)) f lo hi c:=by
 have I:=fun k=>xv (xs:=xs) (i:=f+r) (j:=f+c) (k:=k) (by unfold chi at C;omega) (by omega);refine⟨fun i d U X u J=>?_,fun p d U X u J=>?_⟩
 ·rw[I,I];by_cases Z:i=r
  ·subst Z;rw[if_neg (c:=f+i=f+c) (by omega),if_pos rfl];by_cases V:d=c
   ·rw[if_pos (by omega)];omega
   ·rw[if_neg (by omega),if_neg (by unfold chi at u;omega)];exact hs d u J
  ·rw[if_neg (c:=f+i=f+c) (by omega),if_neg (c:=f+i=f+r) (by omega),if_neg (by unfold chi at u C;omega)];by_cases V:d=r
   ·rw[if_pos (by omega)];subst V;exact h.far i c U u C R
   ·rw[if_neg (by omega)];exact h.own i d U Z u J
 ·have ep:p=r:=by unfold chi at X C;omega
  subst ep;rw[I,I];rw[if_neg (c:=f+p=f+c) (by unfold chi at C;omega),if_pos rfl,if_neg (by unfold chi at u;omega),if_neg (by unfold chi at u C;omega)];exact h.own c d (by unfold chi at C;omega) (by unfold chi at C;omega) u J
theorem Hp.top {xs:List Int}{f hi:Nat}(h:Hp xs f 0 hi):∀k,k<hi→G xs (f+k)≤G xs f:=by
 intro k
 induction k using Nat.strongRecOn with
 | _ k ih =>
  intro d;by_cases e:k=0
  ·rw[e,Nat.add_zero];exact Int.le_refl _
  ·have u:=h ((k-1) / 2) k (by omega) (by unfold chi;omega) d;have j:=ih ((k-1) / 2) (by omega) (by omega);omega
section
variable {w w':World}{K:KV}{g n c:Nat}{xs:List Int}
theorem AM {i j:Nat}{K2:Value→Value→Value→Value→Value→Value→World→Prop}(Z:SD w g n c xs)(hi:i<n)(U:j<n)(h:∀w',SD w' g n c (swp xs i j)→Oth g w w'→K2 (.pointer (some ⟨g,0+j*1,none⟩)) (uv (G xs j)) (.pointer (some ⟨g,0+i*1,none⟩)) (uv (G xs i)) (.pointer (some ⟨g,0+i*1,none⟩)) (.pointer (some ⟨g,0+j*1,none⟩)) w'):hld (fun x=>SD x g n c xs) (fun k w=>aU Tryz.prog 76 (.slice (some ⟨g,0,none⟩) n c) (.int .i64 (j:Nat)) k w) (fun R =>
   hld (fun x=>SD x g n c xs) (fun k w=>ld Tryz.prog 24 R k w) (fun u =>
   hld (fun x=>SD x g n c xs) (fun k w=>aU Tryz.prog 76 (.slice (some ⟨g,0,none⟩) n c) (.int .i64 (i:Nat)) k w) (fun C =>
   hld (fun x=>SD x g n c xs) (fun k w=>ld Tryz.prog 24 C k w) (fun M =>
   hld (fun x=>SD x g n c xs) (fun k w=>aU Tryz.prog 76 (.slice (some ⟨g,0,none⟩) n c) (.int .i64 (i:Nat)) k w) (fun I =>
   sto Tryz.prog 24 I u (fun _t w =>
   aK (fun S w =>
   hld S (fun k w=>aU Tryz.prog 76 (.slice (some ⟨g,0,none⟩) n c) (.int .i64 (j:Nat)) k w) (fun J =>
   sto Tryz.prog 24 J M (fun _t w=>K2 R u C M I J w) w)) w) w))))):=by
 refine ab (fun x d _=>gZ U) <|ab (fun x d _=>ldS d U) <|ab (fun x d _=>gZ hi) <|ab (fun x d _=>ldS d hi) <|ab (fun x d _=>gZ hi) <|Af Z hi ?_;intro w3 V o3;refine aE (fun _=>True) trivial <|ab (fun x d _=>gZ U) <|Af V U ?_;intro w4 X o4;exact h w4 X (ct o3 o4)
theorem wL (a b:Nat):(a:Int)+(b:Int)=((a+b:Nat):Int):=rfl
theorem tu (a:Nat):(a:Int)+1=((a+1:Nat):Int):=rfl
theorem Vl (a:Nat):(2:Int)*(a:Int)=((2*a:Nat):Int):=by omega
theorem qL {a:Nat}(h:0<a):(a:Int)-1=((a-1:Nat):Int):=by omega
theorem KT {a b:Nat}(h:b≤a):(a:Int)-(b:Int)=((a-b:Nat):Int):=by omega
theorem Ie {f lo hi r ch:Nat}{B1:List Value→World→Prop}{ac hi2 gF pb lF ag C an av R ar M am al V Z I X U ap:Value}{zf:Nat→Value}(e0:ac=.slice (some ⟨g,0,none⟩) n c)(e3:gF=.int .i64 (f:Nat))(e8:pb=.int .i64 (r:Nat))(e9:lF=.int .i64 (ch:Nat))(j:SD w g n c xs)(hb:f+hi≤n)(hr:r<hi)(hc:chi r ch)(az:ch<hi)(hs:∀u,chi r u→u<hi→G xs (f+u)≤G xs (f+ch))(hK:∀w',¬G xs (f+r)<G xs (f+ch)→SD w' g n c xs→Oth g w w'→K (.tuple #[]) w')(hB:∀e w',gd e 8=.int .i64 (ch:Nat)→G xs (f+r)<G xs (f+ch)→SD w' g n c (swp xs (f+r) (f+ch))→Oth g w w'→B1 e w'):d9 K B1 ((du ac hi2 gF pb lF ag C an av R ar M am al V Z I X U ap zf)) w:=by
 subst e0 e3 e8 e9;have hm:n≤4611686018427387904:=by obtain⟨_,_,_,_,hm⟩:=j;exact hm
 refine ss <|aE (fun x=>SD x g n c xs) j.drew <|ab (fun x d _=>aR (by omega) (by omega)) ?_;rw[wL];refine ab (fun x d _=>gZ (by omega)) <|ab (fun x d _=>ldS d (by omega)) <|ab (fun x d _=>aR (by omega) (by omega)) ?_;rw[wL];refine ab (fun x d _=>gZ (by omega)) <|ab (fun x d _=>ldS d (by omega)) <|qt <|aE (fun _=>True) trivial <|ab (fun x d _=>rT) ?_;by_cases h:G xs (f+r)<G xs (f+ch)
 rotate_left
 ·refine ay h ?_;exact hK _ h j.drew (bZ (kA _ _))
 refine au (by omega) <|aE (fun x=>SD x g n c xs) j.drew.drew <|ab (fun x d _=>aR (by omega) (by omega)) <|ab (fun x d _=>aR (by omega) (by omega)) <|ab (fun x d _=>aR (by omega) (by omega)) ?_;rw[wL,wL];refine ab (fun x d _=>gZ (by omega)) <|ab (fun x d _=>ldS d (by omega)) <|ab (fun x d _=>aR (by omega) (by omega)) ?_;rw[wL]
 refine ab (fun x d _=>gZ (by omega)) <|ab (fun x d _=>ldS d (by omega)) <|ab (fun x d _=>gZ (by omega)) <|Af j.drew.drew (by omega) ?_;intro w3 J o3;refine aE (fun _=>True) trivial <|ab (fun x d _=>gZ (by omega)) <|Af J (by omega) ?_;intro w4 ad o4;exact hB _ _ rfl h ad (ct (ct (bZ (bZ (kA _ _))) o3) o4)
theorem Ph {f lo hi:Nat}(hd:SD w g n c xs)(hb:f+hi≤n)(ag:lo<hi∨lo=0)(hp:Hp xs f (lo+1) hi)(h:∀w' ys,SD w' g n c ys→Oth g w w'→Rng f (f+hi) xs ys→Hp ys f lo hi→K (.tuple #[]) w'):call Tryz.prog 131 #[.slice (some ⟨g,0,none⟩) n c,.int .i64 (lo:Nat),.int .i64 (hi:Nat),.int .i64 (f:Nat)] K w:=by
 have hm:n≤4611686018427387904:=by obtain⟨_,_,_,_,hm⟩:=hd;exact hm
 refine aB (goK func131) (tJ ?_);refine sr (Inv:=fun r _ _ _ _ _ _ _ _ _ _ _ _ _ _ wr=>∃(p:Nat) (z:List Int),r=.int .i64 (p:Nat)∧lo≤p∧(p<hi∨p=0)∧SD wr g n c z∧Oth g w wr∧Rng f (f+hi) xs z∧HI z f lo hi p)
  (μ:=fun r _ _ _ _ _ _ _ _ _ _ _ _ _ _ _=>hi-(intOf r).toNat) ⟨lo,xs,rfl,Nat.le_refl _,ag,hd,kA _ _,Rng.refl _ _ _,HI.start hp⟩ ?_
 rintro _ _ _ _ _ _ _ _ _ _ _ _ _ _ _ _ w1 m ⟨r,z,rfl,Z,al,C,o1,r1,s1⟩ X;have lz:=C.len;refine Eb (by omega) (by omega) ?_;rw[Vl];refine aR (by omega) (by omega) ?_;rw[tu];refine cH ?_;by_cases am:hi≤2*r+1
 ·refine ay (by omega) ?_;exact h _ z C o1 r1 (s1.stop fun c R I=>by unfold chi at R;omega)
 refine au (by omega) <|aa (fun _=>aR (by omega) (by omega)) ?_;rw[tu];refine aa (fun _=>aV) ?_;have ad:∀w',∀ch,chi r ch→ch<hi→(∀j,chi r j→j<hi→G z (f+j)≤G z (f+ch))→¬G z (f+r)<G z (f+ch)→SD w' g n c z→Oth g w w'→K (.tuple #[]) w':=by
  intro w' ch h1 h2 h3 h4 h5 h6;exact h _ z h5 h6 r1 (s1.stop fun c R I=>by have:=h3 c R I;omega)
 by_cases h2:2*r+1+1<hi
 ·refine dE (by omega) <|aa (fun _=>aR (by omega) (by omega)) ?_;rw[wL];refine aa (fun _=>gZ (by omega)) <|aa (fun _=>ldS C.drew (by omega)) <|aa (fun _=>aR (by omega) (by omega)) ?_;rw[wL];refine aa (fun _=>aR (by omega) (by omega)) ?_;rw[tu];refine aa (fun _=>gZ (by omega)) <|aa (fun _=>ldS C.drew (by omega)) <|aa (fun _=>qt) <|aa (fun _=>bR (by omega)) <|nG ?_
  by_cases I:G z (f+(2*r+1))<G z (f+(2*r+1)+1)
  ·refine ay I <|aR (by omega) (by omega) ?_;have M:∀j,chi r j→j<hi→G z (f+j)≤G z (f+(2*r+1+1)):=by
    intro j R U;rcases R with rfl|rfl
    ·rw[←Nat.add_assoc f (2*r+1)];omega
    ·exact Int.le_refl _
   refine Ie (f:=f) (lo:=lo) (hi:=hi) (r:=r) (ch:=2*r+1+1) rfl rfl rfl rfl C.drew hb (by omega) (.inr rfl) h2 M (fun w' a b d=>ad w' _ (.inr rfl) h2 M a b (ct (bZ o1) d)) ?_;intro e w' V u J o2;refine⟨⟨2*r+1+1,_,V,by omega,.inl h2,J,ct (bZ o1) o2,r1.trans (Rng.swp (by omega) (by omega) (by omega) (by omega)),s1.swap Z (by omega) (.inr rfl) h2 u M⟩,?_⟩
   show hi-(intOf (gd e 8)).toNat<_;rw[V,X];simp only[intOf];omega
  ·refine au I ?_;have M:∀j,chi r j→j<hi→G z (f+j)≤G z (f+(2*r+1)):=by
    intro j R U;rcases R with rfl|rfl
    ·exact Int.le_refl _
    ·rw[Nat.add_assoc f (2*r+1)]at I
     have:f+(2*r+2)=f+(2*r+1+1):=rfl
     rw[this];omega
   refine Ie (f:=f) (lo:=lo) (hi:=hi) (r:=r) (ch:=2*r+1) rfl rfl rfl rfl C.drew hb (by omega) (.inl rfl) (by omega) M (fun w' a b d=>ad w' _ (.inl rfl) (by omega) M a b (ct (bZ o1) d)) ?_;intro e w' V u J o2
   refine⟨⟨2*r+1,_,V,by omega,.inl (by omega),J,ct (bZ o1) o2,r1.trans (Rng.swp (by omega) (by omega) (by omega) (by omega)),s1.swap Z (by omega) (.inl rfl) (by omega) u M⟩,?_⟩;show hi-(intOf (gd e 8)).toNat<_;rw[V,X];simp only[intOf];omega
 ·refine eF (by omega) <|aa (fun _=>bE (by omega)) <|nG <|bw ?_;have M:∀j,chi r j→j<hi→G z (f+j)≤G z (f+(2*r+1)):=by
   intro j R U;rcases R with rfl|rfl
   ·exact Int.le_refl _
   ·omega
  refine Ie (f:=f) (lo:=lo) (hi:=hi) (r:=r) (ch:=2*r+1) rfl rfl rfl rfl C.drew hb (by omega) (.inl rfl) (by omega) M (fun w' a b d=>ad w' _ (.inl rfl) (by omega) M a b (ct (bZ o1) d)) ?_;intro e w' V u J o2;refine⟨⟨2*r+1,_,V,by omega,.inl (by omega),J,ct (bZ o1) o2,r1.trans (Rng.swp (by omega) (by omega) (by omega) (by omega)),s1.swap Z (by omega) (.inl rfl) (by omega) u M⟩,?_⟩
  show hi-(intOf (gd e 8)).toNat<_;rw[V,X];simp only[intOf];omega
structure HS (z:List Int) (a b i:Nat):Prop where
 heap:Hp z a 0 i
 srt:Srt z (a+i) b
 sep:∀k m,k<i→a+i≤m→m<b→G z (a+k)≤G z m
theorem Ux {a b : Nat} (hd : SD w g n c xs) (hab : a < b) (hb : b ≤ n) (hn : xs.Nodup) (h : ∀ w' ys, SD w' g n c ys → Oth g w w' → Rng a b xs ys → Srt ys a b → K (.tuple #[]) w') :
    call Tryz.prog 117 #[.slice (some ⟨g, 0, none⟩) n c, .int .i64 (a : Nat), .int .i64 (b : Nat)] K w := by
  have hm : n ≤ 4611686018427387904 := by obtain ⟨_, _, _, _, hm⟩ := hd; exact hm
  refine aB (goK Tryz.func117) (tI ?_)
  refine bg (by omega) (by omega) ?_
  rw [KT (by omega)]
  refine bg (by omega) (by omega) ?_
  rw [qL (by omega)]
  refine Gu (by omega) (by omega) (by omega) ?_
  refine si (Inv := fun i wr => ∃ (p : Nat) (z : List Int), i = .int .i64 ((p : Int) - 1) ∧ (p ≤ b - a) ∧ SD wr g n c z ∧ Oth g w wr ∧ Rng a b xs z ∧ Hp z a p (b - a))
    (μ := fun i _ => (intOf i + 1).toNat) ⟨(b - a - 1) / 2 + 1, xs, by congr 1; omega, by omega, hd, kA _ _, Rng.refl _ _ _, fun i c h1 h2 h3 => by unfold chi at h2; omega⟩ ?_
  rintro _ _ w1 m ⟨p, z, rfl, hp1, hd1, o1, r1, s1⟩ hm1
  have lz := hd1.len
  refine cH ?_
  by_cases hp0 : 0 < p
  · refine ay (by omega) ?_
    rw [qL hp0]
    refine Ph hd1 (f := a) (lo := p - 1) (hi := b - a) (by omega) (by omega) (by rw [show p - 1 + 1 = p by omega]; exact s1) ?_
    intro w2 y hd2 o2 r2 s2
    rw [show a + (b - a) = b by omega] at r2
    refine bg (by omega) (by omega) ?_
    refine ⟨⟨p - 1, y, rfl, by omega, hd2, ct o1 o2, r1.trans r2, s2⟩, ?_⟩
    rw [hm1]; simp only [intOf]; omega
  refine au (by omega) ?_
  refine sj ?_
  have ep : p = 0 := by omega
  subst ep
  refine bg (by omega) (by omega) ?_
  refine sm (Inv := fun i wr => ∃ (p : Nat) (z : List Int), i = .int .i64 ((p : Int) - 1) ∧ (p ≤ b - a) ∧ SD wr g n c z ∧ Oth g w wr ∧ Rng a b xs z ∧ HS z a b p)
    (μ := fun i _ => (intOf i + 1).toNat) ⟨b - a, z, rfl, Nat.le_refl _, hd1, o1, r1, s1, fun i h1 h2 => by omega, fun k m h1 h2 h3 => by omega⟩ ?_
  rintro _ _ w3 m3 ⟨p, z3, rfl, hp3, hd3, o3, r3, s3⟩ hm3
  have lz3 := hd3.len
  refine cH ?_
  by_cases hp0 : 0 < p
  rotate_left
  · refine au (by omega) ?_
    have ep : p = 0 := by omega
    subst ep
    exact h _ z3 hd3 o3 r3 s3.srt
  refine ay (by omega) ?_
  rw [qL hp0]
  refine aE (fun x => SD x g n c z3) hd3.drew ?_
  refine ab (fun x hx K hK => aR (by omega) (by omega) hK) ?_
  refine ab (fun x hx K hK => aR (by omega) (by omega) hK) ?_
  rw [wL]
  refine AM hd3.drew (i := a) (j := a + (p - 1)) (by omega) (by omega) ?_
  intro w4 hd4 o4
  have gs := fun k => xv (xs := z3) (i := a) (j := a + (p - 1)) (k := k) (by omega) (by omega)
  refine Ph hd4 (f := a) (lo := 0) (hi := p - 1) (by omega) (.inr rfl) ?_ ?_
  · intro i c h1 h2 h3
    rw [gs, gs, if_neg (by omega), if_neg (by unfold chi at h2; omega), if_neg (by unfold chi at h2; omega), if_neg (by omega)]
    exact s3.heap i c (by omega) h2 (by omega)
  intro w5 y hd5 o5 r5 s5
  refine bg (by omega) (by omega) ?_
  have hnz : z3.Nodup := r3.perm.nodup_iff.2 hn
  have r4 : Rng a (a + p) z3 (swp z3 a (a + (p - 1))) := Rng.swp (by omega) (by omega) (by omega) (by omega)
  have r34 := r4.trans (r5.mono (c := a) (d := a + p) (by omega) (by omega))
  have top : ∀ k, k < p - 1 → G y (a + k) ≤ G z3 a := by
    intro k hk
    obtain ⟨j, hj1, hj2, hj3⟩ := r34.from (by omega) hnz (a + k) (by omega) (by omega)
    rw [hj3]
    have := s3.heap.top (j - a) (by omega)
    rw [show a + (j - a) = j by omega] at this
    exact this
  have high : ∀ m, a + p ≤ m → G y m = G z3 m := fun m h1 => r34.out m (by omega)
  have at_p : G y (a + (p - 1)) = G z3 a := by rw [r5.out _ (by omega), gs, if_pos rfl]
  refine ⟨⟨p - 1, y, rfl, by omega, hd5, ct (ct (bZ o3) o4) o5, r3.trans (r34.mono (by omega) (by omega)), ⟨s5, fun i h1 h2 => ?_, fun k m h1 h2 h3 => ?_⟩⟩, ?_⟩
  · by_cases e : i = a + (p - 1)
    · rw [e, at_p, high _ (by omega)]
      have := s3.sep 0 (a + (p - 1) + 1) (by omega) (by omega) (by omega)
      exact this
    · rw [high _ (by omega), high _ (by omega)]
      exact s3.srt i (by omega) h2
  · by_cases e : m = a + (p - 1)
    · rw [e, at_p]; exact top k h1
    · rw [high m (by omega)]
      have h5 := top k h1
      have h6 := s3.sep 0 m (by omega) (by omega) h3
      rw [Nat.add_zero] at h6
      omega
  · rw [hm3, qL hp0]; simp only [intOf]; omega
end
end
end
end Go.Proofs.YtgpfkmdknlcemaaGreatDoor
