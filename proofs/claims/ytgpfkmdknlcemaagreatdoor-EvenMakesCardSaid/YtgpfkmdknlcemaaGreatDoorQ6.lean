import Derived.Test.YtgpfkmdknlcemaaGreatDoorQ5
import Derived.Test.YtgpfkmdknlcemaaGreatDoorQ3
import Derived.DeepKeys
import Derived.Test.YtgpfkmdknlcemaaGreatDoorQ1
namespace Go.Proofs.YtgpfkmdknlcemaaGreatDoor
set_option maxRecDepth 100000
set_option maxHeartbeats 4000000
open Tryz
section
open Go.RowKit
theorem Rc {A:List Int}{k:Nat}(d:k<6)(h:tL A k=false):iO A=false:=by
 have:(List.range 6).all (tL A)=false:=by
  cases j:(List.range 6).all (tL A)with
  | false=>rfl
  | true=>have:=List.all_eq_true.1 j k (by simpa using d);rw[this]at h;cases h
 unfold iO;rw[this];rfl
theorem Pi {A:List Int}{k:Nat}(d:k<6)(h:dG A k<0):iO A=false:=by
 have:(List.range 6).all (fun k=>decide (0≤dG A k))=false:=by
  cases j:(List.range 6).all (fun k=>decide (0≤dG A k))with
  | false=>rfl
  | true=>have:=List.all_eq_true.1 j k (by simpa using d);simp at this;omega
 unfold iO;rw[this];simp
theorem KU {A:List Int}(h:∀k,k<6→tL A k=true):∀q,q<54→0≤nA A q∧nA A q≤MXA:=by
 have e:∀k,k<6→okA (nA A k)=true∧okA (nA A (6+k))=true∧okA (nA A (12+k))=true∧∀j,j<6→okA (nA A (18+6*k+j))=true:=by
  intro k u
  have:=h k u
  unfold tL at this;simp only[Bool.and_eq_true]at this;exact⟨this.1.1.1.1.1,this.1.1.1.1.2,this.1.1.1.2,fun j d=>List.all_eq_true.1 this.2 j (by simpa using d)⟩
 intro q M;refine kH.1 ?_;by_cases C:q<6
 ·exact(e q C).1
 by_cases J:q<12
 ·have:=(e (q-6) (by omega)).2.1;rwa[show 6+(q-6)=q by omega]at this
 by_cases I:q<18
 ·have:=(e (q-12) (by omega)).2.2.1;rwa[show 12+(q-12)=q by omega]at this
 ·have:=(e ((q-18) / 6) (by omega)).2.2.2 ((q-18)%6) (by omega)
  rwa[show 18+6*((q-18) / 6)+(q-18)%6=q by omega]at this
theorem Pj {A:List Int}(h:∀k,k<6→tL A k=true)(j:∀k,k<6→0≤dG A k):iO A=decide (sG A 6≤MXA):=by
 unfold iO;rw[List.all_eq_true.2 fun k d=>h k (by simpa using d),List.all_eq_true.2 fun k d=>by simpa using j k (by simpa using d)];rfl
end
section
attribute [local irreducible] bin un conv call dC blt slc ai fld aU idx lkp eX jl eSt rng nxt ent ext alc box bld dl ld sto bo eS mkS ifc pick rdy wts aJ sti cond bM Gives ae fU gX cOp
section
open Go.RowKit
section
variable {w:World}{K:KV}
theorem Tu {A:List Int}(hA:A.length=54)(h:∀w',Below w.heap.size w w'→K (.bool (iO A)) w'):call Tryz.prog 113 #[.agg (A.map iv).toArray] K w:=by
 refine aB (goK func113) (FQ ?_);refine dc fun I hb b1 s1=>?_;have hb:blk I w.heap.size 36 (A.map iv):=by simpa[Value.cells]using hb
 have hR:RtA I w.heap.size 0 36 (A.map iv) A:=⟨hb,by rw[List.drop_zero,List.take_of_length_le (by simp[hA])],hA⟩
 have av:((A.map iv).drop 0).take 54=A.map iv:=by rw[List.drop_zero,List.take_of_length_le (by simp[hA])]
 have R:=hb.lt;refine DE (Inv:=fun al i _ _ _ _ _ _ _ _ _ _ _ _ _ _ _ _ _ _ _ _ _ _ _ _ _ _ _ _ wr=>∃k:Nat,al=.int .i64 (sG A k)∧i=.int .i64 (k:Nat)∧k≤6∧Below I.heap.size I wr∧∀j,j<k→tL A j=true)
  (μ:=fun _ i _ _ _ _ _ _ _ _ _ _ _ _ _ _ _ _ _ _ _ _ _ _ _ _ _ _ _ _ _=>6-(intOf i).toNat) ⟨0,rfl,rfl,by omega,Below.refl _ _,fun j hj=>by omega⟩ ?_
 rintro _ _ _ _ _ _ _ _ _ _ _ _ _ _ _ _ _ _ _ _ _ _ _ _ _ _ _ _ _ _ dd w2 m ⟨k,rfl,rfl,a6,b2,u⟩ hm;have am:=hR.below b2 R;have a4:=b2.size;have a0:∀J,J≤k→0≤sG A J∧sG A J≤J*MXA:=by
  intro J
  induction J with
  | zero=>intro _;simp[sG]
  | succ J ih =>
   intro a7;have h1:=ih (by omega);have U:=u J (by omega);unfold tL at U;simp only[Bool.and_eq_true]at U;have h3:=kH.1 U.1.1.1.1.1;rw[Eo];have e:(((J+1:Nat):Int))*MXA=(J:Int)*MXA+MXA:=by simp only[MXA];omega
   rw[e];omega
 refine aV ?_;by_cases hk:k<6
 ·refine ay (by omega) ?_;have d:RtA w2.drew w.heap.size 0 36 (A.map iv) A:=⟨am.bk.drew,am.cut,am.len⟩
  have hB:Below I.heap.size I w2.drew:=b2.drew;have no:tL A k=false→K (.bool false) w2.drew:=fun V=>by
   have:=h w2.drew (b1.trans (hB.mono (by omega)))
   rw[Rc hk V]at this;exact this
  generalize w2.drew=w4 at *;have hf:tL A k=(okA (nA A k)&&okA (nA A (6+k))&&okA (nA A (12+k))&&decide (nA A (12+k)≤nA A (6+k))&&decide (nA A (18+6*k+k)=0)&&(List.range 6).all fun j=>okA (nA A (18+6*k+j))):=rfl
  refine aa (fun _=>aM (off:=0) (by kernel_rfl)) <|aa (fun _=>dB underlying33 (s:=1) (fun _=>by kernel_rfl) (by omega) (by omega)) <|aa (v:=iv (nA A k)) (fun _=>lK d.bk (by rw[←d.get (i:=k) (by omega)];congr 1;simp)) ?_;unfold iv;refine aa (fun _=>En) <|aa (fun _=>eh) ?_;cases c1:okA (nA A k)with
  | false =>
   refine fK <|aa (fun _=>db) <|fK <|aa (fun _=>db) <|fK <|aa (fun _=>db) <|fK <|aa (fun _=>db) <|bu ?_;exact no (by rw[hf,c1];rfl)
  | true =>
  refine nR <|aa (fun _=>aM (off:=6) (by kernel_rfl)) <|aa (fun _=>dB underlying33 (s:=1) (fun _=>by kernel_rfl) (by omega) (by omega)) <|aa (v:=iv (nA A (6+k))) (fun _=>lK d.bk (by rw[←d.get (i:=6+k) (by omega)];congr 1;simp)) ?_;unfold iv;refine aa (fun _=>En) <|aa (fun _=>eh) <|aa (fun _=>fm) ?_;cases c2:okA (nA A (6+k))with
  | false =>
   refine fK <|aa (fun _=>db) <|fK <|aa (fun _=>db) <|fK <|aa (fun _=>db) <|bu ?_;exact no (by rw[hf,c2];simp)
  | true =>
  refine nR <|aa (fun _=>aM (off:=12) (by kernel_rfl)) <|aa (fun _=>dB underlying33 (s:=1) (fun _=>by kernel_rfl) (by omega) (by omega)) <|aa (v:=iv (nA A (12+k))) (fun _=>lK d.bk (by rw[←d.get (i:=12+k) (by omega)];congr 1;simp)) ?_;unfold iv;refine aa (fun _=>En) <|aa (fun _=>eh) <|aa (fun _=>fm) ?_;cases c3:okA (nA A (12+k))with
  | false =>
   refine fK <|aa (fun _=>db) <|fK <|aa (fun _=>db) <|bu ?_;exact no (by rw[hf,c3];simp)
  | true =>
  refine nR <|aa (fun _=>aM (off:=12) (by kernel_rfl)) <|aa (fun _=>dB underlying33 (s:=1) (fun _=>by kernel_rfl) (by omega) (by omega)) <|aa (v:=iv (nA A (12+k))) (fun _=>lK d.bk (by rw[←d.get (i:=12+k) (by omega)];congr 1;simp)) <|aa (fun _=>aM (off:=6) (by kernel_rfl)) <|aa (fun _=>dB underlying33 (s:=1) (fun _=>by kernel_rfl) (by omega) (by omega)) <|aa (v:=iv (nA A (6+k))) (fun _=>lK d.bk (by rw[←d.get (i:=6+k) (by omega)];congr 1;simp)) ?_
  unfold iv;refine aa (fun _=>cB) <|aa (fun _=>fm) ?_;by_cases h1:nA A (6+k)<nA A (12+k)
  ·refine iZ h1 <|aa (fun _=>bR h1) <|bu ?_;exact no (by rw[hf,decide_eq_false (by omega : ¬nA A (12+k)≤nA A (6+k))];simp)
  refine dZ h1 <|aa (fun _=>aM (off:=18) (by kernel_rfl)) <|aa (fun _=>dB underlying34 (s:=6) (fun _=>by kernel_rfl) (by omega) (by omega)) <|aa (fun _=>dB underlying33 (s:=1) (fun _=>by kernel_rfl) (by omega) (by omega)) <|aa (v:=iv (nA A (18+6*k+k))) (fun _=>lK d.bk (by rw[←d.get (i:=18+6*k+k) (by omega)];congr 1;simp;omega)) ?_;unfold iv;refine aa (fun _=>cW) <|aa (fun _=>bE h1) ?_
  by_cases U:nA A (18+6*k+k)≠0
  ·refine ay U ?_;exact no (by rw[hf,decide_eq_false U];simp)
  refine au U ?_;have hg:=kH.1 c1;have hs:=a0 k (Nat.le_refl _);simp only[MXA]at hg hs;refine aM (off:=0) (by kernel_rfl) <|dB underlying33 (s:=1) (fun _=>by kernel_rfl) (by omega) (by omega) <|lK (v:=iv (nA A k)) d.bk (by rw[←d.get (i:=k) (by omega)];congr 1;simp) ?_;unfold iv
  refine aR (by omega) (by omega) <|DF (Inv:=fun jv wr=>∃j:Nat,jv=.int .i64 (j:Nat)∧j≤6∧wr=w4∧∀q,q<j→okA (nA A (18+6*k+q))=true) (μ:=fun jv _=>6-(intOf jv).toNat) ⟨0,rfl,by omega,rfl,fun q V=>by omega⟩ ?_;rintro _ az _ m2 ⟨j,rfl,a3,rfl,X⟩ ag;refine aV ?_;by_cases hj:j<6
  ·refine ay (by omega) <|aM (off:=18) (by kernel_rfl) <|dB underlying34 (s:=6) (fun _=>by kernel_rfl) (by omega) (by omega) <|dB underlying33 (s:=1) (fun _=>by kernel_rfl) (by omega) (by omega) <|lK (v:=iv (nA A (18+6*k+j))) d.bk (by rw[←d.get (i:=18+6*k+j) (by omega)];congr 1;simp;omega) ?_;unfold iv;refine En <|eh ?_;cases c4:okA (nA A (18+6*k+j))with
   | false =>
    refine bu <|no ?_
    have:(List.range 6).all (fun j=>okA (nA A (18+6*k+j)))=false:=by
     cases V:(List.range 6).all (fun j=>okA (nA A (18+6*k+j)))with
     | false=>rfl
     | true=>have:=List.all_eq_true.1 V j (by simpa using hj);rw[this]at c4;cases c4
    rw[hf,this];simp
   | true =>
    refine bw <|aR (by omega) (by omega) ?_;refine⟨⟨j+1,by simp,by omega,rfl,fun q V=>?_⟩,by rw[ag];simp[intOf];omega⟩;by_cases Z:q=j
    ·subst Z;exact c4
    ·exact X q (by omega)
  ·refine au (by omega) ?_;obtain rfl:j=6:=by omega
   refine DH <|aR (by omega) (by omega) ?_;refine⟨⟨k+1,congrArg (Value.int .i64) (Eo A k).symm,congrArg (Value.int .i64) (by omega),by omega,hB,fun q V=>?_⟩,by rw[hm];show 6-((k:Int)+1).toNat<6-(k:Int).toNat;omega⟩;by_cases aS:q=k
   ·subst aS;rw[hf,c1,c2,c3,decide_eq_true (by omega:nA A (12+q)≤nA A (6+q)),decide_eq_true (Classical.not_not.1 U),List.all_eq_true.2 fun j hj=>X j (by simpa using hj)];rfl
   ·exact u q (by omega)
 ·refine au (by omega) ?_;obtain rfl:k=6:=by omega
  have ap:=KU u;refine DG <|DI (Inv:=fun ad wr=>∃j:Nat,ad=.int .i64 ((j:Int)+1)∧j≤6∧Below I.heap.size I wr∧∀q,q<j→0≤dG A q) (μ:=fun ad _=>8-(intOf ad).toNat) ⟨0,rfl,by omega,b2,fun q V=>by omega⟩ ?_;rintro _ az w5 m2 ⟨j,rfl,a3,b5,M⟩ ag;have a2:=hR.below b5 R;have ar:=b5.size;refine ir ?_;by_cases hj:j<6
  ·refine ay (by omega) <|ldA (n:=54) (vs:=A.map iv) underlying36 rfl (by kernel_rfl) a2.bk av (by simp[hA]) ?_;refine Iv hA hj ap fun w6 b6=>?_;have an:Below I.heap.size I w6:=b5.trans (b6.mono ar);unfold iv;refine aV ?_;by_cases C:dG A j<0
   ·refine ay C ?_
    have:=h w6 (b1.trans (an.mono (by omega)))
    rw[Pi hj C]at this;exact this
   ·refine au C <|aR (by omega) (by omega) ?_;refine⟨⟨j+1,by simp,by omega,an,fun q V=>?_⟩,by rw[ag];simp[intOf];omega⟩;by_cases Z:q=j
    ·subst Z;omega
    ·exact M q (by omega)
  ·refine au (by omega) ?_;obtain rfl:j=6:=by omega
   refine DJ <|ir ?_
   have:=h w5 (b1.trans (b5.mono (by omega)))
   rw[Pj u M]at this;exact this
end
end
section
open Go.RowKit
section
variable {w:World}{K:KV}
theorem ME {i:Int}(h:K (.bool (bV i)) w):call Tryz.prog 111 #[.int .i64 i] K w:=by
 refine aB (goK func111) (CH ?_);unfold bV at h;refine cH ?_;by_cases d:i≥1
 ·refine dE d <|ir <|bR d ?_;rw[show decide (1≤i)=true from decide_eq_true d,Bool.true_and]at h;exact h
 ·refine eF d <|bE d ?_;rw[show decide (1≤i)=false from decide_eq_false d,Bool.false_and]at h;exact h
theorem vx {A:List Int}(h:iO A=true):∀q,q<54→0≤nA A q∧nA A q≤MXA:=by
 unfold iO at h;simp only[Bool.and_eq_true]at h;exact KU fun k d=>List.all_eq_true.1 h.1.1 k (by simpa using d)
end
end
end
section
open Go.RowKit
theorem Dp {K:KV}{r0 i1 u:Value}{w:World}(h:box Q 36 r0 (fun J=>ld Q 36 J fun A1=>call Q 113 #[A1] fun A2=>un Q .not A2 fun A3 w=>aJ A3 false (fun I=>bin Q .lss 2 false true u (ci 1) (fun A5=>I [u,A5]) w) (fun k=>k [uu,uu] w) fun d=>pick A3 cT (gd d 1) fun A6 w=>aJ A6 false (fun C=>bin Q .gtr 2 false true u (ci 1125899906842624) (fun A9=>C [u,A9]) w) (fun k=>k [uu,uu] w) fun j=>pick A6 cT (gd j 1) fun C0 w=>cond C0 (K (ci 1) w) (call Q 111 #[i1] (fun C2=>un Q .not C2 fun C3 w=>cond C3 (K (ci 10) w) (K (ci 0) w)) w)) w):Gives Q 110 #[r0,i1,u] w K:=by
 refine aH func110 (by kernel_rfl) ?_;exact mpK h
theorem Ex {K:KV}{r0 i1 j:Value}{w:World}(h:box Q 36 r0 (fun d=>alc Q 36 fun A0=>ld Q 36 d fun A3=>call Q 110 #[A3,i1,j] fun A5=>bin Q .neq 49 false true A5 (ci 0) fun A7 w=>cond A7 (bld Q 36 #[] (fun A8=>sto Q 36 A0 A8 fun _=>bM Q [(some 36,A0),(none,A5)] K) w) (ld Q 36 d (fun C1=>call Q 112 #[C1,i1] fun C3=>bin Q .gtr 2 false false j C3 fun C4 w=>cond C4 (bld Q 36 #[] (fun C5=>sto Q 36 A0 C5 fun _=>bM Q [(some 36,A0),(none,ci 11)] K) w) (bin Q .sub 3 false true i1 (ci 1) (fun C6=>ai Q 36 d 1 fun C7=>aU Q 33 C7 C6 fun C8=>ld Q 2 C8 fun C9=>bin Q .add 2 false false C9 j fun D1=>bin Q .gtr 2 false true D1 (ci 1125899906842624) fun D2 w=>cond D2 (bld Q 36 #[] (fun D3=>sto Q 36 A0 D3 fun _=>bM Q [(some 36,A0),(none,ci 6)] K) w) (bin Q .sub 3 false true i1 (ci 1) (fun D5=>ai Q 36 d 1 fun D6=>aU Q 33 D6 D5 fun D7=>ld Q 2 D7 fun D8=>bin Q .add 2 false false D8 j fun E0=>ai Q 36 d 1 fun E1=>aU Q 33 E1 D5 fun E2=>sto Q 2 E2 E0 fun _=>ld Q 36 d fun E3=>sto Q 36 A0 E3 fun _=>bM Q [(some 36,A0),(none,ci 0)] K) w)) w)) w)) w):Gives Q 107 #[r0,i1,j] w K:=by
 refine aH func107 (by kernel_rfl) ?_;exact mpK h
theorem Ey {K:KV}{r0 i1 j:Value}{w:World}(h:box Q 36 r0 (fun d=>alc Q 36 fun A0=>ld Q 36 d fun A3=>call Q 110 #[A3,i1,j] fun A5=>bin Q .neq 49 false true A5 (ci 0) fun A7 w=>cond A7 (bld Q 36 #[] (fun A8=>sto Q 36 A0 A8 fun _=>bM Q [(some 36,A0),(none,A5)] K) w) (sti (bin Q .sub 3 false true i1 (ci 1)) (fun C2=>sF 36 d 1 fun C3=>sI 33 C3 C2 fun C4=>sL 2 C4 fun C5=>sti (bin Q .sub 3 false true i1 (ci 1)) fun C6=>sF 36 d 2 fun C7=>sI 33 C7 C6 fun C8=>sL 2 C8 fun C9=>sti (bin Q .sub 2 false false C5 C9) fun D0=>sti (bin Q .gtr 2 false false j D0) fun D1 w=>cond D1 (bld Q 36 #[] (fun D2=>sto Q 36 A0 D2 fun _=>bM Q [(some 36,A0),(none,ci 12)] K) w) (bin Q .sub 3 false true i1 (ci 1) (fun D4=>ai Q 36 d 2 fun D5=>aU Q 33 D5 D4 fun D6=>ld Q 2 D6 fun D7=>bin Q .add 2 false false D7 j fun D9=>ai Q 36 d 2 fun E0=>aU Q 33 E0 D4 fun E1=>sto Q 2 E1 D9 fun _=>ld Q 36 d fun E2=>sto Q 36 A0 E2 fun _=>bM Q [(some 36,A0),(none,ci 0)] K) w)) w.drew)) w):Gives Q 109 #[r0,i1,j] w K:=by
 refine aH func109 (by kernel_rfl) ?_;exact mpK h
theorem Ez {K:KV}{r0 i1 d x3:Value}{w:World}(h:box Q 36 r0 (fun r4=>alc Q 36 fun A2=>ld Q 36 r4 fun A4=>call Q 110 #[A4,i1,x3] fun A7=>bin Q .neq 49 false true A7 (ci 0) fun A9 w=>cond A9 (bld Q 36 #[] (fun C0=>sto Q 36 A2 C0 fun _=>bM Q [(some 36,A2),(none,A7)] K) w) (call Q 111 #[d] (fun C3=>un Q .not C3 fun C4 w=>cond C4 (bld Q 36 #[] (fun C5=>sto Q 36 A2 C5 fun _=>bM Q [(some 36,A2),(none,ci 10)] K) w) (bin Q .eql 3 false false i1 d (fun C7 w=>cond C7 (bld Q 36 #[] (fun C8=>sto Q 36 A2 C8 fun _=>bM Q [(some 36,A2),(none,ci 1)] K) w) (ld Q 36 r4 (fun D0=>call Q 112 #[D0,i1] fun D2=>bin Q .gtr 2 false false x3 D2 fun D3 w=>cond D3 (bld Q 36 #[] (fun D4=>sto Q 36 A2 D4 fun _=>bM Q [(some 36,A2),(none,ci 11)] K) w) (bin Q .sub 3 false true i1 (ci 1) (fun D6=>bin Q .sub 3 false true d (ci 1) fun D8=>ai Q 36 r4 3 fun D9=>aU Q 34 D9 D6 fun E0=>aU Q 33 E0 D8 fun E1=>ld Q 2 E1 fun E2=>bin Q .add 2 false false E2 x3 fun E4=>bin Q .gtr 2 false true E4 (ci 1125899906842624) fun E5 w=>cond E5 (bld Q 36 #[] (fun E6=>sto Q 36 A2 E6 fun _=>bM Q [(some 36,A2),(none,ci 6)] K) w) (sti (bin Q .sub 3 false true i1 (ci 1)) (fun E7=>sti (bin Q .sub 3 false true d (ci 1)) fun E8=>sF 36 r4 3 fun E9=>sI 34 E9 E7 fun F0=>sI 33 F0 E8 fun F1=>sL 2 F1 fun F2=>sti (bin Q .add 2 false false F2 x3) fun F3=>sF 36 r4 3 fun F4=>sI 34 F4 E7 fun F5=>sI 33 F5 E8 fun F6=>sto Q 2 F6 F3 fun _=>ld Q 36 r4 fun F7=>sto Q 36 A2 F7 fun _=>bM Q [(some 36,A2),(none,ci 0)] K) w.drew)) w)) w)) w)) w)) w):Gives Q 84 #[r0,i1,d,x3] w K:=by
 refine aH func84 (by kernel_rfl) ?_;exact mpK h
end
section
attribute [local irreducible] bin un conv call dC blt slc ai fld aU idx lkp eX jl eSt rng nxt ent ext alc box bld dl ld sto bo eS mkS ifc pick rdy wts aJ sti cond bM Gives ae fU gX cOp
section
open Go.RowKit
theorem If {A:List Int}{i x:Int}(h:pn A i x=0):iO A=true∧1≤x∧x≤MXA∧1≤i∧i≤6:=by
 unfold pn at h;split at h
 ·cases h
 ·rename_i C;split at h
  ·cases h
  ·rename_i u;have d:iO A=true:=by
    cases I:iO A with
    | true=>rfl
    | false=>exact absurd (.inl I) C
   have j:bV i=true:=by simpa using u
   have:1≤i∧i≤6:=by simpa[bV]using j
   exact⟨d,by omega,by omega,this.1,this.2⟩
theorem rt {w:World}{K:KV}{b o:Nat}(h:K (.pointer (some ⟨b,o+0,none⟩)) w):ai Tryz.prog 36 (.pointer (some ⟨b,o,none⟩)) 0 K w:=aM (by kernel_rfl) h
theorem vy {w:World}{K:KV}{b o:Nat}(h:K (.pointer (some ⟨b,o+6,none⟩)) w):ai Tryz.prog 36 (.pointer (some ⟨b,o,none⟩)) 1 K w:=aM (by kernel_rfl) h
theorem yj {w:World}{K:KV}{b o:Nat}(h:K (.pointer (some ⟨b,o+12,none⟩)) w):ai Tryz.prog 36 (.pointer (some ⟨b,o,none⟩)) 2 K w:=aM (by kernel_rfl) h
theorem BQ {w:World}{K:KV}{b o:Nat}(h:K (.pointer (some ⟨b,o+18,none⟩)) w):ai Tryz.prog 36 (.pointer (some ⟨b,o,none⟩)) 3 K w:=aM (by kernel_rfl) h
section
variable {w:World}{K:KV}
theorem uB (A:List Int):∀v∈A.map iv,v.oneCell'=true:=by simp[iv,Value.oneCell']
theorem pF {A:List Int}{q:Nat}(d:q<A.length):(A.map iv)[q]? = some (iv (nA A q)):=by simp[nA,List.getD,d]
theorem Dq {A:List Int}{i x:Int}(I:A.length=54)(h:∀w',Below w.heap.size w w'→K (.int .i64 (pn A i x)) w'):call Tryz.prog 110 #[.agg (A.map iv).toArray,.int .i64 i,.int .i64 x] K w:=by
 refine aB (goK func110) (Dp ?_);refine dc fun R C b1 s1=>?_;have C:blk R w.heap.size 36 (A.map iv):=by simpa[Value.cells]using C
 have d:((A.map iv).drop 0).take 54=A.map iv:=by rw[List.drop_zero,List.take_of_length_le (by simp[I])]
 refine ldA (n:=54) (vs:=A.map iv) underlying36 rfl (by kernel_rfl) C d (by simp[I]) ?_;refine Tu I fun w2 b2=>?_;have B2:Below w.heap.size w w2:=b1.trans (b2.mono (by omega));have h:=h w2 B2;unfold pn at h;have U:MXA=1125899906842624:=rfl;rw[U]at h;refine eh ?_;cases M:iO A with
 | false =>
  rw[if_pos (.inl M)]at h;refine fK <|db <|fK <|db <|bu ?_;exact h
 | true =>
  refine nR <|aV <|fm ?_;by_cases j:x<1
  ·rw[if_pos (.inr (.inl j))]at h;refine iZ j <|bR j <|bu ?_;exact h
  refine dZ j <|cB <|bE j ?_;by_cases u:1125899906842624<x
  ·rw[if_pos (.inr (.inr u))]at h;refine ay u ?_;exact h
  refine au u ?_;rw[if_neg (by rw[M];simp;omega)]at h;refine ME <|eh ?_;cases J:bV i with
  | false =>
   rw[if_pos J]at h;exact bu h
  | true =>
   rw[if_neg (by rw[J];simp)]at h;exact bw h
structure RV3 (w0 w:World) (A:List Int):Prop where
 r:blk w w0.heap.size 36 (A.map iv)
 t:blk w (w0.heap.size+1) 36 (z54.map iv)
 bel:Below w0.heap.size w0 w
theorem RV3.fresh {w0 w':World}{A:List Int}(g:RV3 w0 w A)(d:Below w.heap.size w w'):RV3 w0 w' A:=⟨af d g.r g.r.lt,af d g.t g.t.lt,g.bel.trans (d.mono g.bel.size)⟩
theorem RV3.no {w0:World}{A:List Int}{e:Int}(g:RV3 w0 w A)(h:∀w',Below w0.heap.size w0 w'→K (.tuple #[.agg (z54.map iv).toArray,.int .i64 e]) w'):bld Tryz.prog 36 #[] (fun t w=>sto Tryz.prog 36 (.pointer (some ⟨w0.heap.size+1,0,none⟩)) t (fun _t w=>bM Tryz.prog [(some 36,.pointer (some ⟨w0.heap.size+1,0,none⟩)),(none,.int .i64 e)] K w) w) w:=by
 refine fS (vs:=z54.map iv) (by kernel_rfl) ?_;exact Kk (N:=54) underlying36 rfl (by kernel_rfl) g.t rfl rfl (uB _) fun w' o=>h w' (bA g.bel o (by omega))
theorem RV3.yes {w0:World}{A:List Int}{q:Nat}{x:Int}(j:A.length=54)(I:q<54)(g:RV3 w0 w A)(h:∀w',Below w0.heap.size w0 w'→K (.tuple #[.agg ((A.set q x).map iv).toArray,.int .i64 0]) w'):sto Tryz.prog 2 (.pointer (some ⟨w0.heap.size,q,none⟩)) (.int .i64 x) (fun _t w=>ld Tryz.prog 36 (.pointer (some ⟨w0.heap.size,0,none⟩)) (fun t w=>sto Tryz.prog 36 (.pointer (some ⟨w0.heap.size+1,0,none⟩)) t (fun _t w=>bM Tryz.prog [(some 36,.pointer (some ⟨w0.heap.size+1,0,none⟩)),(none,.int .i64 0)] K w) w) w) w:=by
 refine dY (fun _=>by kernel_rfl) g.r (by simp[j];exact I) rfl fun J C u=>?_;have e:(A.map iv).set q (.int .i64 x)=(A.set q x).map iv:=by rw[List.map_set];rfl
 rw[e]at C;have d:(((A.set q x).map iv).drop 0).take 54=(A.set q x).map iv:=by rw[List.drop_zero,List.take_of_length_le (by simp[j])]
 refine ldA (n:=54) (vs:=(A.set q x).map iv) underlying36 rfl (by kernel_rfl) C d (by simp[j]) ?_;exact Kk (N:=54) underlying36 rfl (by kernel_rfl) (u.blk g.t (by omega)) rfl (by simp[j]) (uB _) fun w' o=>h w' (bA (bA g.bel u (Nat.le_refl _)) o (by omega))
theorem RV3.make {A:List Int}{K2:Value→KV}(I:A.length=54)(h:∀w',RV3 w w' A→w'.heap.size=w.heap.size+2→K2 (.pointer (some ⟨w.heap.size,0,none⟩)) (.pointer (some ⟨w.heap.size+1,0,none⟩)) w'):box Tryz.prog 36 (.agg (A.map iv).toArray) (fun r w=>alc Tryz.prog 36 (K2 r) w) w:=by
 refine dc fun u j b1 s1=>?_;have j:blk u w.heap.size 36 (A.map iv):=by simpa[Value.cells]using j
 refine dH (z:=.agg (z54.map iv).toArray) (by kernel_rfl) fun C d b2 s2=>?_;have d:blk C u.heap.size 36 (z54.map iv):=by simpa[Value.cells]using d
 rw[s1]at d ⊢;exact h C ⟨af b2 j j.lt,d,b1.trans (b2.mono (by omega))⟩ (by omega)
theorem ixR {b o k:Nat}{i:Int}{K:KV}(hi:i=(k:Nat))(d:k<6)(hK:K (.pointer (some ⟨b,o+k,none⟩)) w):aU Tryz.prog 33 (.pointer (some ⟨b,o,none⟩)) (.int .i64 i) K w:=by
 subst hi;exact dB underlying33 (s:=1) (fun _=>by kernel_rfl) (by omega) (by omega) (by rw[Int.toNat_natCast,Nat.mul_one];exact hK)
theorem KW {A:List Int}{i x:Int}(j:A.length=54)(hx : -9223372036854775808≤x∧x≤9223372036854775807)(h:∀w',Below w.heap.size w w'→K (.tuple #[.agg ((iu A i x).1.map iv).toArray,.int .i64 (iu A i x).2]) w'):call Tryz.prog 107 #[.agg (A.map iv).toArray,.int .i64 i,.int .i64 x] K w:=by
 refine aB (goK func107) (Ex ?_);refine RV3.make j fun w1 R s1=>?_;have d:((A.map iv).drop 0).take 54=A.map iv:=by rw[List.drop_zero,List.take_of_length_le (by simp[j])]
 refine ldA (n:=54) (vs:=A.map iv) underlying36 rfl (by kernel_rfl) R.r d (by simp[j]) ?_;refine Dq j fun w2 b2=>?_;have M:=R.fresh b2;unfold iu at h;refine cW ?_;by_cases C:pn A i x≠0
 ·rw[if_pos C]at h;refine ay C ?_;exact M.no h
 refine au C ?_;rw[if_neg C]at h;obtain⟨hm,x1,X,i1,i2⟩:=If (show pn A i x=0 by omega);have U:=vx hm;have Z:MXA=1125899906842624:=rfl;refine ldA (n:=54) (vs:=A.map iv) underlying36 rfl (by kernel_rfl) M.r d (by simp[j]) ?_;generalize hk:(i-1).toNat=k at h;have hi:i=((k:Nat):Int)+1:=by omega
 subst hi;refine Iv j (by omega) U fun w3 b3=>?_;have u:=M.fresh b3;unfold iv;refine cB ?_;by_cases I:dG A k<x
 ·rw[if_pos I]at h;refine ay I ?_;exact u.no h
 refine au I ?_;rw[if_neg I]at h;unfold qK at h;have hq:=U (6+k) (by omega);rw[Z]at hq X h;have V:((k:Nat):Int)+1-1=(k:Nat):=by omega
 refine bg (by omega) (by omega) ?_;rw[V];refine vy <|ixR rfl (by omega) <|lK (v:=iv (nA A (6+k))) u.r (by rw[show 0+6+k=6+k by omega];exact pF (by omega)) ?_;unfold iv;refine aR (by omega) (by omega) <|cB ?_;by_cases J:1125899906842624<nA A (6+k)+x
 ·rw[if_pos J]at h;refine ay J ?_;exact u.no h
 refine au J ?_;rw[if_neg J]at h;refine bg (by omega) (by omega) ?_;rw[V];refine vy <|ixR rfl (by omega) <|lK (v:=iv (nA A (6+k))) u.r (by rw[show 0+6+k=6+k by omega];exact pF (by omega)) ?_;unfold iv;refine aR (by omega) (by omega) <|vy <|ixR rfl (by omega) ?_;rw[show 0+6+k=6+k by omega];exact u.yes j (by omega) h
end
end
section
open Go.RowKit
section
variable {w:World}{K:KV}
theorem RV3.drew {w0:World}{A:List Int}(g:RV3 w0 w A):RV3 w0 w.drew A:=g.fresh (Below.refl _ w).drew
theorem KX {A:List Int}{i x:Int}(d:A.length=54)(hx : -9223372036854775808≤x∧x≤9223372036854775807)(h:∀w',Below w.heap.size w w'→K (.tuple #[.agg ((iw A i x).1.map iv).toArray,.int .i64 (iw A i x).2]) w'):call Tryz.prog 109 #[.agg (A.map iv).toArray,.int .i64 i,.int .i64 x] K w:=by
 refine aB (goK func109) (Ey ?_);refine RV3.make d fun w1 U s1=>?_;have j:((A.map iv).drop 0).take 54=A.map iv:=by rw[List.drop_zero,List.take_of_length_le (by simp[d])]
 refine ldA (n:=54) (vs:=A.map iv) underlying36 rfl (by kernel_rfl) U.r j (by simp[d]) ?_;refine Dq d fun w2 b2=>?_;have R:=U.fresh b2;unfold iw at h;refine cW ?_;by_cases I:pn A i x≠0
 ·rw[if_pos I]at h;refine ay I ?_;exact R.no h
 refine au I ?_;rw[if_neg I]at h;obtain⟨hm,x1,X,i1,i2⟩:=If (show pn A i x=0 by omega);have V:=vx hm;have hM:MXA=1125899906842624:=rfl;generalize hk:(i-1).toNat=k at h;have hi:i=((k:Nat):Int)+1:=by omega
 subst hi;have Z:=V (6+k) (by omega);have q2:=V (12+k) (by omega);rw[hM]at Z q2 X;have J:((k:Nat):Int)+1-1=(k:Nat):=by omega
 have u:=R.drew;have M:∀{w3:World} {K:KV} (q:Nat),RV3 w w3 A→q<54→K (iv (nA A q)) w3→ld Tryz.prog 2 (.pointer (some ⟨w.heap.size,q,none⟩)) K w3:=fun q g hq hK=>lK g.r (pF (by omega)) hK
 refine aa (v:=.int .i64 (k:Nat)) (fun K hK=>bg (by omega) (by omega) (by rw[J];exact hK)) <|aa (fun _=>vy) <|aa (v:=.pointer (some ⟨w.heap.size,6+k,none⟩)) (fun K hK=>ixR rfl (by omega) (by rw[show 0+6+k=6+k by omega];exact hK)) <|aa (v:=iv (nA A (6+k))) (fun _=>M _ u (by omega)) <|aa (v:=.int .i64 (k:Nat)) (fun K hK=>bg (by omega) (by omega) (by rw[J];exact hK)) <|aa (fun _=>yj) <|aa (v:=.pointer (some ⟨w.heap.size,12+k,none⟩)) (fun K hK=>ixR rfl (by omega) (by rw[show 0+12+k=12+k by omega];exact hK)) <|aa (v:=iv (nA A (12+k))) (fun _=>M _ u (by omega)) <|aa (v:=.int .i64 (nA A (6+k)-nA A (12+k))) (fun _=>bg (by omega) (by omega)) <|aa (fun _=>cB) ?_
 by_cases C:nA A (6+k)-nA A (12+k)<x
 ·rw[if_pos C]at h;refine ay C ?_;exact u.no h
 refine au C ?_;rw[if_neg C]at h;refine bg (by omega) (by omega) ?_;rw[J];refine yj <|ixR rfl (by omega) ?_;rw[show 0+12+k=12+k by omega];refine M _ u (by omega) ?_;unfold iv;refine aR (by omega) (by omega) <|yj <|ixR rfl (by omega) ?_;rw[show 0+12+k=12+k by omega];exact u.yes d (by omega) h
theorem NG {b o k:Nat}{i:Int}{K:KV}(hi:i=(k:Nat))(d:k<6)(hK:K (.pointer (some ⟨b,o+6*k,none⟩)) w):aU Tryz.prog 34 (.pointer (some ⟨b,o,none⟩)) (.int .i64 i) K w:=by
 subst hi;exact dB underlying34 (s:=6) (fun _=>by kernel_rfl) (by omega) (by omega) (by rw[Int.toNat_natCast,Nat.mul_comm];exact hK)
theorem KY {A:List Int}{i j x:Int}(C:A.length=54)(hx : -9223372036854775808≤x∧x≤9223372036854775807)(h:∀w',Below w.heap.size w w'→K (.tuple #[.agg ((kh A i j x).1.map iv).toArray,.int .i64 (kh A i j x).2]) w'):call Tryz.prog 84 #[.agg (A.map iv).toArray,.int .i64 i,.int .i64 j,.int .i64 x] K w:=by
 refine aB (goK func84) (Ez ?_);refine RV3.make C fun w1 Z s1=>?_;have u:((A.map iv).drop 0).take 54=A.map iv:=by rw[List.drop_zero,List.take_of_length_le (by simp[C])]
 refine ldA (n:=54) (vs:=A.map iv) underlying36 rfl (by kernel_rfl) Z.r u (by simp[C]) ?_;refine Dq C fun w2 b2=>?_;have I:=Z.fresh b2;unfold kh at h;refine cW ?_;by_cases U:pn A i x≠0
 ·rw[if_pos U]at h;refine ay U ?_;exact I.no h
 refine au U ?_;rw[if_neg U]at h;obtain⟨hm,x1,x2,i1,i2⟩:=If (show pn A i x=0 by omega);have hn:=vx hm;have hM:MXA=1125899906842624:=rfl;refine ME <|eh ?_;cases J:bV j with
 | false =>
  rw[if_pos J]at h;refine bu ?_;exact I.no h
 | true =>
 rw[if_neg (by rw[J];simp)]at h;refine bw ?_;have ag:1≤j∧j≤6:=by simpa[bV]using J
 refine bm ?_;by_cases d:i=j
 ·rw[if_pos d]at h;refine ay d ?_;exact I.no h
 refine au d ?_;rw[if_neg d]at h;refine ldA (n:=54) (vs:=A.map iv) underlying36 rfl (by kernel_rfl) I.r u (by simp[C]) ?_;generalize hk:(i-1).toNat=k at h;generalize ad:(j-1).toNat=m at h;have hi:i=((k:Nat):Int)+1:=by omega
 have J:j=((m:Nat):Int)+1:=by omega
 subst hi J;refine Iv C (by omega) hn fun w3 b3=>?_;have V:=I.fresh b3;unfold iv;refine cB ?_;by_cases R:dG A k<x
 ·rw[if_pos R]at h;refine ay R ?_;exact V.no h
 refine au R ?_;rw[if_neg R]at h;unfold qK at h;have hq:=hn (18+6*k+m) (by omega);rw[hM]at hq x2 h;have ek:((k:Nat):Int)+1-1=(k:Nat):=by omega
 have X:((m:Nat):Int)+1-1=(m:Nat):=by omega
 have rd:∀{w3:World} {K:KV} (q:Nat),RV3 w w3 A→q<54→K (iv (nA A q)) w3→ld Tryz.prog 2 (.pointer (some ⟨w.heap.size,q,none⟩)) K w3:=fun q g hq hK=>lK g.r (pF (by omega)) hK;refine bg (by omega) (by omega) ?_;rw[ek];refine bg (by omega) (by omega) ?_;rw[X];refine BQ <|NG rfl (by omega) <|ixR rfl (by omega) ?_;rw[show 0+18+6*k+m=18+6*k+m by omega];refine rd _ V (by omega) ?_;unfold iv
 refine aR (by omega) (by omega) <|cB ?_;by_cases M:1125899906842624<nA A (18+6*k+m)+x
 ·rw[if_pos M]at h;refine ay M ?_;exact V.no h
 refine au M ?_;rw[if_neg M]at h;have g4:=V.drew
 refine aa (v:=.int .i64 (k:Nat)) (fun K hK=>bg (by omega) (by omega) (by rw[ek];exact hK)) <|aa (v:=.int .i64 (m:Nat)) (fun K hK=>bg (by omega) (by omega) (by rw[X];exact hK)) <|aa (fun _=>BQ) <|aa (fun _=>NG rfl (by omega)) <|aa (v:=.pointer (some ⟨w.heap.size,18+6*k+m,none⟩)) (fun K hK=>ixR rfl (by omega) (by rw[show 0+18+6*k+m=18+6*k+m by omega];exact hK)) <|aa (v:=iv (nA A (18+6*k+m))) (fun _=>rd _ g4 (by omega)) <|aa (v:=.int .i64 (nA A (18+6*k+m)+x)) (fun _=>aR (by omega) (by omega)) <|aa (fun _=>BQ) <|aa (fun _=>NG rfl (by omega)) <|aa (v:=.pointer (some ⟨w.heap.size,18+6*k+m,none⟩)) (fun K hK=>ixR rfl (by omega) (by rw[show 0+18+6*k+m=18+6*k+m by omega];exact hK)) ?_
 exact g4.yes C (by omega) h
end
end
end
section
open Go.RowKit
def kC (r0 x1 is2 vE nT r5 C0 C4:Value)(zf:Nat→Value):List Value:=r0::x1::is2::vE::nT::r5::zT zf 6 4 (C0::zT zf 11 3 (C4::zT zf 15 32 ([])))
def ig (K:KV):KE:=ae Q (cd f181 [1,1]) (rk f181 K) xf (rk f181 K)
def jg (K:KV):KE:=ae Q (cd f181 [1,0,0,1]) (ig K) (xx xf (ig K) 0) (rk f181 K)
def nZ (K:KV):KE:=ae Q (cd f181 [1,0,0,0,1]) (jg K) (xx xf (ig K) 0) (rk f181 K)
section
variable {K:KV}{r0 x1 is2 vE nT r5 C0 C4:Value}{zf:Nat→Value}{w:World}
theorem Fw {K:KV}{r0 x1 is2 vE nT:Value}{w:World}(h:box Q 36 r0 (fun r5=>alc Q 36 fun C0=>ld Q 36 r5 fun C5=>call Q 48 #[C5] fun C6=>un Q .not C6 fun C7=>nZ K (kC r0 x1 is2 vE nT r5 C0 C7 (zV (zV zu 11 [ci 0]) 15 [C5,C6,C7]))) w):Gives Q 181 #[r0,x1,is2,vE,nT] w K:=by
 refine aH func181 (by kernel_rfl) ?_
 refine Eq.mp (congrArg (fun c=>ae Q c _ _ _ _ w) (by kernel_rfl:(rep [1,0,0,0,1] (cd f181 [1,0,0,0,1]) (cd f181 []))=(cd f181 []))) ?_
 revert h
 delta nZ ig jg
 generalize (cd f181 [1,0,0,0,1])=xc0
 exact mpF
theorem Dr (h:cond C4 (jg K (kC r0 x1 is2 vE nT r5 C0 C4 zf) w) (bin Q .lss 2 false true x1 (ci 1) (fun C8 w=>cond C8 (jg K (kC r0 x1 is2 vE nT r5 C0 C8 (zV zf 18 [x1,C8])) w) (bin Q .gtr 2 false true x1 (ci 1125899906842624) (fun D0=>jg K (kC r0 x1 is2 vE nT r5 C0 D0 (zV zf 18 [x1,C8,x1,D0]))) w)) w)):nZ K (kC r0 x1 is2 vE nT r5 C0 C4 zf) w:=by
 delta nZ;revert h;generalize (jg K)=qc0;generalize (ig K)=qc1;exact mpF
theorem ru (h:cond C4 (bld Q 36 #[] (fun D1=>sto Q 36 C0 D1 fun _=>bM Q [(some 36,C0),(none,ci 1)] K) w) (un Q .not is2 (fun D2 w=>cond D2 (bld Q 36 #[] (fun D3=>sto Q 36 C0 D3 fun _=>bM Q [(some 36,C0),(none,ci 10)] K) w) (ig K (kC r0 x1 is2 vE nT r5 C0 C4 (zV zf 23 [D2,is2,D2])) w)) w)):jg K (kC r0 x1 is2 vE nT r5 C0 C4 zf) w:=by
 delta jg;revert h;generalize (ig K)=qc0;exact mpF
theorem Ds (h:dC Q vE #[] (fun D4=>bin Q .neq 49 false true D4 (ci 0) fun D5 w=>cond D5 (bld Q 36 #[] (fun D6=>sto Q 36 C0 D6 fun _=>bM Q [(some 36,C0),(none,D4)] K) w) (dC Q nT #[r5] (fun D7=>bo D7 fun D8=>ld Q 2 D8 fun D9=>bin Q .add 2 false false D9 x1 fun E0=>bo D7 fun E1=>sto Q 2 E1 E0 fun _=>bo D7 fun E2=>ld Q 2 E2 fun E3=>bin Q .gtr 2 false true E3 (ci 1125899906842624) fun E4 w=>cond E4 (bld Q 36 #[] (fun E5=>sto Q 36 C0 E5 fun _=>bM Q [(some 36,C0),(none,ci 6)] K) w) (ld Q 36 r5 (fun E6=>sto Q 36 C0 E6 fun _=>bM Q [(some 36,C0),(none,ci 0)] K) w)) w)) w):ig K (kC r0 x1 is2 vE nT r5 C0 C4 zf) w:=by
 delta ig;exact mpK h
end
attribute [irreducible] ig jg nZ
theorem Ig {K:KV}{d e1:Value}{w:World}(h:cond d (K e1 w) (K (ci 0) w)):Gives Q 183 #[d,e1] w K:=by
 refine aH func183 (by kernel_rfl) ?_;exact mpK h
theorem Ih {K:KV}{r0 i1 j:Value}{w:World}(h:box Q 36 r0 (fun d=>box Q 3 i1 fun i4=>box Q 2 j fun u=>alc Q 36 fun A6 w=>aK (fun S w=>hL S 36 d fun A8=>hL S 2 u fun A9=>hL S 3 i4 fun C0=>call Q 47 #[C0] (fun C1=>bF S fun _=>call Q 181 #[A8,A9,C1,Value.func (Fn.func 182) #[] #[u,d,i4],Value.func (Fn.func 184) #[] #[i4]] fun C4=>aK fun S w=>hld S (ext Q C4 0) fun C5=>hld S (ext Q C4 1) fun C6=>sto Q 36 A6 C5 (fun _=>aK fun _=>bM Q [(some 36,A6),(none,C6)] K) w) w) w.drew) w):Gives Q 168 #[r0,i1,j] w K:=by
 refine aH func168 (by kernel_rfl) ?_;exact mpK h
theorem Fx {K:KV}{A0 A1 A2:Value}{w:World}(h:aK (fun S w=>hL S 2 A0 fun A4=>hL S 36 A1 fun A5=>hL S 3 A2 fun A6=>call Q 31 #[A5,A6] (fun A7=>bF S fun S w=>hld S (bin Q .gtr 2 false false A4 A7) fun A8=>call Q 183 #[A8,ci 11] (fun A9=>aK fun _=>K A9) w) w) w.drew):Gives Q 182 #[A0,A1,A2] w K:=by
 refine aH func182 (by kernel_rfl) ?_;exact mpK h
theorem Fy {K:KV}{r0 A1:Value}{w:World}(h:sL 3 A1 (fun A5=>sti (bin Q .sub 3 false true A5 (ci 1)) fun A6=>sN r0 fun A7=>sF 36 A7 1 fun A8=>sI 33 A8 A6 K) w.drew):Gives Q 184 #[r0,A1] w K:=by
 refine aH func184 (by kernel_rfl) ?_;exact mpK h
theorem Ii {K:KV}{r0 i1 j:Value}{w:World}(h:box Q 36 r0 (fun d=>box Q 3 i1 fun i4=>box Q 2 j fun u=>alc Q 36 fun A6 w=>aK (fun S w=>hL S 36 d fun A8=>hL S 2 u fun A9=>hL S 3 i4 fun C0=>call Q 47 #[C0] (fun C1=>bF S fun _=>call Q 181 #[A8,A9,C1,Value.func (Fn.func 185) #[] #[u,d,i4],Value.func (Fn.func 186) #[] #[i4]] fun C4=>aK fun S w=>hld S (ext Q C4 0) fun C5=>hld S (ext Q C4 1) fun C6=>sto Q 36 A6 C5 (fun _=>aK fun _=>bM Q [(some 36,A6),(none,C6)] K) w) w) w.drew) w):Gives Q 171 #[r0,i1,j] w K:=by
 refine aH func171 (by kernel_rfl) ?_;exact mpK h
theorem Fz {K:KV}{A0 A1 A2:Value}{w:World}(h:aK (fun S w=>hL S 2 A0 fun A4=>hL S 3 A2 fun A5=>hld (fun _=>True) (bin Q .sub 3 false true A5 (ci 1)) fun A6=>hF S 36 A1 1 fun A7=>hI S 33 A7 A6 fun A8=>hL S 2 A8 fun A9=>hL S 3 A2 fun C0=>hld (fun _=>True) (bin Q .sub 3 false true C0 (ci 1)) fun C1=>hF S 36 A1 2 fun C2=>hI S 33 C2 C1 fun C3=>hL S 2 C3 fun C4=>hld (fun _=>True) (bin Q .sub 2 false false A9 C4) fun C5=>hld S (bin Q .gtr 2 false false A4 C5) fun C6=>call Q 183 #[C6,ci 12] (fun C7=>aK fun _=>K C7) w) w.drew):Gives Q 185 #[A0,A1,A2] w K:=by
 refine aH func185 (by kernel_rfl) ?_;exact mpK h
theorem FA {K:KV}{r0 A1:Value}{w:World}(h:sL 3 A1 (fun A5=>sti (bin Q .sub 3 false true A5 (ci 1)) fun A6=>sN r0 fun A7=>sF 36 A7 2 fun A8=>sI 33 A8 A6 K) w.drew):Gives Q 186 #[r0,A1] w K:=by
 refine aH func186 (by kernel_rfl) ?_;exact mpK h
theorem Ij {K:KV}{r0 i1 j x3:Value}{w:World}(h:box Q 36 r0 (fun r4=>box Q 3 i1 fun i5=>box Q 3 j fun d=>box Q 2 x3 fun u=>alc Q 36 fun A8 w=>aK (fun S w=>hL S 36 r4 fun C0=>hL S 2 u fun C1=>hL S 3 i5 fun C2=>call Q 47 #[C2] (fun C3=>bF S fun S w=>hG C3 true S (ld Q 3 d) fun C5=>xG C3 true (call Q 47 #[C5]) (fun C6=>bF S fun S w=>hld S (pick C3 C6 cF) fun C7=>call Q 181 #[C0,C1,C7,Value.func (Fn.func 187) #[] #[i5,d,u,r4],Value.func (Fn.func 188) #[] #[i5,d]] (fun C9=>aK fun S w=>hld S (ext Q C9 0) fun D0=>hld S (ext Q C9 1) fun D1=>sto Q 36 A8 D0 (fun _=>aK fun _=>bM Q [(some 36,A8),(none,D1)] K) w) w) w) w) w.drew) w):Gives Q 173 #[r0,i1,j,x3] w K:=by
 refine aH func173 (by kernel_rfl) ?_;exact mpK h
theorem FB {K:KV}{A0 A1 A2 A3:Value}{w:World}(h:ld Q 3 A0 (fun A5=>ld Q 3 A1 fun A6=>bin Q .eql 3 false false A5 A6 fun A7 w=>cond A7 (K (ci 1) w) (aK (fun S w=>hL S 2 A2 fun A8=>hL S 36 A3 fun A9=>hL S 3 A0 fun C0=>call Q 31 #[A9,C0] (fun C1=>bF S fun S w=>hld S (bin Q .gtr 2 false false A8 C1) fun C2=>call Q 183 #[C2,ci 11] (fun C3=>aK fun _=>K C3) w) w) w.drew)) w):Gives Q 187 #[A0,A1,A2,A3] w K:=by
 refine aH func187 (by kernel_rfl) ?_;exact mpK h
theorem FC {K:KV}{r0 A1 A2:Value}{w:World}(h:sL 3 A1 (fun A6=>sti (bin Q .sub 3 false true A6 (ci 1)) fun A7=>sL 3 A2 fun A8=>sti (bin Q .sub 3 false true A8 (ci 1)) fun A9=>sN r0 fun C0=>sF 36 C0 3 fun C1=>sI 34 C1 A7 fun C2=>sI 33 C2 A9 K) w.drew):Gives Q 188 #[r0,A1,A2] w K:=by
 refine aH func188 (by kernel_rfl) ?_;exact mpK h
end
section
open Go.RowKit
def yk (P:Program):List Field→Nat→Nat→Bool
 | [],o,n=>Nat.beq o n
 | f::fs,o,n=>Nat.beq f.offset o&&yk P fs (o+P.cellsOf f.type) n
def kD (P:Program):Nat→TypeId→List Value→Bool
 | 0,_,_=>false
 | d+1,t,cs=>match P.underlying t with
  | some .bool=>(match cs with | [.bool _]=>true | _=>false)
  | some (.int q)=>(match cs with | [.int q' _]=>decide (q'=q) | _=>false)
  | some (.array n e)=>(P.info? e).isSome && (Nat.beq cs.length (n * P.cellsOf e) && (List.range n).all fun i=>kD P d e ((cs.drop (i * P.cellsOf e)).take (P.cellsOf e)))
  | some (.struct fs) => !P.stoodInHeld t && (yk P fs.toList 0 cs.length && fs.toList.all fun f=>f.name != "_" && kD P d f.type ((cs.drop f.offset).take (P.cellsOf f.type)))
  | _=>false
def vz (P:Program)(t:TypeId)(cs:List Value):Value:=match P.underlying t with
 | some (.array _ _)=>.agg cs.toArray
 | some (.struct _)=>.agg cs.toArray
 | _=>cs.headD undef
theorem EO {P:Program}:∀(fs:List Field) (o n m:Nat),yk P fs o n=true→yk P fs o m=true→n=m
 | [],o,n,m,h1,h2=>by
  have:=Nat.eq_of_beq_eq_true h1
  have:=Nat.eq_of_beq_eq_true h2
  omega
 | f::fs,o,n,m,h1,h2=>by
  unfold yk at h1 h2;rw[Bool.and_eq_true]at h1 h2;exact EO fs _ n m h1.2 h2.2
theorem Dt {P:Program}{d:Nat}{t:TypeId}{cs:List Value}(j:P.underlying t=some .bool)(h:kD P (d+1) t cs=true):∃b,cs=[.bool b]:=by
 unfold kD at h;simp only[j]at h;split at h
 ·exact⟨_,rfl⟩
 ·cases h
theorem FD {P:Program}{d:Nat}{t:TypeId}{q:IntKind}{cs:List Value}(j:P.underlying t=some (.int q))(h:kD P (d+1) t cs=true):∃n,cs=[.int q n]:=by
 unfold kD at h;simp only[j]at h;split at h
 ·have:=of_decide_eq_true h;subst this;exact⟨_,rfl⟩
 ·cases h
section
variable {P:Program}
theorem GU {xs:List Value}{off n:Nat}{v:Value}(h:(xs.drop off).take n=[v]):xs.toArray[off]? = some v:=by
 have d:((xs.drop off).take n)[0]? = some v:=by rw[h];rfl
 rw[List.getElem?_take]at d;split at d
 ·rw[List.getElem?_drop]at d;simpa using d
 ·cases d
theorem BR {e:TypeId}{off d:Nat}{xs:List Value}(w:World)(h:kD P d e ((xs.drop off).take (P.cellsOf e))=true):(part e xs.toArray off).run P w=.ok (vz P e ((xs.drop off).take (P.cellsOf e))) w:=by
 cases d with
 | zero=>simp[kD]at h
 | succ d =>
  cases j:P.underlying e with
  | none=>simp[kD,j]at h
  | some kd =>
   have C:(xs.toArray.extract off (off+P.cellsOf e))=((xs.drop off).take (P.cellsOf e)).toArray:=by
    apply Array.toList_inj.1;rw[Array.toList_extract];simp[List.extract]
   cases kd
   case bool =>
    obtain⟨b,u⟩:=Dt j h;rw[run_part_plain w (by simp[Program.plainKey,j]) (GU u),u];simp[vz,j]
   case int q =>
    obtain⟨b,u⟩:=FD j h;rw[run_part_plain w (by simp[Program.plainKey,j]) (GU u),u];simp[vz,j]
   case array n e' =>
    obtain⟨i,hi⟩:=info_of_underlying j;simp only[part,isAgg,Sem.run_bind,run_underlying j,run_sizeOf w hi,Result.andThen_ok,Sem.run_pure,if_true,vz,j,C]
   case struct fs =>
    obtain⟨i,hi⟩:=info_of_underlying j;simp only[part,isAgg,Sem.run_bind,run_underlying j,run_sizeOf w hi,Result.andThen_ok,Sem.run_pure,if_true,vz,j,C]
   all_goals (simp[kD,j]at h;done)
theorem Jh {xs ys:List Value}{o c:Nat}(C:xs.length=ys.length):(xs.drop o).take c=(ys.drop o).take c∧xs.drop (o+c)=ys.drop (o+c)↔xs.drop o=ys.drop o:=by
 have e:∀d:List Value,d.drop o=(d.drop o).take c++d.drop (o+c):=fun d=>by rw[←List.drop_drop];exact(List.take_append_drop c (d.drop o)).symm
 constructor
 ·rintro⟨u,j⟩;rw[e xs,e ys,u,j]
 ·intro h;refine⟨by rw[h],?_⟩;rw[←List.drop_drop, ←List.drop_drop,h]
def EqB (P:Program)(D d:Nat):Prop:=∀(t:TypeId) (w:World) (xs ys:List Value),kD P d t xs=true→kD P d t ys=true→∃r:Bool,(Op.equalIn D t (vz P t xs) (vz P t ys)).run P w=.ok r w∧(r=true↔xs=ys)
theorem MF {D d:Nat} (IH:EqB P D d) {xs ys:List Value} (C:xs.length=ys.length) (w:World):∀ (fs:List Field) (o:Nat),yk P fs o xs.length=true →
  (∀ f ∈ fs,f.name≠"_"∧kD P d f.type ((xs.drop f.offset).take (P.cellsOf f.type))=true∧kD P d f.type ((ys.drop f.offset).take (P.cellsOf f.type))=true) →
  ∃ r:Bool,(Op.eqFields D xs.toArray ys.toArray fs).run P w=.ok r w∧(r=true↔xs.drop o=ys.drop o)
 | [],o,hc,_=>by
  have:=Nat.eq_of_beq_eq_true hc
  subst this;exact ⟨true,by simp [Op.eqFields],by rw [List.drop_length,C,List.drop_length]; simp⟩
 | f::fs,o,hc,hall=>by
  unfold yk at hc;rw [Bool.and_eq_true] at hc;have M:=Nat.eq_of_beq_eq_true hc.1;obtain ⟨U,J,I⟩:=hall f (by simp);obtain ⟨r,V,j⟩:=IH f.type w _ _ J I;obtain ⟨X,u,h⟩:=MF IH C w fs (o+P.cellsOf f.type) hc.2 (fun g R=>hall g (by simp [R]));simp only [Op.eqFields,U,ne_eq,not_false_eq_true,if_true,Sem.run_bind,BR w J,BR w I,V,Result.andThen_ok]
  rw [← Jh C (c:=P.cellsOf f.type), ← h, ← M, ← j];cases r
  ·exact ⟨false,by simp,by simp⟩
  ·exact ⟨X,by simpa using u,by simp⟩
theorem MH {D d:Nat}(IH:EqB P D d){xs ys:List Value}{e:TypeId}{n:Nat}(I:xs.length=ys.length)(M:xs.length=n*P.cellsOf e)(w:World)(j:∀i,i<n→kD P d e ((xs.drop (i*P.cellsOf e)).take (P.cellsOf e))=true∧kD P d e ((ys.drop (i*P.cellsOf e)).take (P.cellsOf e))=true):∀(m i:Nat),i+m=n →
  ∃r:Bool,(Op.eqItems D e (P.cellsOf e) xs.toArray ys.toArray (List.range' i m)).run P w=.ok r w∧(r=true↔xs.drop (i*P.cellsOf e)=ys.drop (i*P.cellsOf e))
 | 0,i,hi=>by
  obtain rfl:i=n:=by omega
  exact⟨true,by simp[Op.eqItems],by rw[←M,List.drop_length,I,List.drop_length];simp⟩
 | m+1,i,hi=>by
  obtain⟨R,J⟩:=j i (by omega);obtain⟨r,U,u⟩:=IH e w _ _ R J;obtain⟨V,C,h⟩:=MH IH I M w j m (i+1) (by omega);simp only[List.range'_succ,Op.eqItems,Sem.run_bind,BR w R,BR w J,U,Result.andThen_ok];rw[←Jh I (c:=P.cellsOf e), ←u];rw[show (i+1)*P.cellsOf e=i*P.cellsOf e+P.cellsOf e by rw[Nat.add_mul,Nat.one_mul]]at h;rw[←h];cases r
  ·exact⟨false,by simp,by simp⟩
  ·exact⟨V,by simpa using C,by simp⟩
theorem MI (D:Nat):∀d:Nat,EqB P (D+d) d
 | 0=>fun t w xs ys h _=>by simp[kD]at h
 | d+1=>fun t w xs ys h C=>by
  have IH:=MI D d;cases j:P.underlying t with
  | none=>simp[kD,j]at h
  | some kd =>
   cases kd
   case bool =>
    obtain⟨a,rfl⟩:=Dt j h;obtain⟨b,rfl⟩:=Dt j C;refine⟨a==b,?_,by simp⟩;simp only[vz,j,List.headD_cons];exact run_equalIn_bool' w (D+d) t a b j
   case int q =>
    obtain⟨a,rfl⟩:=FD j h;obtain⟨b,rfl⟩:=FD j C;refine⟨a==b,?_,by simp⟩;simp only[vz,j,List.headD_cons];exact run_equalIn_int w (D+d) t q q a b j
   case array n e =>
    unfold kD at h C;simp only[j,Bool.and_eq_true,List.all_eq_true,List.mem_range]at h C;have R:=Nat.eq_of_beq_eq_true h.2.1;have U:=Nat.eq_of_beq_eq_true C.2.1;obtain⟨i,hi⟩:=Option.isSome_iff_exists.1 h.1;obtain⟨r,J,u⟩:=MH IH (R.trans U.symm) R w (fun i hi=>⟨h.2.2 i hi,C.2.2 i hi⟩) n 0 (by omega);refine⟨r,?_,by simpa using u⟩;simp only[vz,j]
    rw[show D+(d+1)=(D+d)+1 from rfl,run_equalIn_array w (D+d) _ _ j hi,List.range_eq_range'];exact J
   case struct fs =>
    unfold kD at h C;simp only[j,Bool.and_eq_true,List.all_eq_true,Bool.not_eq_true',bne_iff_ne,ne_eq]at h C;have V:=EO fs.toList 0 _ _ h.2.1 C.2.1;have I:P.fieldsOf t=fs:=by simp[Program.fieldsOf,j]
    obtain⟨r,J,u⟩:=MF IH V w fs.toList 0 h.2.1 (fun f M=>⟨(h.2.2 f M).1,(h.2.2 f M).2,(C.2.2 f M).2⟩);refine⟨r,?_,by simpa using u⟩;simp only[vz,j];rw[show D+(d+1)=(D+d)+1 from rfl,run_equalIn_struct w (D+d) t _ _ (by rw[I];exact j) h.1,I];exact J
   all_goals (simp[kD,j]at h;done)
variable {K:KV}{w:World}{t:TypeId}{cx cy:Bool}
theorem KZ {cs:List Value}(d:(match P.underlying t with|some (.array _ _)|some (.struct _)=>true|_=>false)=true):vz P t cs=.agg cs.toArray:=by
 unfold vz;cases h:P.underlying t with
 | none=>simp[h]at d
 | some kd=>cases kd<;>simp_all
theorem Uy {xs ys:List Value}(d:Nat)(C:d≤10000)(h:(match P.underlying t with|some (.array _ _)|some (.struct _)=>true|_=>false)=true)(j:kD P d t xs=true)(u:kD P d t ys=true):∃r:Bool,(Op.equalIn 10000 t (.agg xs.toArray) (.agg ys.toArray)).run P w=.ok r w∧(r=true↔xs=ys):=by
 have:=MI (P:=P) (10000-d) d t w xs ys j u
 rw[show 10000-d+d=10000 by omega,KZ h,KZ h]at this;exact this
theorem xW {xs ys:List Value}(d:Nat)(u:d≤10000)(M:(match P.underlying t with|some (.array _ _)|some (.struct _)=>true|_=>false)=true)(C:P.eqGuardType P.depth t=false)(I:kD P d t xs=true)(J:kD P d t ys=true)(h:∀r:Bool,(r=true↔xs=ys)→K (.bool r) w):bin P .eql t cx cy (.agg xs.toArray) (.agg ys.toArray) K w:=by
 obtain⟨r,R,j⟩:=Uy (w:=w) d u M I J;exact lW (v:=.bool r) (by unfold eqG;exact run_eqGuard_agg w _ _ _ _ _ _ C) (by rw[run_eql_struct w,R];rfl) (h r j)
end
end
section
open Go.RowKit
theorem GV {K:KV}{d:Value}{w:World}(h:bin Q .geq 3 false true d (ci 1) (fun A0 w=>aJ A0 true (fun u=>bin Q .leq 3 false true d (ci 6) (fun A3=>u [d,A3]) w) (fun k=>k [uu,uu] w) fun j=>pick A0 (gd j 1) cF K) w):Gives Q 58 #[d] w K:=by
 refine aH func58 (by kernel_rfl) ?_;exact mpK h
def eU (x0 m3 i4 A3:Value)(zf:Nat→Value):List Value:=x0::zf 1::zf 2::m3::i4::zf 5::zf 6::A3::zT zf 8 17 ([])
def fE (K:KV):KE:=ae Q (cd f59 [1,1]) (rk f59 K) xf (rk f59 K)
def iQ (K:KV):KE:=ae Q (cd f59 [1,0,1]) (fE K) xf (rk f59 K)
def eH (K:KV):KE:=ae Q (cd f59 [1,1,1,1]) (rk f59 K) xf (rk f59 K)
def kE (K:KV):KE:=ae Q (cd f59 [1,1,1,0,1,0]) (eH K) (xx xf (eH K) 0) (rk f59 K)
section
variable {K:KV}{x0 m3 i4 A3:Value}{zf:Nat→Value}{w:World}
theorem vW {K:KV}{x0:Value}{w:World}(h:lN 76 x0 (fun A2=>bin Q .lss 3 false true A2 (ci 1) fun A3=>iQ K (eU x0 uu uu A3 (zV (zV zu 2 [cu 0]) 5 [x0,A2]))) w):Gives Q 59 #[x0] w K:=by
 refine aH func59 (by kernel_rfl) ?_
 refine Eq.mp (congrArg (fun c=>ae Q c _ _ _ _ w) (by kernel_rfl:(rep [1,0,1] (cd f59 [1,0,1]) (cd f59 []))=(cd f59 []))) ?_
 revert h
 delta iQ fE
 generalize (cd f59 [1,0,1])=xc0
 exact mpF
theorem uW (h:cond A3 (ifc Q 9 (Value.string (re [115,108,105,99,101,115,46,77,97,120,58,32,101,109,112,116,121,32,108,105,115,116])) (fun _ _=>False) w) (fE K (eU x0 m3 i4 A3 zf) w)):iQ K (eU x0 m3 i4 A3 zf) w:=by
 delta iQ;revert h;generalize (fE K)=qc0;exact mpF
theorem uX (h:aU Q 76 x0 (ci 0) (fun A6=>ld Q 24 A6 fun A7=>kE K (eU x0 A7 (ci 1) A3 (zV zf 9 [x0,A6,A7]))) w):fE K (eU x0 m3 i4 A3 zf) w:=by
 delta fE;revert h;delta kE eH;exact mpF
theorem uY (Inv:Value→Value→World→Prop)(μ:Value→Value→World→Nat)(h0:Inv m3 i4 w)(C:∀(j d:Value) (I:Nat→Value) (w:World) (m:Nat),Inv j d w→m=μ j d w →
  lN 76 x0 (fun C0=>lS d C0 fun C1 w=>cond C1 (aU Q 76 x0 d (fun C7=>ld Q 24 C7 fun C8=>blt Q .max #[24,24] 24 #[false,false] #[j,C8] fun C9=>nC d fun C3 w=>(Inv C9 C3 w)∧((μ C9 C3 w)<m)) w) (eH K (eU x0 j d A3 (zV I 12 [d,x0,C0,C1])) w)) w):kE K (eU x0 m3 i4 A3 zf) w:=by
 refine aQ (cd f59 [1,1,1,0,1,0,0]) (zr [(3,2),(12,12)]) (by kernel_rfl) (fun e2 u=>Inv (gd e2 3) (gd e2 4) u) (fun e2 u=>μ (gd e2 3) (gd e2 4) u) h0 ?_;intro e' w' hI;have h:=C (gd e' 3) (gd e' 4) (zM zf (fun i=>gd e' i) (zr [(3,2),(12,12)])) w' _ hI rfl;revert h;generalize (eH K)=qc0;exact mpF
theorem uZ (h:K m3 w):eH K (eU x0 m3 i4 A3 zf) w:=by
 delta eH;exact mpK h
end
attribute [irreducible] fE iQ eH kE
theorem BS {K:KV}{f0 d:Value}{w:World}(h:bo f0 (fun A3=>ai Q 145 A3 0 fun A4=>ai Q 54 A4 6 fun A5=>ld Q 2 A5 fun A6=>bin Q .geq 2 false false A6 d fun A8 w=>aJ A8 true (fun u=>bo f0 (fun C1=>ai Q 145 C1 0 fun C2=>ai Q 54 C2 6 fun C3=>ld Q 2 C3 fun C4=>bin Q .leq 2 false true C4 (ci 1125899906842624) fun C5=>u [f0,C1,C2,C3,C4,C5]) w) (fun k=>k [uu,uu,uu,uu,uu,uu] w) fun j=>pick A8 (gd j 5) cF fun C6=>bo f0 fun C9=>ai Q 145 C9 0 fun D0=>ai Q 54 D0 4 fun D1=>sto Q 24 D1 (cu 0) fun _=>bo f0 fun D2=>ai Q 145 D2 0 fun D3=>ai Q 54 D3 6 fun D4=>sto Q 2 D4 (ci 0) fun _=>K C6) w):Gives Q 89 #[f0,d] w K:=by
 refine aH func89 (by kernel_rfl) ?_;exact mpK h
theorem CD {K:KV}{f0:Value}{w:World}(h:bo f0 (fun A1=>ai Q 145 A1 0 fun A2=>ai Q 54 A2 7 fun A3=>ld Q 24 A3 fun A4=>bin Q .gtr 24 false true A4 (cu 0) fun A5=>bo f0 fun A7=>ai Q 145 A7 0 fun A8=>ai Q 54 A8 7 fun A9=>sto Q 24 A9 (cu 0) fun _=>K A5) w):Gives Q 90 #[f0] w K:=by
 refine aH func90 (by kernel_rfl) ?_;exact mpK h
theorem Du {K:KV}{f0:Value}{w:World}(h:sN f0 (fun A1=>sF 145 A1 0 fun A2=>sF 54 A2 8 fun A3=>sL 24 A3 fun A4=>sti (bin Q .gtr 24 false true A4 (cu 0)) fun A5 w=>aJ A5 true (fun u=>sN f0 (fun A8=>sF 145 A8 0 fun A9=>sF 54 A9 8 fun C0=>sL 24 C0 fun C1=>sN f0 fun C3=>sF 145 C3 0 fun C4=>sF 54 C4 7 fun C5=>sL 24 C5 fun C6=>sti (bin Q .neq 24 false false C1 C6) fun C7=>u [f0,A8,A9,C0,C1,f0,C3,C4,C5,C6,C7]) w) (fun k=>k [uu,uu,uu,uu,uu,uu,uu,uu,uu,uu,uu] w) fun d=>sti (pick A5 (gd d 10) cF) fun C8=>bo f0 fun D0=>ai Q 145 D0 0 fun D1=>ai Q 54 D1 8 fun D2=>sto Q 24 D2 (cu 0) fun _=>call Q 90 #[f0] fun D4 w=>aJ D4 true (fun C=>C [C8] w) (fun k=>k [uu] w) fun j=>pick D4 (gd j 0) cF K) w.drew):Gives Q 91 #[f0] w K:=by
 refine aH func91 (by kernel_rfl) ?_;exact mpK h
theorem Dv {K:KV}{f0:Value}{w:World}(h:sN f0 (fun A1=>sF 145 A1 0 fun A2=>sF 54 A2 5 fun A3=>sL 3 A3 fun A4=>sti (call Q 58 #[A4]) fun A5 w=>aJ A5 true (fun j=>sN f0 (fun A8=>sF 145 A8 0 fun A9=>sF 54 A9 5 fun C0=>sL 3 C0 fun C1=>sN f0 fun C3=>sF 145 C3 0 fun C4=>sF 54 C4 0 fun C5=>sL 3 C5 fun C6=>sti (bin Q .neq 3 false false C1 C6) fun C7=>j [f0,A8,A9,C0,C1,f0,C3,C4,C5,C6,C7]) w) (fun k=>k [uu,uu,uu,uu,uu,uu,uu,uu,uu,uu,uu] w) fun d=>sti (pick A5 (gd d 10) cF) fun C8=>bo f0 fun D0=>ai Q 145 D0 0 fun D1=>ai Q 54 D1 5 fun D2=>sto Q 3 D2 (ci 0) fun _=>K C8) w.drew):Gives Q 92 #[f0] w K:=by
 refine aH func92 (by kernel_rfl) ?_;exact mpK h
def oh (f0 f1 A3 D0 D9 E0:Value)(zf:Nat→Value):List Value:=f0::f1::zT zf 2 5 (A3::zT zf 8 16 (D0::zT zf 25 8 (D9::E0::zT zf 35 11 ([]))))
def hJ (K:KV):KE:=ae Q (cd f60 [1,1]) (rk f60 K) xf (rk f60 K)
def m8 (K:KV):KE:=ae Q (cd f60 [1,0,1,0,1,1,1,1,1,1,1]) (hJ K) (xx xf (hJ K) 0) (rk f60 K)
section
variable {K:KV}{f0 f1 A3 D0 D9 E0:Value}{zf:Nat→Value}{w:World}
theorem BT {K:KV}{f0:Value}{w:World}(h:bo f0 (fun A0=>ai Q 145 A0 0 fun A1=>ai Q 54 A1 3 fun A2=>ld Q 5 A2 fun A3=>bin Q .eql 5 false true A3 (cb 1) fun A5 w=>cond A5 (call Q 89 #[f0,ci 0] K w) (bin Q .eql 5 false true A3 (cb 2) (fun A9 w=>cond A9 (call Q 89 #[f0,ci 1] K w) (bin Q .eql 5 false true A3 (cb 3) (fun C3 w=>cond C3 (call Q 89 #[f0,ci 1] (fun C5 w=>aJ C5 true (fun k21=>call Q 90 #[f0] (fun C8=>k21 [f0,C8]) w) (fun k=>k [uu,uu] w) fun us21=>pick C5 (gd us21 1) cF K) w) (bin Q .eql 5 false true A3 (cb 4) (fun D1=>m8 K (oh f0 uu A3 D1 uu uu (zV (zV (zV (zV (zV zu 2 [cF,f0,A0,A1,A2]) 8 [A5,A5]) 12 [A9,A9]) 16 [C3,C3]) 25 [D1]))) w)) w)) w)) w):Gives Q 60 #[f0] w K:=by
 refine aH func60 (by kernel_rfl) ?_
 refine Eq.mp (congrArg (fun c=>ae Q c _ _ _ _ w) (by kernel_rfl:(rep [1,0,1,0,1,1,1,1,1,1,1] (cd f60 [1,0,1,0,1,1,1,1,1,1,1]) (cd f60 []))=(cd f60 []))) ?_
 revert h
 delta m8 hJ
 generalize (cd f60 [1,0,1,0,1,1,1,1,1,1,1])=xc0
 exact mpF
theorem Ag (h:cond D0 (call Q 91 #[f0] K w) (bin Q .eql 5 false true A3 (cb 5) (fun D5 w=>cond D5 (call Q 89 #[f0,ci 1] (fun D7 w=>aJ D7 true (fun j=>call Q 92 #[f0] (fun E0=>j [f0,E0]) w) (fun k=>k [uu,uu] w) fun d=>pick D7 (gd d 1) cF K) w) (bin Q .eql 5 false true A3 (cb 6) (fun E3 w=>cond E3 (call Q 92 #[f0] K w) (hJ K (oh f0 f1 A3 D0 D9 E0 (zV (zV zf 28 [D5,D5]) 36 [E3,E3])) w)) w)) w)):m8 K (oh f0 f1 A3 D0 D9 E0 zf) w:=by
 delta m8;revert h;generalize (hJ K)=qc0;exact mpF
theorem Ah (h:bo f0 (fun E6=>ai Q 145 E6 0 fun E7=>ai Q 54 E7 3 fun E8=>ld Q 5 E8 fun E9=>bin Q .eql 5 false true E9 (cb 7) K) w):hJ K (oh f0 f1 A3 D0 D9 E0 zf) w:=by
 delta hJ;exact mpK h
end
attribute [irreducible] hJ m8
def Ai (e1 f3 E5 E6 E7 E8 E9 F0 F1 F2 F3 F4 F5 F6 F7 F8:Value)(zf:Nat→Value):List Value:=zf 0::e1::zf 2::f3::zT zf 4 36 (E5::E6::E7::E8::E9::F0::F1::F2::F3::F4::F5::F6::F7::F8::zf 54::[])
def pG (K:KV):KE:=ae Q (cd f38 [1,1,1,1]) (rk f38 K) xf (rk f38 K)
section
variable {K:KV}{e1 f3 E5 E6 E7 E8 E9 F0 F1 F2 F3 F4 F5 F6 F7 F8:Value}{zf:Nat→Value}{w:World}
theorem La {K:KV}{e0:Value}{w:World}(h:box Q 54 e0 (fun e1 w=>sF 54 e1 0 (fun A0=>sL 3 A0 fun A1=>sti (call Q 58 #[A1]) fun A2=>sti (un Q .not A2) fun A3 w=>aJ A3 false (fun k9=>sF 54 e1 1 (fun A5=>sL 24 A5 fun A6=>sti (bin Q .lss 24 false true A6 (cu 1)) fun A7=>k9 [A5,A6,A7]) w) (fun k=>k [uu,uu,uu] w) fun us9=>sti (pick A3 cT (gd us9 2)) fun A8 w=>aJ A8 false (fun k14=>sF 54 e1 1 (fun C0=>sL 24 C0 fun C1=>sti (bin Q .geq 24 false true C1 (cu 1099511627776)) fun C2=>k14 [C0,C1,C2]) w) (fun k=>k [uu,uu,uu] w) fun us14=>sti (pick A8 cT (gd us14 2)) fun C3 w=>aJ C3 false (fun k19=>sF 54 e1 0 (fun C5=>sL 3 C5 fun C6=>sti (bin Q .sub 3 false true C6 (ci 1)) fun C7=>sF 54 e1 2 fun C8=>sI 26 C8 C7 fun C9=>sL 24 C9 fun D0=>sF 54 e1 1 fun D1=>sL 24 D1 fun D2=>sti (bin Q .sub 24 false true D2 (cu 1)) fun D3=>sti (bin Q .neq 24 false false D0 D3) fun D4=>k19 [C5,C6,C7,C8,C9,D0,D1,D2,D3,D4]) w) (fun k=>k [uu,uu,uu,uu,uu,uu,uu,uu,uu,uu] w) fun us19=>sti (pick C3 cT (gd us19 9)) fun D5 w=>cond D5 (K cF w) (ai Q 54 e1 2 (fun D6=>slc Q 26 D6 none none none fun D7=>call Q 59 #[D7] fun D8=>bin Q .geq 24 false true D8 (cu 1099511627776) fun D9 w=>cond D9 (K cF w) (ld Q 54 e1 (fun E0=>bld Q 145 #[(0,E0)] fun E1=>box Q 145 E1 fun E2=>pG K (Ai e1 E2 uu uu uu uu uu uu uu uu uu uu uu uu uu uu (zV (zV (zV zu 0 [e0]) 2 [cF]) 4 [A0,A1,A2,A3,A3,gd us9 0,gd us9 1,gd us9 2,A8,A8,gd us14 0,gd us14 1,gd us14 2,C3,C3,gd us19 0,gd us19 1,gd us19 2,gd us19 3,gd us19 4,gd us19 5,gd us19 6,gd us19 7,gd us19 8,gd us19 9,D5,D6,D7,D8,D9,E0,E1,E2]))) w)) w)) w.drew) w):Gives Q 38 #[e0] w K:=by
 refine aH func38 (by kernel_rfl) ?_
 refine Eq.mp (congrArg (fun c=>ae Q c _ _ _ _ w) (by kernel_rfl:(rep [1,1,1,1] (cd f38 [1,1,1,1]) (cd f38 []))=(cd f38 []))) ?_
 revert h
 delta pG
 generalize (cd f38 [1,1,1,1])=xc0
 exact mpF
theorem Ik (h:aK (fun _=>call Q 60 #[f3] fun E4=>aK fun S w=>hG E4 true S (fun k=>k f3) fun E5=>hG E4 true S (bo E5) fun E6=>hG E4 true S (ai Q 145 E6 0) fun E7=>hG E4 true S (ld Q 54 E7) fun E8=>hG E4 true S (ai Q 54 e1 0) fun E9=>hG E4 true S (ld Q 3 E9) fun F0=>hG E4 true S (ai Q 54 e1 1) fun F1=>hG E4 true S (ld Q 24 F1) fun F2=>hG E4 true S (ai Q 54 e1 2) fun F3=>hG E4 true S (ld Q 26 F3) fun F4=>hG E4 true S (ai Q 54 e1 3) fun F5=>hG E4 true S (ld Q 5 F5) fun F6=>hG E4 true S (bld Q 54 #[(0,F0),(1,F2),(2,F4),(3,F6)]) fun F7=>hG E4 true S (bin Q .eql 54 false false E8 F7) fun F8=>hld S (pick E4 F8 cF) fun F9=>K F9 w) w.drew):pG K (Ai e1 f3 E5 E6 E7 E8 E9 F0 F1 F2 F3 F4 F5 F6 F7 F8 zf) w:=by
 delta pG;exact mpK h
end
attribute [irreducible] pG
end
end Go.Proofs.YtgpfkmdknlcemaaGreatDoor
namespace Go.Proofs.YtgpfkmdknlcemaaGreatDoor
set_option maxRecDepth 100000
open Tryz
section
open Go.RowKit
def np (A0 id1 i5:Value)(zf:Nat→Value):List Value:=A0::id1::zT zf 2 3 (i5::zT zf 6 20 ([]))
def fY (K:KV):KE:=ae Q (cd f127 [1,1]) (rk f127 K) xf (rk f127 K)
def mU (K:KV):KE:=ae Q (cd f127 [1,0,1,0]) (fY K) (xx xf (fY K) 0) (rk f127 K)
section
variable {K:KV}{A0 id1 i5:Value}{zf:Nat→Value}{w:World}
theorem Aj {K:KV}{A0 id1:Value}{w:World}(h:mU K (np A0 id1 (ci 0) (zV zu 4 [ci 0])) w):Gives Q 127 #[A0,id1] w K:=by
 refine aH func127 (by kernel_rfl) ?_;revert h;delta mU fY;exact mpF
theorem yl (Inv:Value→World→Prop)(μ:Value→World→Nat)(h0:Inv i5 w)(u:∀(d:Value) (C:Nat→Value) (w:World) (m:Nat),Inv d w→m=μ d w →
  bo A0 (fun A3=>ai Q 140 A3 0 fun A4=>ld Q 138 A4 fun A5=>lN 138 A5 fun A6=>lS d A6 fun A7 w=>cond A7 (bo A0 (fun C1=>ai Q 140 C1 0 fun C2=>ld Q 138 C2 fun C3=>aU Q 138 C3 d fun C5=>ai Q 199 C5 0 fun C6=>ld Q 24 C6 fun C7=>bin Q .eql 24 false false C7 id1 fun C9 w=>cond C9 (K d w) (nC d (fun A9 w=>(Inv A9 w)∧((μ A9 w)<m)) w)) w) (fY K (np A0 id1 d (zV C 6 [d,A0,A3,A4,A5,A6,A7])) w)) w):mU K (np A0 id1 i5 zf) w:=by
 refine aQ (cd f127 [1,0,1,0,0]) (zr [(4,22)]) (by kernel_rfl) (fun e2 j=>Inv (gd e2 5) j) (fun e2 j=>μ (gd e2 5) j) h0 ?_;intro e' w' hI;have h:=u (gd e' 5) (zM zf (fun i=>gd e' i) (zr [(4,22)])) w' _ hI rfl;revert h;generalize (fY K)=qc0;exact mpF
theorem ym (h:K (ci (-1)) w):fY K (np A0 id1 i5 zf) w:=by
 delta fY;exact mpK h
end
attribute [irreducible] fY mU
theorem AN {K:KV}{A0 id1:Value}{w:World}(h:call Q 127 #[A0,id1] (fun A2=>bin Q .geq 3 false true A2 (ci 0) K) w):Gives Q 126 #[A0,id1] w K:=by
 refine aH func126 (by kernel_rfl) ?_;exact mpK h
def ns (A0 id1 kc:Value)(zf:Nat→Value):List Value:=A0::id1::zT zf 2 3 (kc::zT zf 6 19 ([]))
def fZ (K:KV):KE:=ae Q (cd f106 [1,1,1]) (rk f106 K) xf (rk f106 K)
def mV (K:KV):KE:=ae Q (cd f106 [1,1,0,0]) (fZ K) (xx xf (fZ K) 0) (rk f106 K)
section
variable {K:KV}{A0 id1 kc:Value}{zf:Nat→Value}{w:World}
theorem Ak {K:KV}{A0 id1:Value}{w:World}(h:mV K (ns A0 id1 cN (zV zu 4 [cN])) w):Gives Q 106 #[A0,id1] w K:=by
 refine aH func106 (by kernel_rfl) ?_;revert h;delta mV fZ;exact mpF
theorem yn (Inv:Value→Value→World→Prop)(μ:Value→Value→World→Nat)(h0:Inv id1 kc w)(C:∀(d j:Value) (I:Nat→Value) (w:World) (m:Nat),Inv d j w→m=μ d j w →
  call Q 127 #[A0,d] (fun A3=>bin Q .geq 3 false true A3 (ci 0) fun A4 w=>cond A4 (dl Q 76 1 #[(0,d)] (fun A7=>blt Q .append #[76,76] 76 #[false,false] #[j,A7] fun A8 w=>aK (fun S w=>hN S A0 fun C0=>hF S 140 C0 0 fun C1=>hL S 138 C1 fun C2=>call Q 127 #[A0,d] (fun C5=>bF S fun S w=>hI S 138 C2 C5 fun C6=>hF S 199 C6 1 fun C7=>hL S 24 C7 fun C8=>(Inv C8 A8 w)∧((μ C8 A8 w)<m)) w) w.drew) w) (fZ K (ns A0 d j (zV I 6 [A0,d,A3,A4])) w)) w):mV K (ns A0 id1 kc zf) w:=by
 refine aQ (cd f106 [1,1,0,0,0]) (zr [(1,1),(5,19)]) (by kernel_rfl) (fun e2 u=>Inv (gd e2 1) (gd e2 5) u) (fun e2 u=>μ (gd e2 1) (gd e2 5) u) h0 ?_;intro e' w' hI;have h:=C (gd e' 1) (gd e' 5) (zM zf (fun i=>gd e' i) (zr [(1,1),(5,19)])) w' _ hI rfl;revert h;generalize (fZ K)=qc0;exact mpF
theorem yo (h:K kc w):fZ K (ns A0 id1 kc zf) w:=by
 delta fZ;exact mpK h
end
attribute [irreducible] fZ mV
def bH (A0 id1 aI at7 E9 F0 F1 F2 F3 F4 F5 F6 F7 F8 F9:Value)(zf:Nat→Value):List Value:=A0::id1::aI::zT zf 3 4 (at7::zT zf 8 44 (E9::F0::F1::F2::F3::F4::F5::F6::F7::F8::F9::zT zf 63 26 ([])))
def ls (K:KV):KE:=ae Q (cd f104 [1,1,1,1,1,1]) (rk f104 K) xf (rk f104 K)
def fL (K:KV):KE:=ae Q (cd f104 [1,1,1,1,1,1,1,1]) (rk f104 K) xf (rk f104 K)
def pH (K:KV):KE:=ae Q (cd f104 [1,1,1,1,1,1,1,0,0]) (fL K) (xx xf (fL K) 0) (rk f104 K)
section
variable {K:KV}{A0 id1 aI at7 E9 F0 F1 F2 F3 F4 F5 F6 F7 F8 F9:Value}{zf:Nat→Value}{w:World}
theorem BV {K:KV}(u:Code){A0 id1 aI:Value}{w:World}(h:bin Q .eql 24 false true id1 (cu 0) (fun A4 w=>cond A4 (K (ci 1) w) (call Q 126 #[A0,id1] (fun A7 w=>cond A7 (K (ci 14) w) (bin Q .neq 24 false true aI (cu 0) (fun A9 w=>aJ A9 true (fun C=>call Q 126 #[A0,aI] (fun C3=>un Q .not C3 fun C4=>C [A0,aI,C3,C4]) w) (fun k=>k [uu,uu,uu,uu] w) fun j=>pick A9 (gd j 3) cF fun C5 w=>cond C5 (K (ci 9) w) (bo A0 (fun C7=>ai Q 140 C7 0 fun C8=>ld Q 138 C8 fun C9=>lN 138 C9 fun D0=>bin Q .geq 3 false true D0 (ci 32) fun D1 w=>aJ D1 false (fun I=>call Q 106 #[A0,aI] (fun D2=>lN 76 D2 fun D3=>bin Q .geq 3 false true D3 (ci 4) fun D4=>I [A0,aI,D2,D3,D4]) w) (fun k=>k [uu,uu,uu,uu,uu] w) fun d=>pick D1 cT (gd d 4) fun D5 w=>cond D5 (K (ci 6) w) (bo A0 (fun D6=>ai Q 140 D6 0 fun D7=>ld Q 138 D7 fun D8=>lN 138 D8 fun D9=>ae Q u (rk f104 K) (fun _ _ _=>False) (rk f104 K) (bH A0 id1 aI D9 uu uu uu uu uu uu uu uu uu uu uu (zV (zV zu 6 [ci 0]) 8 [id1,A4,A0,id1,A7,aI,A9,A9,gd j 0,gd j 1,gd j 2,gd j 3,C5,A0,C7,C8,C9,D0,D1,D1,gd d 0,gd d 1,gd d 2,gd d 3,gd d 4,D5,A0,D6,D7,D8,D9]))) w)) w)) w)) w)) w):ae Q (rep [1,1,1,1,1,1] u (cd f104 [])) (rk f104 K) xf (rk f104 K) (bH A0 id1 aI uu uu uu uu uu uu uu uu uu uu uu uu zu) w:=Eq.mp (by kernel_rfl) h
theorem AO {K:KV}{A0 id1 aI:Value}{w:World}(h:bin Q .eql 24 false true id1 (cu 0) (fun A4 w=>cond A4 (K (ci 1) w) (call Q 126 #[A0,id1] (fun A7 w=>cond A7 (K (ci 14) w) (bin Q .neq 24 false true aI (cu 0) (fun A9 w=>aJ A9 true (fun k16=>call Q 126 #[A0,aI] (fun C3=>un Q .not C3 fun C4=>k16 [A0,aI,C3,C4]) w) (fun k=>k [uu,uu,uu,uu] w) fun us16=>pick A9 (gd us16 3) cF fun C5 w=>cond C5 (K (ci 9) w) (bo A0 (fun C7=>ai Q 140 C7 0 fun C8=>ld Q 138 C8 fun C9=>lN 138 C9 fun D0=>bin Q .geq 3 false true D0 (ci 32) fun D1 w=>aJ D1 false (fun k28=>call Q 106 #[A0,aI] (fun D2=>lN 76 D2 fun D3=>bin Q .geq 3 false true D3 (ci 4) fun D4=>k28 [A0,aI,D2,D3,D4]) w) (fun k=>k [uu,uu,uu,uu,uu] w) fun us28=>pick D1 cT (gd us28 4) fun D5 w=>cond D5 (K (ci 6) w) (bo A0 (fun D6=>ai Q 140 D6 0 fun D7=>ld Q 138 D7 fun D8=>lN 138 D8 fun D9=>ls K (bH A0 id1 aI D9 uu uu uu uu uu uu uu uu uu uu uu (zV (zV zu 6 [ci 0]) 8 [id1,A4,A0,id1,A7,aI,A9,A9,gd us16 0,gd us16 1,gd us16 2,gd us16 3,C5,A0,C7,C8,C9,D0,D1,D1,gd us28 0,gd us28 1,gd us28 2,gd us28 3,gd us28 4,D5,A0,D6,D7,D8,D9]))) w)) w)) w)) w)) w):Gives Q 104 #[A0,id1,aI] w K:=aH func104 (by kernel_rfl) (Eq.mp (congrArg (fun c=>ae Q c (rk f104 K) xf (rk f104 K) (bH A0 id1 aI uu uu uu uu uu uu uu uu uu uu uu uu zu) w) (by kernel_rfl:(rep [1,1,1,1,1,1] (cd f104 [1,1,1,1,1,1]) (cd f104 []))=(cd f104 []))) (BV (cd f104 [1,1,1,1,1,1]) h))
theorem zx {K:KV}{A0 id1 aI at7 E9 F0 F1 F2 F3 F4 F5 F6 F7 F8 F9:Value}{zf:Nat→Value}{w:World}(h:bo A0 (fun E0=>ai Q 140 E0 0 fun E1=>ld Q 138 E1 fun E2=>bld Q 199 #[] fun E3=>dl Q 138 1 #[(0,E3)] fun E4=>blt Q .append #[138,138] 138 #[false,false] #[E2,E4] fun E5=>bo A0 fun E6=>ai Q 140 E6 0 fun E7=>sto Q 138 E7 E5 fun _=>ae Q (cd f104 [1,1,1,1,1,1,1,0,0]) (ae Q (cd f104 [1,1,1,1,1,1,1,1]) (rk f104 K) (fun _ _ _=>False) (rk f104 K)) (fun i=>@Bool.rec (fun _=>KE) ((fun _ _ _=>False) i) (ae Q (cd f104 [1,1,1,1,1,1,1,1]) (rk f104 K) (fun _ _ _=>False) (rk f104 K)) (Nat.beq i 0)) (rk f104 K) (bH A0 id1 aI at7 E9 F0 F1 F2 F3 F4 F5 F6 F7 F8 F9 (zV zf 39 [A0,A0,E0,E1,E2,E3,E4,E5,E6,E7]))) w):ae Q (cd f104 [1,1,1,1,1,1]) (rk f104 K) xf (rk f104 K) (bH A0 id1 aI at7 E9 F0 F1 F2 F3 F4 F5 F6 F7 F8 F9 zf) w:=Eq.mp (by kernel_rfl) h
theorem zA (h:bo A0 (fun E0=>ai Q 140 E0 0 fun E1=>ld Q 138 E1 fun E2=>bld Q 199 #[] fun E3=>dl Q 138 1 #[(0,E3)] fun E4=>blt Q .append #[138,138] 138 #[false,false] #[E2,E4] fun E5=>bo A0 fun E6=>ai Q 140 E6 0 fun E7=>sto Q 138 E7 E5 fun _=>pH K (bH A0 id1 aI at7 E9 F0 F1 F2 F3 F4 F5 F6 F7 F8 F9 (zV zf 39 [A0,A0,E0,E1,E2,E3,E4,E5,E6,E7]))) w):ls K (bH A0 id1 aI at7 E9 F0 F1 F2 F3 F4 F5 F6 F7 F8 F9 zf) w:=by
 delta ls
 exact Eq.mp (congrArg (fun c=>ae Q c (rk f104 K) xf (rk f104 K) (bH A0 id1 aI at7 E9 F0 F1 F2 F3 F4 F5 F6 F7 F8 F9 zf) w) (by kernel_rfl:(cd f104 [1,1,1,1,1,1])=(cd f104 [1,1,1,1,1,1]))) (zx h)
theorem zB {K:KV}(B1:KE)(u:KE){A0 id1 aI j C I ad ag X Z J al U V R:Value}{dd:Nat→Value}{w:World}(h:bin Q .gtr 3 false true j (ci 0) (fun E8 w=>aJ E8 true (fun M=>bo A0 (fun F0=>ai Q 140 F0 0 fun F1=>ld Q 138 F1 fun F2=>bin Q .sub 3 false true j (ci 1) fun F4=>aU Q 138 F2 F4 fun F5=>ai Q 199 F5 0 fun F6=>ld Q 24 F6 fun F7=>bin Q .gtr 24 false false F7 id1 fun F9=>M [A0,F0,F1,F2,j,F4,F5,F6,F7,id1,F9]) w) (fun k=>k [uu,uu,uu,uu,uu,uu,uu,uu,uu,uu,uu] w) fun d=>pick E8 (gd d 10) cF fun G0 w=>cond G0 (sN A0 (fun G1=>sF 140 G1 0 fun G2=>sL 138 G2 fun G3=>sN A0 fun G4=>sF 140 G4 0 fun G5=>sL 138 G5 fun G6=>sti (bin Q .sub 3 false true j (ci 1)) fun G7=>sI 138 G6 G7 fun G8=>sL 199 G8 fun G9=>sI 138 G3 j fun H0=>sto Q 199 H0 G9 fun _=>bin Q .sub 3 false true j (ci 1) fun H1=>B1 (bH A0 id1 aI H1 (gd d 0) (gd d 1) (gd d 2) (gd d 3) (gd d 4) (gd d 5) (gd d 6) (gd d 7) (gd d 8) (gd d 9) (gd d 10) (zV (zV dd 49 [j,E8,E8]) 63 [G0,A0,G1,G2,G3,j,A0,G4,G5,G6,j,G7,G8,G9,H0,j,H1]))) w.drew) (u (bH A0 id1 aI j (gd d 0) (gd d 1) (gd d 2) (gd d 3) (gd d 4) (gd d 5) (gd d 6) (gd d 7) (gd d 8) (gd d 9) (gd d 10) (zV (zV dd 49 [j,E8,E8]) 63 [G0])) w)) w):ae Q (cd f104 [1,1,1,1,1,1,1,0,0,0]) B1 (xx xf u 0) (rk f104 K) (bH A0 id1 aI j C I ad ag X Z J al U V R dd) w:=Eq.mp (by kernel_rfl) h
theorem zC (Inv:vI 12)(μ:vM 12)(h0:Inv at7 E9 F0 F1 F2 F3 F4 F5 F6 F7 F8 F9 w)(hs:∀(j C I Z ad V X J ag R U M:Value) (dd:Nat→Value) (w:World) (m:Nat),Inv j C I Z ad V X J ag R U M w→m=μ j C I Z ad V X J ag R U M w →
  bin Q .gtr 3 false true j (ci 0) (fun E8 w=>aJ E8 true (fun al=>bo A0 (fun F0=>ai Q 140 F0 0 fun F1=>ld Q 138 F1 fun F2=>bin Q .sub 3 false true j (ci 1) fun F4=>aU Q 138 F2 F4 fun F5=>ai Q 199 F5 0 fun F6=>ld Q 24 F6 fun F7=>bin Q .gtr 24 false false F7 id1 fun F9=>al [A0,F0,F1,F2,j,F4,F5,F6,F7,id1,F9]) w) (fun k=>k [uu,uu,uu,uu,uu,uu,uu,uu,uu,uu,uu] w) fun d=>pick E8 (gd d 10) cF fun G0 w=>cond G0 (sN A0 (fun G1=>sF 140 G1 0 fun G2=>sL 138 G2 fun G3=>sN A0 fun G4=>sF 140 G4 0 fun G5=>sL 138 G5 fun G6=>sti (bin Q .sub 3 false true j (ci 1)) fun G7=>sI 138 G6 G7 fun G8=>sL 199 G8 fun G9=>sI 138 G3 j fun H0=>sto Q 199 H0 G9 fun _=>bin Q .sub 3 false true j (ci 1) fun H1 w=>(Inv H1 (gd d 0) (gd d 1) (gd d 2) (gd d 3) (gd d 4) (gd d 5) (gd d 6) (gd d 7) (gd d 8) (gd d 9) (gd d 10) w)∧((μ H1 (gd d 0) (gd d 1) (gd d 2) (gd d 3) (gd d 4) (gd d 5) (gd d 6) (gd d 7) (gd d 8) (gd d 9) (gd d 10) w)<m)) w.drew) (fL K (bH A0 id1 aI j (gd d 0) (gd d 1) (gd d 2) (gd d 3) (gd d 4) (gd d 5) (gd d 6) (gd d 7) (gd d 8) (gd d 9) (gd d 10) (zV (zV dd 49 [j,E8,E8]) 63 [G0])) w)) w):pH K (bH A0 id1 aI at7 E9 F0 F1 F2 F3 F4 F5 F6 F7 F8 F9 zf) w:=by
 refine aQ (cd f104 [1,1,1,1,1,1,1,0,0,0]) (zr [(7,1),(49,31)]) (by kernel_rfl) (fun e2 u=>Inv (gd e2 7) (gd e2 52) (gd e2 53) (gd e2 54) (gd e2 55) (gd e2 56) (gd e2 57) (gd e2 58) (gd e2 59) (gd e2 60) (gd e2 61) (gd e2 62) u) (fun e2 u=>μ (gd e2 7) (gd e2 52) (gd e2 53) (gd e2 54) (gd e2 55) (gd e2 56) (gd e2 57) (gd e2 58) (gd e2 59) (gd e2 60) (gd e2 61) (gd e2 62) u) h0 ?_;intro e' w' hI
 have h:=hs (gd e' 7) (gd e' 52) (gd e' 53) (gd e' 54) (gd e' 55) (gd e' 56) (gd e' 57) (gd e' 58) (gd e' 59) (gd e' 60) (gd e' 61) (gd e' 62) (zM zf (fun i=>gd e' i) (zr [(7,1),(49,31)])) w' _ hI rfl
 have h2:ae Q (cd f104 [1,1,1,1,1,1,1,0,0,0]) (fun e2 u=>Inv (gd e2 7) (gd e2 52) (gd e2 53) (gd e2 54) (gd e2 55) (gd e2 56) (gd e2 57) (gd e2 58) (gd e2 59) (gd e2 60) (gd e2 61) (gd e2 62) u∧μ (gd e2 7) (gd e2 52) (gd e2 53) (gd e2 54) (gd e2 55) (gd e2 56) (gd e2 57) (gd e2 58) (gd e2 59) (gd e2 60) (gd e2 61) (gd e2 62) u<μ (gd e' 7) (gd e' 52) (gd e' 53) (gd e' 54) (gd e' 55) (gd e' 56) (gd e' 57) (gd e' 58) (gd e' 59) (gd e' 60) (gd e' 61) (gd e' 62) w') (xx xf (fL K) 0) (rk f104 K) (bH A0 id1 aI (gd e' 7) (gd e' 52) (gd e' 53) (gd e' 54) (gd e' 55) (gd e' 56) (gd e' 57) (gd e' 58) (gd e' 59) (gd e' 60) (gd e' 61) (gd e' 62) (zM zf (fun i=>gd e' i) (zr [(7,1),(49,31)]))) w':=zB (fun e2 u=>Inv (gd e2 7) (gd e2 52) (gd e2 53) (gd e2 54) (gd e2 55) (gd e2 56) (gd e2 57) (gd e2 58) (gd e2 59) (gd e2 60) (gd e2 61) (gd e2 62) u∧μ (gd e2 7) (gd e2 52) (gd e2 53) (gd e2 54) (gd e2 55) (gd e2 56) (gd e2 57) (gd e2 58) (gd e2 59) (gd e2 60) (gd e2 61) (gd e2 62) u<μ (gd e' 7) (gd e' 52) (gd e' 53) (gd e' 54) (gd e' 55) (gd e' 56) (gd e' 57) (gd e' 58) (gd e' 59) (gd e' 60) (gd e' 61) (gd e' 62) w') (fL K) (Eq.mp (by kernel_rfl) h)
 exact Eq.mp (by kernel_rfl) h2
theorem zD {K:KV}{A0 id1 aI at7 E9 F0 F1 F2 F3 F4 F5 F6 F7 F8 F9:Value}{zf:Nat→Value}{w:World}(h:bo A0 (fun H2=>ai Q 140 H2 0 fun H3=>ld Q 138 H3 fun H4=>bld Q 199 #[(0,id1),(1,aI)] fun H5=>aU Q 138 H4 at7 fun H6=>sto Q 199 H6 H5 fun _=>K (ci 0)) w):ae Q (cd f104 [1,1,1,1,1,1,1,1]) (rk f104 K) xf (rk f104 K) (bH A0 id1 aI at7 E9 F0 F1 F2 F3 F4 F5 F6 F7 F8 F9 zf) w:=Eq.mp (by kernel_rfl) h
theorem zE (h:bo A0 (fun H2=>ai Q 140 H2 0 fun H3=>ld Q 138 H3 fun H4=>bld Q 199 #[(0,id1),(1,aI)] fun H5=>aU Q 138 H4 at7 fun H6=>sto Q 199 H6 H5 fun _=>K (ci 0)) w):fL K (bH A0 id1 aI at7 E9 F0 F1 F2 F3 F4 F5 F6 F7 F8 F9 zf) w:=by
 delta fL
 exact Eq.mp (congrArg (fun c=>ae Q c (rk f104 K) xf (rk f104 K) (bH A0 id1 aI at7 E9 F0 F1 F2 F3 F4 F5 F6 F7 F8 F9 zf) w) (by kernel_rfl:(cd f104 [1,1,1,1,1,1,1,1])=(cd f104 [1,1,1,1,1,1,1,1]))) (zD h)
end
attribute [irreducible] ls fL pH
theorem GW {K:KV}{d j:Value}{w:World}(h:bin Q .lss 3 false true d (ci 1) (fun A1 w=>aJ A1 false (fun R=>bin Q .gtr 3 false true d (ci 6) (fun A4=>R [d,A4]) w) (fun k=>k [uu,uu] w) fun M=>pick A1 cT (gd M 1) fun A5 w=>aJ A5 false (fun I=>bin Q .lss 24 false true j (cu 1) (fun A8=>I [j,A8]) w) (fun k=>k [uu,uu] w) fun u=>pick A5 cT (gd u 1) fun A9 w=>aJ A9 false (fun J=>bin Q .geq 24 false true j (cu 1099511627776) (fun C2=>J [j,C2]) w) (fun k=>k [uu,uu] w) fun C=>pick A9 cT (gd C 1) fun C3 w=>cond C3 (K (cu 0) w) (conv Q 3 24 d (fun C5=>bin Q .shl 24 false true C5 (cu 40) fun C6=>bin Q .add 24 false false C6 j K) w)) w):Gives Q 103 #[d,j] w K:=by
 refine aH func103 (by kernel_rfl) ?_;exact mpK h
end
section
attribute [local irreducible] bin un conv call dC blt slc ai fld aU idx lkp eX jl eSt rng nxt ent ext alc box bld dl ld sto bo eS mkS ifc pick rdy wts aJ sti cond bM Gives ae fU gX cOp
section
open Go.RowKit
def tnC (x:Int×Int):List Value:=[u6 x.1,u6 x.2]
theorem vA (x:Int×Int):(tnC x).length=2:=rfl
theorem El (x:Int×Int):∀v∈tnC x,v.oneCell'=true:=by simp[tnC,u6,Value.oneCell']
theorem Tv {L:List (Int×Int)}{id:Int}{k:Nat}{x:Int×Int}(C:L[k]? = some x)(d:x.1=id)(I:∀j y,j<k→L[j]? = some y→y.1≠id):posT L id=k:=by
 obtain⟨h,rfl⟩:=List.getElem?_eq_some_iff.1 C;unfold posT;rw[List.findIdx_eq h];refine⟨by simp[d],fun j u=>?_⟩
 have:=I j _ u (List.getElem?_eq_getElem (by omega))
 simpa using this
theorem Pk {L:List (Int×Int)}{id:Int}(d:∀(j:Nat) y,L[j]? = some y→y.1≠id):¬posT L id<L.length:=by
 intro h;unfold posT at h
 have:=List.findIdx_getElem (w:=h)
 exact d _ _ (List.getElem?_eq_getElem h) (by simpa using this)
theorem rx {T:List (Int×Int)}{id:Int}:cf T id=true↔posT T id<T.length:=by
 unfold cf posT;rw[List.findIdx_lt_length];simp
theorem MJ {T:List (Int×Int)}{id:Int}:(decide (fdT T id≥0))=cf T id:=by
 unfold fdT;cases d:cf T id with
 | true=>rw[if_pos (rx.1 d)];simp
 | false =>
  rw[if_neg (fun h=>by rw[rx.2 h]at d;cases d)];rfl
theorem Lb {T:List (Int×Int)}{id:Int}(h:posT T id<T.length):∃x,T[posT T id]? = some x∧x.1=id∧x.2=ew T id∧x∈T:=by
 have d:=List.getElem?_eq_getElem h
 have:=List.findIdx_getElem (w:=h) (p:=fun x:Int×Int=>x.1==id)
 refine⟨_,d,eq_of_beq this,?_,List.getElem_mem h⟩;unfold ew;rw[List.getD_eq_getElem?_getD,d];rfl
theorem GX {T:List (Int×Int)}{rk:Int→Nat}(j:TK T rk):∀(f g:Nat) (id:Int),upT T rk id≤f→upT T rk id≤g→cw T f id=cw T g id
 | 0,0,_,_,_=>rfl
 | 0,g+1,id,h,_=>by
  have:cf T id=false:=by
   cases d:cf T id with
   | false=>rfl
   | true=>unfold upT at h;rw[d]at h;simp at h
  unfold cw;rw[this];simp
 | f+1,0,id,_,h=>by
  have:cf T id=false:=by
   cases d:cf T id with
   | false=>rfl
   | true=>unfold upT at h;rw[d]at h;simp at h
  unfold cw;rw[this];simp
 | f+1,g+1,id,h1,h2=>by
  unfold cw;cases d:cf T id with
  | false=>simp
  | true =>
   simp only[if_true];obtain⟨x,C,e1,e2,u⟩:=Lb (rx.1 d)
   have:=tM j u
   rw[e1,e2]at this;rw[GX j f g (ew T id) (by omega) (by omega)]
theorem NH {T:List (Int×Int)}{rk:Int→Nat}(d:TK T rk){id:Int}(h:cf T id=true):df T id=id::df T (ew T id):=by
 obtain⟨x,C,e1,e2,u⟩:=Lb (rx.1 h);have j:=tM d u;rw[e1,e2]at j;have I:=yf d id;unfold df
 conv=>lhs;unfold cw
 rw[if_pos h,GX d T.length (T.length+1) (ew T id) (by omega) (by omega)]
theorem Pm {T:List (Int×Int)}{id:Int}(h:cf T id=false):df T id=[]:=by
 unfold df cw;rw[h];simp
theorem Ji {T:List (Int×Int)}:∀(f:Nat) (id:Int),(cw T f id).length≤f
 | 0,_=>Nat.le_refl _
 | f+1,id=>by
  unfold cw;split
  ·have:=Ji (T:=T) f (ew T id);simp;omega
  ·simp
structure TM (w:World) (B t:Nat) (T:List (Int×Int)):Prop where
 row:∃a c,blk w t 140 [.slice a T.length c]∧w.ownsRow B 199 2 (.slice a T.length c) T.length (T.flatMap tnC)
 lo:B≤t
theorem TM.fresh {w w':World}{B t:Nat}{T:List (Int×Int)}(h:TM w B t T)(u:Below w.heap.size w w'):TM w' B t T:=by
 obtain⟨a,c,j,d⟩:=h.row;exact⟨⟨a,c,af u j j.lt,di d fun k C=>u.block k (World.ownsRow.lt d k C).2⟩,h.lo⟩
theorem TM.keep {w w':World}{B B2 t:Nat}{Ts:List TypeId}{T:List (Int×Int)}(h:TM w B t T)(d:Keep Ts B2 w w')(I:140∉Ts)(u:199∉Ts):TM w' B t T:=by
 obtain⟨a,c,C,j⟩:=h.row;exact⟨⟨a,c,d.blk C (.inr I),dW j d u⟩,h.lo⟩
theorem kB {w:World}{K:KV}{b o:Nat}(h:K (.pointer (some ⟨b,o+0,none⟩)) w):ai Tryz.prog 140 (.pointer (some ⟨b,o,none⟩)) 0 K w:=aM (by kernel_rfl) h
theorem Rd {w:World}{K:KV}{b o:Nat}(h:K (.pointer (some ⟨b,o+0,none⟩)) w):ai Tryz.prog 199 (.pointer (some ⟨b,o,none⟩)) 0 K w:=aM (by kernel_rfl) h
theorem Re {w:World}{K:KV}{b o:Nat}(h:K (.pointer (some ⟨b,o+1,none⟩)) w):ai Tryz.prog 199 (.pointer (some ⟨b,o,none⟩)) 1 K w:=aM (by kernel_rfl) h
section
variable {w:World}{K:KV}{B t:Nat}{T:List (Int×Int)}
theorem Vm {o s:Int}(I : -9223372036854775808≤o∧o≤9223372036854775807)(J:0≤s)(h:K (u6 (if o<1∨6<o∨s<1∨1099511627776≤s then 0 else o*1099511627776+s)) w):call Tryz.prog 103 #[.int .i64 o,.int .u64 s] K w:=by
 refine aB (goK func103) (GW ?_);refine aV ?_;by_cases u:o<1
 ·rw[if_pos (by omega)]at h;refine iZ u <|bR u <|fK <|db <|fK <|db ?_;exact bu h
 refine dZ u <|cB <|bE u ?_;by_cases j:6<o
 ·rw[if_pos (by omega)]at h;refine iZ j <|bR j <|fK <|db ?_;exact bu h
 refine dZ j <|aV <|bE j ?_;by_cases d:s<1
 ·rw[if_pos (by omega)]at h;refine iZ d <|bR d ?_;exact bu h
 refine dZ d <|cH <|bE d ?_;by_cases C:1099511627776≤s
 ·rw[if_pos (by omega)]at h;exact ay C h
 rw[if_neg (by omega)]at h;refine au C <|eK underlying3 underlying24 ?_;rw[hZ,show o%18446744073709551616=o by omega];refine AA (by omega) ?_;have e:o*2 ^ (min (40:Int).toNat IntKind.u64.bits)=o*1099511627776:=rfl;rw[e,hZ,show o*1099511627776%18446744073709551616=o*1099511627776 by omega];refine kf ?_;rw[hZ,show (o*1099511627776+s)%18446744073709551616=o*1099511627776+s by omega];exact h
theorem Il {id:Int}(X:TM w B t T)(hn:T.length≤1000000)(h:K (.int .i64 (fdT T id)) w):call Tryz.prog 127 #[.pointer (some ⟨t,0,none⟩),.int .u64 id] K w:=by
 obtain⟨a,c,U,V⟩:=X.row;refine aB (goK func127) (Aj ?_);refine yl (Inv:=fun i wr=>∃k:Nat,i=.int .i64 (k:Nat)∧k≤T.length∧wr=w∧∀j y,j<k→T[j]? = some y→y.1≠id) (μ:=fun i _=>T.length-(intOf i).toNat) ⟨0,rfl,by omega,rfl,fun j y Z=>by omega⟩ ?_;rintro _ dd wr m ⟨k,rfl,hk,rfl,d⟩ hm;refine aw <|kB <|lK (v:=.slice a T.length c) U rfl <|bx underlying138 <|aV ?_;by_cases C:k<T.length
 ·refine ay (by omega) <|aw <|kB <|lK (v:=.slice a T.length c) U rfl ?_;have J:T[k]? = some T[k]:=List.getElem?_eq_getElem C;generalize T[k]=x at J;refine rd3 (enc:=tnC) (s:=2) (f':=0) (v:=u6 x.1) underlying138 (fun _=>by kernel_rfl) vA (fun _=>by kernel_rfl) (by kernel_rfl) (by omega) V rfl J rfl fun _ _=>?_;refine bm ?_;by_cases I:x.1=id
  ·refine ay I ?_;have M:=Tv J I d;unfold fdT at h;rw[M,if_pos C]at h;exact h
  ·refine au I <|aR (by omega) (by omega) ?_;refine⟨⟨k+1,ivS,by omega,rfl,fun j y Z u=>?_⟩,by rw[hm];show T.length-((k:Int)+1).toNat<T.length-(k:Int).toNat;omega⟩;by_cases R:j=k
   ·subst R;rw[J]at u;cases u;exact I
   ·exact d j y (by omega) u
 ·refine au (by omega) <|ym ?_;have M:=Pk (L:=T) (id:=id) fun j y u=>d j y (by have:=(List.getElem?_eq_some_iff.1 u).1;omega) u;unfold fdT at h;rw[if_neg M]at h;exact h
theorem Lc {id:Int}(j:TM w B t T)(d:T.length≤1000000)(h:K (.bool (cf T id)) w):call Tryz.prog 126 #[.pointer (some ⟨t,0,none⟩),.int .u64 id] K w:=by
 refine aB (goK func126) (AN ?_);refine Il j d <|cH ?_;rw[show decide (0≤fdT T id)=cf T id from MJ];exact h
theorem Ab :(Tryz.prog.info? 24).map (fun i=>(i.zero,i.size,i.bytes))=some (some (u6 0),1,8):=by kernel_rfl
theorem Em {id:Int}{rk:Int→Nat}(R:TK T rk)(ht:TM w B t T)(hn:T.length≤100000)(h:∀w' a c,w'.ownsRow w.heap.size 24 1 (.slice a (df T id).length c) (df T id).length ((df T id).map u6)→Below w.heap.size w w'→K (.slice a (df T id).length c) w'):call Tryz.prog 106 #[.pointer (some ⟨t,0,none⟩),.int .u64 id] K w:=by
 refine aB (goK func106) (Ak ?_);refine yn (Inv:=fun C am wr=>∃(d:Int) (O:List Int) (a:Option Addr) (c:Nat),C=.int .u64 d∧am=.slice a O.length c∧O++df T d=df T id∧wr.ownsRow w.heap.size 24 1 (.slice a O.length c) O.length (O.flatMap uC)∧Below w.heap.size w wr)
  (μ:=fun C _ _=>upT T rk (intOf C)) ⟨id,[],none,0,rfl,rfl,rfl,World.ownsRow_nil _ _ _ _,Below.refl _ _⟩ ?_
 rintro _ _ dd w1 m ⟨d,O,a,c,rfl,rfl,U,Z,b1⟩ hm;have ar:=ht.fresh b1;have a2:O.length≤T.length+1:=by
  have:=Ji (T:=T) (T.length+1) id
  have I:=congrArg List.length U;rw[List.length_append]at I;unfold df at I;omega
 refine Il ar (by omega) <|cH ?_;have hf:decide (0≤fdT T d)=cf T d:=MJ;rw[hf];cases j:cf T d with
 | true =>
  refine bu ?_;rw[NH R j]at U;obtain⟨x,hx,e1,e2,J⟩:=Lb (rx.1 j);have M:=tM R J;rw[e1,e2]at M;refine oe (vs:=[.int .u64 d]) underlying76 (s:=1) (by kernel_rfl) (by kernel_rfl) (by omega) rfl (by simp) (by simp) (by simp) (by simp[Value.cells]) fun w2 I b2 s2=>?_;have I:blk w2 w1.heap.size 24 (uC d):=by simpa[Value.cells,u6,uC]using I
  obtain⟨ii,ad,hz,al,av⟩:=info_parts Ab;have aS:w2.ownsRow w.heap.size 24 1 (.slice a O.length c) O.length (O.flatMap uC):=di Z fun q j=>b2.block q (World.ownsRow.lt Z q j).2;have an:=b1.size
  refine rU (base:=w.heap.size) (enc:=uC) (x:=d) underlying76 ad hz al av rfl (by omega) (fun _=>rfl) aS I (by simp[uC,u6,Value.oneCell']) (by omega) (by omega) (by omega) fun a' c' w3 ap _ b3 _=>?_;have V:Below w.heap.size w w3:=(b1.trans (b2.mono an)).trans b3;have X:TM w3.drew B t T:=(ht.fresh V).fresh (Below.refl _ w3).drew;obtain⟨ta,tc,tb,a0⟩:=X.row
  obtain⟨g,az,rfl,op⟩:=cY a0 (by have:=rx.1 j;omega);refine aE (fun y=>blk y t 140 [.slice (some ⟨g,0,none⟩) T.length tc]∧blk y g 199 az) ⟨tb,op.blk⟩ <|ab (fun y u _=>aw) <|ab (fun y u _=>kB) <|ab (v:=.slice (some ⟨g,0,none⟩) T.length tc) (fun y u _=>lK u.1 rfl) <|Il X (by omega) <|aO ⟨tb,op.blk⟩ ?_;have ag:fdT T d=(posT T d:Nat):=by unfold fdT;rw[if_pos (rx.1 j)]
  rw[ag];have a3:=rx.1 j;refine ab (v:=.pointer (some ⟨g,0+((posT T d:Nat):Int).toNat*2,none⟩)) (fun y u _=>eu underlying138 (s:=2) (fun _=>by kernel_rfl) (by omega) (by omega)) <|ab (fun y u _=>Re) <|ab (v:=u6 (ew T d)) (fun y u _=>lK u.2 (by rw[Int.toNat_natCast,Nat.zero_add,op.cell vA rfl hx (by omega), ←e2];rfl)) ?_
  refine⟨⟨ew T d,O++[d],a',c',rfl,by rw[List.length_append];rfl,by rw[←U,List.append_assoc];rfl,by rw[List.length_append];exact ap,V.drew⟩,?_⟩;rw[hm];exact M
 | false =>
  refine bw <|yo ?_;rw[Pm j,List.append_nil]at U;subst U;rw[Ed]at Z;exact h w1 a c Z b1
end
end
section
open Go.RowKit
abbrev gtI (id:Int):Int×Int→Bool:=fun x=>decide (id<x.1)
abbrev BW :List TypeId:=[140,199]
section
variable {w:World}{K:KV}{B t:Nat}{T:List (Int×Int)}
theorem Ld :(Tryz.prog.info? 199).map (fun i=>(i.zero,i.size,i.bytes))=some (some (.agg #[u6 0,u6 0]),2,16):=by kernel_rfl
theorem MK {t0 id1 aI at7 am ag J an M ar X V U ad ap:Value}{zf:Nat→Value}{id par:Int}(ht:TM w B t T)(hn:T.length≤1000)(hB:B≤w.heap.size)(q1:t0=.pointer (some ⟨t,0,none⟩))(q2:id1=.int .u64 id)(q3:aI=.int .u64 par)(q4:at7=.int .i64 (T.length:Nat))(h:∀w',TM w' B t (fa T (nL (gtI id) T T.length) (id,par))→Keep BW B w w'→K (.int .i64 0) w'):ls K ((bH t0 id1 aI at7 am ag J an M ar X V U ad ap zf)) w:=by
 subst q1 q2 q3 q4;obtain⟨a,c,hb,ho⟩:=ht.row;refine zA <|aw <|kB <|lK (v:=.slice a T.length c) hb rfl <|fS (vs:=tnC (0,0)) (by kernel_rfl) ?_;refine oe (vs:=[.agg (tnC (0,0)).toArray]) underlying138 (s:=2) (by kernel_rfl) (by kernel_rfl) (by omega) rfl (by simp) (by simp) (by simp) (by simp[Value.cells,tnC]) fun w1 h1 b1 s1=>?_
 have h1:blk w1 w.heap.size 199 (tnC (0,0)):=by simpa[Value.cells]using h1
 obtain⟨ii,bk,hz,bt,bW⟩:=info_parts Ld;have a3:w1.ownsRow B 199 2 (.slice a T.length c) T.length (T.flatMap tnC):=di ho fun q hq=>b1.block q (World.ownsRow.lt ho q hq).2;have b3:blk w1 t 140 [.slice a T.length c]:=af b1 hb hb.lt;refine rU (base:=B) (x:=(0,0)) underlying138 bk hz bt bW rfl (by omega) vA a3 h1 (El _) (by omega) (by omega) (by omega) fun a2 C w2 b0 a9 b2 _=>?_
 have k2:Keep BW B w w2:=(Keep.of b1).trans (Keep.grown a9 a3 (by simp) (Nat.le_refl _));have aS:blk w2 t 140 [.slice a T.length c]:=eT b3 a3 (by decide) a9;refine aw <|kB ?_;refine dY (fun _=>by kernel_rfl) aS (by simp) rfl fun w3 a0 o3=>?_;have a0:blk w3 t 140 [.slice a2 (T.length+1) C]:=a0;have bb:=dJ b0 aS (by decide) o3
 have k3:Keep BW B w w3:=k2.trans (o3.keep aS (by simp) ht.lo);rw[←insA_end]at bb;refine zC (Inv:=fun a6 _ _ _ _ _ _ _ _ _ _ _ wr=>∃(k:Nat) (z:Int×Int),a6=.int .i64 (k:Nat)∧k≤T.length∧nL (gtI id) T T.length=nL (gtI id) T k∧blk wr t 140 [.slice a2 (T.length+1) C] ∧
   wr.ownsRow B 199 2 (.slice a2 (T.length+1) C) (T.length+1) ((fa T k z).flatMap tnC)∧Keep BW B w wr)
  (μ:=fun a6 _ _ _ _ _ _ _ _ _ _ _ _=>(intOf a6).toNat) ⟨T.length,(0,0),rfl,Nat.le_refl _,rfl,a0,bb,k3⟩ ?_
 rintro _ _ _ _ _ _ _ _ _ _ _ _ dd w4 m ⟨k,z,rfl,hk,az,Z,a4,k4⟩ hm;have be:∀{t0 id1 aI at7 am ag J an M ar X V U ad ap:Value} {zf:Nat→Value} {w5:World},t0=.pointer (some ⟨t,0,none⟩)→id1=.int .u64 id→aI=.int .u64 par→at7=.int .i64 (k:Nat)→blk w5 t 140 [.slice a2 (T.length+1) C] →
   w5.ownsRow B 199 2 (.slice a2 (T.length+1) C) (T.length+1) ((fa T k z).flatMap tnC)→Keep BW B w w5→nL (gtI id) T k=k→fL K ((bH t0 id1 aI at7 am ag J an M ar X V U ad ap zf)) w5:=by
  intro t0 id1 aI at7 am ag J an M ar X V U ad ap zf w5 q1 q2 q3 q4 a7 I k5 bv;subst q1 q2 q3 q4;refine zE <|aw <|kB <|lK (v:=.slice a2 (T.length+1) C) a7 rfl <|fS (vs:=tnC (id,par)) (by kernel_rfl) ?_;obtain⟨g,bd,rfl,j⟩:=cY I (by omega);refine eu underlying138 (s:=2) (fun _=>by kernel_rfl) (by omega) (by omega) ?_
  refine j.sto vA nF (by omega) (by kernel_rfl) (El _) fun w6 o6 a8=>?_;rw[vr hk]at a8;refine h w6 ⟨⟨some ⟨g,0,none⟩,C,?_,?_⟩,ht.lo⟩ (k5.trans (o6.keep j.blk (by simp) j.lo))
  ·rw[nF];exact o6.blk a7 (fun hh=>(a7.ne j.blk (by decide)) hh)
  ·rw[az,bv,nF];exact a8
 refine cB ?_;by_cases al:(0:Int)<(k:Nat)
 ·refine dE al ?_;obtain⟨k,rfl⟩:=Nat.exists_eq_succ_of_ne_zero (show k≠0 by omega);have ek:((k.succ:Nat):Int)-1=(k:Nat):=by omega
  have b4:k<T.length:=by omega
  have hx:T[k]? = some T[k]:=List.getElem?_eq_getElem b4;generalize T[k]=x at hx;have av:(fa T k.succ z)[k]? = some x:=by have:=Fk (L:=T) (z:=z) (show 0<k.succ by omega) hk;rw[Nat.succ_sub_one]at this;rw[this];exact hx
  obtain⟨g,bd,rfl,j⟩:=cY a4 (by omega);refine aw <|kB <|lK (v:=.slice (some ⟨g,0,none⟩) (T.length+1) C) Z rfl <|bg (by omega) (by omega) ?_;rw[ek];refine eu underlying138 (s:=2) (fun _=>by kernel_rfl) (by omega) (by omega) <|Rd <|lK (v:=u6 x.1) j.blk (by rw[Int.toNat_natCast,Nat.zero_add];exact j.cell vA nF av (show 0<2 by omega)) <|cB <|bR al ?_
  have hI:nL (gtI id) T (k+1)=if id<x.1 then nL (gtI id) T k else k+1:=by
   conv=>lhs;unfold nL
   rw[hx];simp[gtI]
  by_cases R:id<x.1
  ·refine ay R ?_;rw[if_pos R]at hI;have d:blk w4.drew t 140 [.slice (some ⟨g,0,none⟩) (T.length+1) C]:=Z;have u:Opn w4.drew B 199 2 (T.length+1) C g bd ((fa T k.succ z).flatMap tnC):=⟨j.blk,j.lo,j.nc,j.cm,j.len,j.take,j.xl⟩
   refine aa (fun _=>aw) <|aa (fun _=>kB) <|aa (v:=.slice (some ⟨g,0,none⟩) (T.length+1) C) (fun _=>lK d rfl) <|aa (fun _=>aw) <|aa (fun _=>kB) <|aa (v:=.slice (some ⟨g,0,none⟩) (T.length+1) C) (fun _=>lK d rfl) <|aa (v:=.int .i64 (k:Nat)) (fun K hK=>bg (by omega) (by omega) (by rw[ek];exact hK)) <|aa (v:=.pointer (some ⟨g,0+((k:Nat):Int).toNat*2,none⟩)) (fun _=>eu underlying138 (s:=2) (fun _=>by kernel_rfl) (by omega) (by omega)) <|aa (v:=.agg (tnC x).toArray) (fun _=>ldA (n:=2) (vs:=tnC x) underlying199 rfl (by kernel_rfl) u.blk (by rw[Int.toNat_natCast,Nat.zero_add];exact u.elem vA nF av) rfl) <|aa (v:=.pointer (some ⟨g,0+((k.succ:Nat):Int).toNat*2,none⟩)) (fun _=>eu underlying138 (s:=2) (fun _=>by kernel_rfl) (by omega) (by omega)) ?_
   refine u.sto vA nF (by omega) (by kernel_rfl) (El _) fun w5 o5 I=>?_;rw[vr hk]at I;have bi:fa T k.succ x=fa T k x:=by have:=BE (L:=T) (x:=x) (show 0<k.succ by omega) (by rw[Nat.succ_sub_one];exact hx);rwa[Nat.succ_sub_one]at this
   rw[bi]at I;refine bg (by omega) (by omega) ?_;refine⟨⟨k,x,congrArg (Value.int .i64) ek,by omega,by rw[az];exact hI,o5.blk d (fun hh=>(d.ne u.blk (by decide)) hh),I,k4.drew.trans (o5.keep u.blk (by simp) u.lo)⟩,by rw[hm];show (((k.succ:Nat):Int)-1).toNat<((k.succ:Nat):Int).toNat;omega⟩
  ·refine au R ?_;rw[if_neg R]at hI;exact be rfl rfl rfl rfl Z a4 k4 hI
 ·have:k=0:=by omega
  subst this;refine eF al <|bE al <|bw ?_;exact be rfl rfl rfl rfl Z a4 k4 rfl
theorem Uz {id par:Int}{rk:Int→Nat}(M:TK T rk)(u:TM w B t T)(hn:T.length≤1000)(hB:B≤w.heap.size)(h:∀w',TM w' B t (iE T id par).1→Keep BW B w w'→K (.int .i64 (iE T id par).2) w'):call Tryz.prog 104 #[.pointer (some ⟨t,0,none⟩),.int .u64 id,.int .u64 par] K w:=by
 refine aB (goK func104) (AO ?_);unfold iE at h;refine bm ?_;by_cases h0:id=0
 ·rw[if_pos h0]at h;refine ay h0 ?_;exact h w u (Keep.refl _ _ _)
 rw[if_neg h0]at h;refine au h0 <|Lc u (by omega) ?_;cases hq:cf T id with
 | true =>
  rw[if_pos hq]at h;refine bu ?_;exact h w u (Keep.refl _ _ _)
 | false =>
 rw[if_neg (by rw[hq];simp)]at h;refine bw <|cW ?_;by_cases J:par≠0∧cf T par=false
 ·rw[if_pos J]at h;refine dE J.1 <|Lc u (by omega) ?_;rw[J.2];refine eh <|bR J.1 <|bu ?_;exact h w u (Keep.refl _ _ _)
 rw[if_neg J]at h;by_cases C:par≠0
 ·have Z:cf T par=true:=by
   cases hh:cf T par with
   | true=>rfl
   | false=>exact absurd ⟨C,hh⟩ J
  refine dE C <|Lc u (by omega) ?_;rw[Z];refine eh <|bR C <|bw ?_;obtain⟨a,c,I,U⟩:=u.row;refine aw <|kB <|lK (v:=.slice a T.length c) I rfl <|bx underlying138 <|cH ?_;by_cases d:(32:Int)≤(T.length:Nat)
  ·rw[if_pos (.inl (by omega))]at h;refine iZ d <|bR d <|bu ?_;exact h w u (Keep.refl _ _ _)
  refine dZ d ?_;refine Em M u (by omega) fun X ap cp op b2=>?_;have j:=u.fresh b2;obtain⟨a,c,I,U⟩:=j.row;refine bx underlying76 <|cH <|bE d ?_;by_cases R:(4:Int)≤((df T par).length:Nat)
  ·rw[if_pos (.inr (by omega))]at h;refine ay R ?_;exact h X j (Keep.of b2)
  refine au R ?_;rw[if_neg (by omega)]at h;refine aw <|kB <|lK (v:=.slice a T.length c) I rfl <|bx underlying138 ?_;exact MK j hn (Nat.le_trans hB b2.size) rfl rfl rfl rfl fun w' h1 V=>h w' h1 ((Keep.of b2).trans V)
 ·refine eF C <|bE C <|bw ?_;obtain⟨a,c,I,U⟩:=u.row;refine aw <|kB <|lK (v:=.slice a T.length c) I rfl <|bx underlying138 <|cH ?_;by_cases d:(32:Int)≤(T.length:Nat)
  ·rw[if_pos (.inl (by omega))]at h;refine iZ d <|bR d <|bu ?_;exact h w u (Keep.refl _ _ _)
  refine dZ d ?_;refine Em M u (by omega) fun X ap cp op b2=>?_;have j:=u.fresh b2;obtain⟨a,c,I,U⟩:=j.row;refine bx underlying76 <|cH <|bE d ?_;by_cases R:(4:Int)≤((df T par).length:Nat)
  ·rw[if_pos (.inr (by omega))]at h;refine ay R ?_;exact h X j (Keep.of b2)
  refine au R ?_;rw[if_neg (by omega)]at h;refine aw <|kB <|lK (v:=.slice a T.length c) I rfl <|bx underlying138 ?_;exact MK j hn (Nat.le_trans hB b2.size) rfl rfl rfl rfl fun w' h1 V=>h w' h1 ((Keep.of b2).trans V)
end
end
end
section
open Go.RowKit
theorem CE {K:KV}{d:Value}{w:World}(h:bin Q .geq 3 false true d (ci 1) (fun A1 w=>aJ A1 true (fun u=>bin Q .leq 3 false true d (ci 6) (fun A4=>u [d,A4]) w) (fun k=>k [uu,uu] w) fun j=>pick A1 (gd j 1) cF K) w):Gives Q 77 #[d] w K:=by
 refine aH func77 (by kernel_rfl) ?_;exact mpK h
def eP (e1 A0 x3 C1 C2:Value)(zf:Nat→Value):List Value:=zf 0::e1::A0::x3::zT zf 4 10 (C1::C2::zT zf 16 44 ([]))
def dD (K:KV):KE:=ae Q (cd f78 [1,1,1]) (rk f78 K) xf (rk f78 K)
def o0 (K:KV):KE:=ae Q (cd f78 [1,1,0,1]) (dD K) xf (rk f78 K)
def jN (K:KV):KE:=ae Q (cd f78 [1,1,0,1,0,1]) (dD K) (xx xf (dD K) 0) (rk f78 K)
def oa (K:KV):KE:=ae Q (cd f78 [1,1,0,1,0,0,1]) (jN K) (xx xf (dD K) 0) (rk f78 K)
section
variable {K:KV}{e1 A0 x3 C1 C2:Value}{zf:Nat→Value}{w:World}
theorem FE {K:KV}{e0:Value}{w:World}(h:box Q 54 e0 (fun e1=>alc Q 54 fun A0=>ai Q 54 e1 0 fun A1=>ld Q 3 A1 fun A2=>ai Q 54 e1 1 fun A3=>ld Q 24 A3 fun A4=>ai Q 54 e1 2 fun A5=>ld Q 26 A5 fun A6=>ai Q 54 e1 3 fun A7=>ld Q 5 A7 fun A8=>bld Q 54 #[(0,A2),(1,A4),(2,A6),(3,A8)] fun A9=>alc Q 54 fun x3=>sto Q 54 x3 A9 fun _=>ai Q 54 e1 3 fun C0=>ld Q 5 C0 fun C1=>o0 K (eP e1 A0 x3 C1 uu (zV (zV zu 0 [e0]) 4 [A1,A2,A3,A4,A5,A6,A7,A8,A9,C0]))) w):Gives Q 78 #[e0] w K:=by
 refine aH func78 (by kernel_rfl) ?_
 refine Eq.mp (congrArg (fun c=>ae Q c _ _ _ _ w) (by kernel_rfl:(rep [1,1,0,1] (cd f78 [1,1,0,1]) (cd f78 []))=(cd f78 []))) ?_
 revert h
 delta o0 dD
 generalize (cd f78 [1,1,0,1])=xc0
 exact mpF
theorem Dw (h:bin Q .eql 5 false true C1 (cb 1) (fun C3=>oa K (eP e1 A0 x3 C1 C3 (zV zf 16 [C3]))) w):o0 K (eP e1 A0 x3 C1 C2 zf) w:=by
 delta o0
 refine Eq.mp (congrArg (fun c=>ae Q c _ _ _ _ w) (by kernel_rfl:(rep [0,0,1] (cd f78 [1,1,0,1,0,0,1]) (cd f78 [1,1,0,1]))=(cd f78 [1,1,0,1]))) ?_
 revert h
 delta oa jN
 generalize (cd f78 [1,1,0,1,0,0,1])=xc0
 generalize (dD K)=qc0
 exact mpF
theorem Dx (h:cond C2 (jN K (eP e1 A0 x3 C1 C2 zf) w) (bin Q .eql 5 false true C1 (cb 2) (fun C4=>jN K (eP e1 A0 x3 C1 C4 (zV zf 17 [C4]))) w)):oa K (eP e1 A0 x3 C1 C2 zf) w:=by
 delta oa;revert h;generalize (jN K)=qc0;generalize (dD K)=qc1;exact mpF
theorem vX (h:cond C2 (ai Q 54 e1 4 (fun C5=>ld Q 24 C5 fun C6=>ai Q 54 x3 4 fun C7=>sto Q 24 C7 C6 fun _=>ai Q 54 e1 6 fun C8=>ld Q 2 C8 fun C9=>ai Q 54 x3 6 fun D0=>sto Q 2 D0 C9 fun _=>dD K (eP e1 A0 x3 C1 C2 (zV zf 18 [C5,C6,C7,C8,C9,D0]))) w) (bin Q .eql 5 false true C1 (cb 3) (fun D2 w=>cond D2 (ai Q 54 e1 4 (fun D3=>ld Q 24 D3 fun D4=>ai Q 54 x3 4 fun D5=>sto Q 24 D5 D4 fun _=>ai Q 54 e1 6 fun D6=>ld Q 2 D6 fun D7=>ai Q 54 x3 6 fun D8=>sto Q 2 D8 D7 fun _=>ai Q 54 e1 7 fun D9=>ld Q 24 D9 fun E0=>ai Q 54 x3 7 fun E1=>sto Q 24 E1 E0 fun _=>dD K (eP e1 A0 x3 C1 C2 (zV zf 24 [D2,D2,D3,D4,D5,D6,D7,D8,D9,E0,E1]))) w) (bin Q .eql 5 false true C1 (cb 4) (fun E3 w=>cond E3 (ai Q 54 e1 7 (fun E4=>ld Q 24 E4 fun E5=>ai Q 54 x3 7 fun E6=>sto Q 24 E6 E5 fun _=>ai Q 54 e1 8 fun E7=>ld Q 24 E7 fun E8=>ai Q 54 x3 8 fun E9=>sto Q 24 E9 E8 fun _=>dD K (eP e1 A0 x3 C1 C2 (zV (zV zf 24 [D2,D2]) 35 [E3,E3,E4,E5,E6,E7,E8,E9]))) w) (bin Q .eql 5 false true C1 (cb 5) (fun F1 w=>cond F1 (ai Q 54 e1 4 (fun F2=>ld Q 24 F2 fun F3=>ai Q 54 x3 4 fun F4=>sto Q 24 F4 F3 fun _=>ai Q 54 e1 6 fun F5=>ld Q 2 F5 fun F6=>ai Q 54 x3 6 fun F7=>sto Q 2 F7 F6 fun _=>ai Q 54 e1 5 fun F8=>ld Q 3 F8 fun F9=>ai Q 54 x3 5 fun G0=>sto Q 3 G0 F9 fun _=>dD K (eP e1 A0 x3 C1 C2 (zV (zV (zV zf 24 [D2,D2]) 35 [E3,E3]) 43 [F1,F1,F2,F3,F4,F5,F6,F7,F8,F9,G0]))) w) (bin Q .eql 5 false true C1 (cb 6) (fun G2 w=>cond G2 (ai Q 54 e1 5 (fun G3=>ld Q 3 G3 fun G4=>ai Q 54 x3 5 fun G5=>sto Q 3 G5 G4 fun _=>dD K (eP e1 A0 x3 C1 C2 (zV (zV (zV (zV zf 24 [D2,D2]) 35 [E3,E3]) 43 [F1,F1]) 54 [G2,G2,G3,G4,G5]))) w) (dD K (eP e1 A0 x3 C1 C2 (zV (zV (zV (zV zf 24 [D2,D2]) 35 [E3,E3]) 43 [F1,F1]) 54 [G2,G2])) w)) w)) w)) w)) w)):jN K (eP e1 A0 x3 C1 C2 zf) w:=by
 delta jN;revert h;generalize (dD K)=qc0;exact mpF
theorem Dy (h:ld Q 54 x3 (fun G6=>sto Q 54 A0 G6 fun _=>bM Q [(some 54,A0)] K) w):dD K (eP e1 A0 x3 C1 C2 zf) w:=by
 delta dD;exact mpK h
end
attribute [irreducible] dD o0 jN oa
def jO (e1 qm qC D1 D2 D8 D9 E0 E9 F0 F1 F9 G0 G1 G4 G5 G6 G7 G8 G9 H1:Value)(zf:Nat→Value):List Value:=zf 0::e1::zf 2::qm::qC::zT zf 5 19 (D1::D2::zT zf 26 5 (D8::D9::E0::zT zf 34 8 (E9::F0::F1::zT zf 45 7 (F9::G0::G1::zf 55::zf 56::G4::G5::G6::G7::G8::zf 62::G9::zT zf 64 3 (H1::zT zf 68 7 ([]))))))
def fc (K:KV):KE:=ae Q (cd f79 [1,1,1,1]) (rk f79 K) xf (rk f79 K)
def kJ (K:KV):KE:=ae Q (cd f79 [1,1,1,0,1,0,1]) (fc K) (xx xf (fc K) 0) (rk f79 K)
def mL (K:KV):KE:=ae Q (cd f79 [1,1,1,0,1,0,1,1,1,1,1,1,1,1,1]) (fc K) (xx xf (fc K) 0) (rk f79 K)
section
variable {K:KV}{e1 qm qC D1 D2 D8 D9 E0 E9 F0 F1 F9 G0 G1 G4 G5 G6 G7 G8 G9 H1:Value}{zf:Nat→Value}{w:World}
theorem CF {K:KV}{e0:Value}{w:World}(h:box Q 54 e0 (fun e1=>ai Q 54 e1 6 fun A2=>ld Q 2 A2 fun A3=>bin Q .geq 2 false true A3 (ci 1) fun A4 w=>aJ A4 true (fun k9=>ai Q 54 e1 6 (fun A6=>ld Q 2 A6 fun A7=>bin Q .leq 2 false true A7 (ci 1125899906842624) fun A8=>k9 [A6,A7,A8]) w) (fun k=>k [uu,uu,uu] w) fun us9=>pick A4 (gd us9 2) cF fun A9=>ai Q 54 e1 5 fun C0=>ld Q 3 C0 fun C1=>call Q 77 #[C1] fun C2 w=>aJ C2 true (fun k17=>ai Q 54 e1 5 (fun C4=>ld Q 3 C4 fun C5=>ai Q 54 e1 0 fun C6=>ld Q 3 C6 fun C7=>bin Q .neq 3 false false C5 C7 fun C8=>k17 [C4,C5,C6,C7,C8]) w) (fun k=>k [uu,uu,uu,uu,uu] w) fun us17=>pick C2 (gd us17 4) cF fun C9=>ai Q 54 e1 3 fun D0=>ld Q 5 D0 fun D1=>bin Q .eql 5 false true D1 (cb 1) fun D3=>kJ K (jO e1 A9 C9 D1 D3 uu uu uu uu uu uu uu uu uu uu uu uu uu uu uu uu (zV (zV (zV (zV zu 0 [e0]) 2 [cF]) 5 [A2,A3,A4,A4,gd us9 0,gd us9 1,gd us9 2,A9,C0,C1,C2,C2,gd us17 0,gd us17 1,gd us17 2,gd us17 3,gd us17 4,C9,D0]) 26 [D3]))) w):Gives Q 79 #[e0] w K:=by
 refine aH func79 (by kernel_rfl) ?_
 refine Eq.mp (congrArg (fun c=>ae Q c _ _ _ _ w) (by kernel_rfl:(rep [1,1,1,0,1,0,1] (cd f79 [1,1,1,0,1,0,1]) (cd f79 []))=(cd f79 []))) ?_
 revert h
 delta kJ fc
 generalize (cd f79 [1,1,1,0,1,0,1])=xc0
 exact mpF
theorem AP (h:cond D2 (ai Q 54 e1 6 (fun D4=>ld Q 2 D4 fun D5=>bin Q .geq 2 false true D5 (ci 0) fun D6 w=>aJ D6 true (fun k31=>ai Q 54 e1 6 (fun D8=>ld Q 2 D8 fun D9=>bin Q .leq 2 false true D9 (ci 1125899906842624) fun E0=>k31 [D8,D9,E0]) w) (fun k=>k [uu,uu,uu] w) fun us31=>pick D6 (gd us31 2) cF K) w) (bin Q .eql 5 false true D1 (cb 2) (fun E3 w=>cond E3 (K qm w) (bin Q .eql 5 false true D1 (cb 3) (fun E6 w=>cond E6 (aJ qm true (fun k42=>ai Q 54 e1 7 (fun E9=>ld Q 24 E9 fun F0=>bin Q .geq 24 false true F0 (cu 1) fun F1=>k42 [E9,F0,F1]) w) (fun k=>k [uu,uu,uu] w) fun us42=>pick qm (gd us42 2) cF K) (bin Q .eql 5 false true D1 (cb 4) (fun F4 w=>cond F4 (ai Q 54 e1 7 (fun F5=>ld Q 24 F5 fun F6=>bin Q .geq 24 false true F6 (cu 1) fun F7 w=>aJ F7 true (fun k52=>ai Q 54 e1 8 (fun F9=>ld Q 24 F9 fun G0=>bin Q .geq 24 false true G0 (cu 1) fun G1=>k52 [F9,G0,G1]) w) (fun k=>k [uu,uu,uu] w) fun us52=>pick F7 (gd us52 2) cF fun G2 w=>aJ G2 true (fun k57=>ai Q 54 e1 7 (fun G4=>ld Q 24 G4 fun G5=>ai Q 54 e1 8 fun G6=>ld Q 24 G6 fun G7=>bin Q .neq 24 false false G5 G7 fun G8=>k57 [G4,G5,G6,G7,G8]) w) (fun k=>k [uu,uu,uu,uu,uu] w) fun us57=>pick G2 (gd us57 4) cF K) w) (bin Q .eql 5 false true D1 (cb 5) (fun H0=>mL K (jO e1 qm qC D1 D2 D8 D9 E0 E9 F0 F1 F9 G0 G1 G4 G5 G6 G7 G8 H0 H1 (zV (zV (zV (zV zf 35 [E3,E3]) 38 [E6,E6]) 46 [F4,F4]) 64 [H0]))) w)) w)) w)) w)):kJ K (jO e1 qm qC D1 D2 D8 D9 E0 E9 F0 F1 F9 G0 G1 G4 G5 G6 G7 G8 G9 H1 zf) w:=by
 delta kJ
 refine Eq.mp (congrArg (fun c=>ae Q c _ _ _ _ w) (by kernel_rfl:(rep [1,1,1,1,1,1,1,1] (cd f79 [1,1,1,0,1,0,1,1,1,1,1,1,1,1,1]) (cd f79 [1,1,1,0,1,0,1]))=(cd f79 [1,1,1,0,1,0,1]))) ?_
 revert h
 delta mL
 generalize (cd f79 [1,1,1,0,1,0,1,1,1,1,1,1,1,1,1])=xc0
 generalize (fc K)=qc0
 exact mpF
theorem AQ (h:cond G9 (aJ qm true (fun j=>j [qC] w) (fun k=>k [uu] w) fun d=>pick qm (gd d 0) cF K) (bin Q .eql 5 false true D1 (cb 6) (fun H2 w=>cond H2 (K qC w) (fc K (jO e1 qm qC D1 D2 D8 D9 E0 E9 F0 F1 F9 G0 G1 G4 G5 G6 G7 G8 G9 H1 (zV zf 69 [H2,H2])) w)) w)):mL K (jO e1 qm qC D1 D2 D8 D9 E0 E9 F0 F1 F9 G0 G1 G4 G5 G6 G7 G8 G9 H1 zf) w:=by
 delta mL;revert h;generalize (fc K)=qc0;exact mpF
theorem AS (h:ai Q 54 e1 3 (fun H3=>ld Q 5 H3 fun H4=>bin Q .eql 5 false true H4 (cb 7) K) w):fc K (jO e1 qm qC D1 D2 D8 D9 E0 E9 F0 F1 F9 G0 G1 G4 G5 G6 G7 G8 G9 H1 zf) w:=by
 delta fc;exact mpK h
end
attribute [irreducible] fc kJ mL
def oQ (e1 i3 F1 F2:Value)(zf:Nat→Value):List Value:=zf 0::e1::zf 2::i3::zT zf 4 40 (F1::F2::zf 46::[])
def jh (K:KV):KE:=ae Q (cd f51 [1,1,1]) (rk f51 K) xf (rk f51 K)
def pZ (K:KV):KE:=ae Q (cd f51 [1,1,0,1,0]) (jh K) (xx xf (jh K) 0) (rk f51 K)
section
variable {K:KV}{e1 i3 F1 F2:Value}{zf:Nat→Value}{w:World}
theorem FF {K:KV}{I:Value}{w:World}(h:box Q 54 I (fun e1 w=>sF 54 e1 0 (fun A1=>sL 3 A1 fun A2=>sti (call Q 77 #[A2]) fun A3=>sti (un Q .not A3) fun A4 w=>aJ A4 false (fun M=>sF 54 e1 1 (fun A6=>sL 24 A6 fun A7=>sti (bin Q .lss 24 false true A7 (cu 1)) fun A8=>M [A6,A7,A8]) w) (fun k=>k [uu,uu,uu] w) fun u=>sti (pick A4 cT (gd u 2)) fun A9 w=>aJ A9 false (fun J=>sF 54 e1 1 (fun C1=>sL 24 C1 fun C2=>sti (bin Q .geq 24 false true C2 (cu 1099511627776)) fun C3=>J [C1,C2,C3]) w) (fun k=>k [uu,uu,uu] w) fun j=>sti (pick A9 cT (gd j 2)) fun C4 w=>aJ C4 false (fun C=>sF 54 e1 0 (fun C6=>sL 3 C6 fun C7=>sti (bin Q .sub 3 false true C7 (ci 1)) fun C8=>sF 54 e1 2 fun C9=>sI 26 C9 C8 fun D0=>sL 24 D0 fun D1=>sF 54 e1 1 fun D2=>sL 24 D2 fun D3=>sti (bin Q .sub 24 false true D3 (cu 1)) fun D4=>sti (bin Q .neq 24 false false D1 D4) fun D5=>C [C6,C7,C8,C9,D0,D1,D2,D3,D4,D5]) w) (fun k=>k [uu,uu,uu,uu,uu,uu,uu,uu,uu,uu] w) fun d=>sti (pick C4 cT (gd d 9)) fun D6 w=>cond D6 (K cF w) (pZ K (oQ e1 (ci 0) uu uu (zV (zV (zV zu 0 [I]) 2 [cF]) 4 [A1,A2,A3,A4,A4,gd u 0,gd u 1,gd u 2,A9,A9,gd j 0,gd j 1,gd j 2,C4,C4,gd d 0,gd d 1,gd d 2,gd d 3,gd d 4,gd d 5,gd d 6,gd d 7,gd d 8,gd d 9,D6])) w)) w.drew) w):Gives Q 51 #[I] w K:=by
 refine aH func51 (by kernel_rfl) ?_;revert h;delta pZ jh;exact mpF
theorem Dz (Inv:Value→World→Prop)(μ:Value→World→Nat)(h0:Inv i3 w)(u:∀(d:Value) (C:Nat→Value) (w:World) (m:Nat),Inv d w→m=μ d w →
  bin Q .lss 3 false true d (ci 6) (fun D8 w=>cond D8 (ai Q 54 e1 2 (fun E2=>aU Q 26 E2 d fun E3=>ld Q 24 E3 fun E4=>bin Q .geq 24 false true E4 (cu 1099511627776) fun E5 w=>cond E5 (K cF w) (nC d (fun E0 w=>(Inv E0 w)∧((μ E0 w)<m)) w)) w) (jh K (oQ e1 d F1 F2 (zV C 30 [d,D8])) w)) w):pZ K (oQ e1 i3 F1 F2 zf) w:=by
 refine aQ (cd f51 [1,1,0,1,0,0]) (zr [(2,2),(30,9)]) (by kernel_rfl) (fun e2 j=>Inv (gd e2 3) j) (fun e2 j=>μ (gd e2 3) j) h0 ?_;intro e' w' hI;have h:=u (gd e' 3) (zM zf (fun i=>gd e' i) (zr [(2,2),(30,9)])) w' _ hI rfl;revert h;generalize (jh K)=qc0;exact mpF
theorem DA (h:aK (fun S w=>hL S 54 e1 fun E6=>hL S 54 e1 fun E7=>call Q 78 #[E7] (fun E8=>bF S fun S w=>hld S (bin Q .eql 54 false false E6 E8) fun E9=>hG E9 true S (ld Q 54 e1) fun F1=>xG E9 true (call Q 79 #[F1]) (fun F2=>aK fun S w=>hld S (pick E9 F2 cF) fun F3=>K F3 w) w) w) w.drew):jh K (oQ e1 i3 F1 F2 zf) w:=by
 delta jh;exact mpK h
end
attribute [irreducible] jh pZ
theorem EA {K:KV}{d e1:Value}{w:World}(h:box Q 26 d (fun nJ=>box Q 54 e1 fun e3 w=>aK (fun S w=>hL S 54 e3 fun A2=>call Q 51 #[A2] (fun A3=>aK fun S w=>hG A3 true S (ai Q 54 e3 1) fun A5=>hG A3 true S (ld Q 24 A5) fun A6=>hG A3 true S (ai Q 54 e3 0) fun A7=>hG A3 true S (ld Q 3 A7) fun A8=>hG A3 true S (bin Q .sub 3 false true A8 (ci 1)) fun A9=>hG A3 true S (aU Q 26 nJ A9) fun C0=>hG A3 true S (ld Q 24 C0) fun C1=>hG A3 true S (bin Q .leq 24 false false A6 C1) fun C2=>hld S (pick A3 C2 cF) fun C3=>K C3 w) w) w.drew) w):Gives Q 52 #[d,e1] w K:=by
 refine aH func52 (by kernel_rfl) ?_;exact mpK h
def pw (e1 nJ e3 i5:Value)(zf:Nat→Value):List Value:=zf 0::e1::nJ::e3::zf 4::i5::zT zf 6 26 ([])
def iS (K:KV):KE:=ae Q (cd f53 [1,1,1]) (rk f53 K) xf (rk f53 K)
def oR (K:KV):KE:=ae Q (cd f53 [1,1,0,1,0]) (iS K) (xx xf (iS K) 0) (rk f53 K)
section
variable {K:KV}{e1 nJ e3 i5:Value}{zf:Nat→Value}{w:World}
theorem DB {K:KV}{d e1:Value}{w:World}(h:box Q 26 d (fun nJ=>box Q 54 e1 fun e3 w=>aK (fun S w=>hL S 54 e3 fun A3=>call Q 51 #[A3] (fun A4=>aK fun S w=>hld S (un Q .not A4) fun A5=>hG A5 false S (ai Q 54 e3 1) fun A7=>hG A5 false S (ld Q 24 A7) fun A8=>hG A5 false S (ai Q 54 e3 0) fun A9=>hG A5 false S (ld Q 3 A9) fun C0=>hG A5 false S (bin Q .sub 3 false true C0 (ci 1)) fun C1=>hG A5 false S (aU Q 26 nJ C1) fun C2=>hG A5 false S (ld Q 24 C2) fun C3=>hG A5 false S (bin Q .add 24 false true C3 (cu 1)) fun C4=>hG A5 false S (bin Q .neq 24 false false A8 C4) fun C5=>hld S (pick A5 cT C5) fun C6=>cond C6 (K cF w) (oR K (pw e1 nJ e3 (ci 0) (zV (zV (zV zu 0 [d]) 4 [cF]) 6 [A3,A4,A5,A5,A7,A8,A9,C0,C1,C2,C3,C4,C5,C6])) w)) w) w.drew) w):Gives Q 53 #[d,e1] w K:=by
 refine aH func53 (by kernel_rfl) ?_;revert h;delta oR iS;exact mpF
theorem BX (Inv:Value→World→Prop)(μ:Value→World→Nat)(h0:Inv i5 w)(u:∀(d:Value) (C:Nat→Value) (w:World) (m:Nat),Inv d w→m=μ d w →
  bin Q .lss 3 false true d (ci 6) (fun C8 w=>cond C8 (sF 54 e3 2 (fun D2=>sI 26 D2 d fun D3=>sL 24 D3 fun D4=>sI 26 nJ d fun D6=>sL 24 D6 fun D7=>sti (bin Q .gtr 24 false false D4 D7) fun D8 w=>cond D8 (K cF w) (nC d (fun D0 w=>(Inv D0 w)∧((μ D0 w)<m)) w)) w.drew) (iS K (pw e1 nJ e3 d (zV C 20 [d,C8])) w)) w):oR K (pw e1 nJ e3 i5 zf) w:=by
 refine aQ (cd f53 [1,1,0,1,0,0]) (zr [(4,2),(20,12)]) (by kernel_rfl) (fun e2 j=>Inv (gd e2 5) j) (fun e2 j=>μ (gd e2 5) j) h0 ?_;intro e' w' hI;have h:=u (gd e' 5) (zM zf (fun i=>gd e' i) (zr [(4,2),(20,12)])) w' _ hI rfl;revert h;generalize (iS K)=qc0;exact mpF
theorem BY (h:K cT w):iS K (pw e1 nJ e3 i5 zf) w:=by
 delta iS;exact mpK h
end
attribute [irreducible] iS oR
end
section
open Go.RowKit
theorem FG {K:KV}{d:Value}{w:World}(h:bin Q .geq 3 false true d (ci 1) (fun A3 w=>aJ A3 true (fun u=>bin Q .leq 3 false true d (ci 6) (fun A6=>u [d,A6]) w) (fun k=>k [uu,uu] w) fun j=>pick A3 (gd j 1) cF K) w):Gives Q 93 #[d] w K:=by
 refine aH func93 (by kernel_rfl) ?_;exact mpK h
def tw (of0 v2 A3:Value)(zf:Nat→Value):List Value:=of0::zf 1::v2::zf 3::A3::zT zf 5 9 ([])
def lu (K:KV):KE:=ae Q (cd f129 [1,1]) (rk f129 K) xf (rk f129 K)
def sa (K:KV):KE:=ae Q (cd f129 [1,0,1,0]) (lu K) (xx xf (lu K) 0) (rk f129 K)
section
variable {K:KV}{of0 v2 A3:Value}{zf:Nat→Value}{w:World}
theorem Im {K:KV}{of0:Value}{w:World}(h:alc Q 26 (fun v2=>sa K (tw of0 v2 (ci 0) zu)) w):Gives Q 129 #[of0] w K:=by
 refine aH func129 (by kernel_rfl) ?_;revert h;delta sa lu;exact mpF
theorem FH (Inv:Value→World→Prop)(μ:Value→World→Nat)(h0:Inv A3 w)(u:∀(d:Value) (C:Nat→Value) (w:World) (m:Nat),Inv d w→m=μ d w →
  bin Q .lss 3 false true d (ci 6) (fun A4 w=>cond A4 (dC Q of0 #[d] (fun A9=>aU Q 26 v2 d fun C0=>sto Q 24 C0 A9 fun _=>nC d fun C1 w=>(Inv C1 w)∧((μ C1 w)<m)) w) (lu K (tw of0 v2 d (zV C 5 [A4])) w)) w):sa K (tw of0 v2 A3 zf) w:=by
 refine aQ (cd f129 [1,0,1,0,0]) (zr [(3,10)]) (by kernel_rfl) (fun e2 j=>Inv (gd e2 4) j) (fun e2 j=>μ (gd e2 4) j) h0 ?_;intro e' w' hI;have h:=u (gd e' 4) (zM zf (fun i=>gd e' i) (zr [(3,10)])) w' _ hI rfl;revert h;generalize (lu K)=qc0;exact mpF
theorem FI (h:ld Q 26 v2 (fun C2=>sto Q 26 v2 C2 fun _=>bM Q [(some 26,v2)] K) w):lu K (tw of0 v2 A3 zf) w:=by
 delta lu;exact mpK h
end
attribute [irreducible] lu sa
def tx (l0 l2 ua A3 kc C5 C6 C7:Value)(zf:Nat→Value):List Value:=l0::zf 1::l2::ua::A3::kc::zT zf 6 10 (C5::C6::C7::zT zf 19 7 ([]))
def lw (K:KV):KE:=ae Q (cd f114 [1,1,1,1]) (rk f114 K) xf (rk f114 K)
def sb (K:KV):KE:=ae Q (cd f114 [1,1,1,0,1,0]) (lw K) (xx xf (lw K) 0) (rk f114 K)
section
variable {K:KV}{l0 l2 ua A3 kc C5 C6 C7:Value}{zf:Nat→Value}{w:World}
theorem Io {K:KV}{l0 d:Value}{w:World}(h:box Q 188 d (fun ua=>alc Q 26 fun A3=>lN 186 l0 fun A8=>bin Q .eql 3 false true A8 (ci 0) fun A9 w=>cond A9 (bld Q 26 #[] (fun C0=>sto Q 26 A3 C0 fun _=>bM Q [(some 26,A3)] K) w) (aU Q 186 l0 (ci 0) (fun C2=>ld Q 26 C2 fun C3=>alc Q 26 fun kc=>sto Q 26 kc C3 fun _=>slc Q 186 l0 (some (ci 1)) none none fun C5=>lN 186 C5 fun C6=>sb K (tx l0 uu ua A3 kc C5 C6 (ci 0) (zV (zV (zV zu 1 [d]) 8 [l0,A8,A9]) 12 [l0,C2,C3,l0]))) w)) w):Gives Q 114 #[l0,d] w K:=by
 refine aH func114 (by kernel_rfl) ?_;revert h;delta sb lw;exact mpF
theorem FJ (Inv:Value→World→Prop)(μ:Value→World→Nat)(h0:Inv C7 w)(C:∀(d:Value) (I:Nat→Value) (w:World) (m:Nat),Inv d w→m=μ d w →
  lS d C6 (fun C8 w=>cond C8 (aU Q 186 C5 d (fun C9=>ld Q 26 C9 fun D0=>alc Q 26 fun u=>sto Q 26 u D0 fun _=>call Q 129 #[Value.func (Fn.func 130) #[] #[ua,kc,u]] fun D1=>sto Q 26 kc D1 fun _=>nC d fun D2 w=>(Inv D2 w)∧((μ D2 w)<m)) w) (lw K (tx l0 l2 ua A3 kc C5 C6 d (zV I 19 [C8])) w)) w):sb K (tx l0 l2 ua A3 kc C5 C6 C7 zf) w:=by
 refine aQ (cd f114 [1,1,1,0,1,0,0]) (zr [(7,1),(18,7)]) (by kernel_rfl) (fun e2 j=>Inv (gd e2 18) j) (fun e2 j=>μ (gd e2 18) j) h0 ?_;intro e' w' hI;have h:=C (gd e' 18) (zM zf (fun i=>gd e' i) (zr [(7,1),(18,7)])) w' _ hI rfl;revert h;generalize (lw K)=qc0;exact mpF
theorem FK (h:ld Q 26 kc (fun D3=>sto Q 26 A3 D3 fun _=>bM Q [(some 26,A3)] K) w):lw K (tx l0 l2 ua A3 kc C5 C6 C7 zf) w:=by
 delta lw;exact mpK h
end
attribute [irreducible] lw sb
theorem FL {K:KV}{d A0 A1 A2:Value}{w:World}(h:aK (fun S w=>hL S 188 A0 fun A5=>hI S 26 A1 d fun A7=>hL S 24 A7 fun A8=>hI S 26 A2 d fun C0=>hL S 24 C0 fun C1=>dC Q A5 #[A8,C1] (fun C2=>aK fun _=>K C2) w) w.drew):Gives Q 130 #[d,A0,A1,A2] w K:=by
 refine aH func130 (by kernel_rfl) ?_;exact mpK h
theorem Ip {K:KV}{l0:Value}{w:World}(h:alc Q 26 (fun A1=>call Q 114 #[l0,Value.func (Fn.func 115) #[] #[]] fun A3=>sto Q 26 A1 A3 fun _=>bM Q [(some 26,A1)] K) w):Gives Q 94 #[l0] w K:=by
 refine aH func94 (by kernel_rfl) ?_;exact mpK h
theorem FM {K:KV}{x0 d:Value}{w:World}(h:blt Q .max #[24,24] 24 #[false,false] #[x0,d] K w):Gives Q 115 #[x0,d] w K:=by
 refine aH func115 (by kernel_rfl) ?_;exact mpK h
theorem Iq {K:KV}{d b1:Value}{w:World}(h:box Q 26 d (fun u=>box Q 26 b1 fun j w=>aK (fun S w=>hL S 26 u fun A4=>hL S 26 j fun A5=>hL S 26 j fun A8=>dl Q 186 2 #[(0,A4),(1,A5)] (fun A6=>bF S fun S=>call Q 94 #[A6] fun A7=>bF S fun S w=>hld S (bin Q .eql 26 false false A7 A8) fun A9=>K A9 w) w) w.drew) w):Gives Q 62 #[d,b1] w K:=by
 refine aH func62 (by kernel_rfl) ?_;exact mpK h
theorem Jr {K:KV}{J gH d:Value}{w:World}(h:box Q 26 J (fun M=>call Q 93 #[gH] fun A7 w=>aJ A7 true (fun C=>bin Q .gtr 24 false true d (cu 0) (fun C0=>C [d,C0]) w) (fun k=>k [uu,uu] w) fun u=>pick A7 (gd u 1) cF fun C1 w=>aJ C1 true (fun I=>bin Q .sub 3 false true gH (ci 1) (fun C4=>aU Q 26 M C4 fun C5=>ld Q 24 C5 fun C6=>bin Q .geq 24 false false C6 d fun C8=>I [gH,C4,C5,C6,d,C8]) w) (fun k=>k [uu,uu,uu,uu,uu,uu] w) fun j=>pick C1 (gd j 5) cF K) w):Gives Q 61 #[J,gH,d] w K:=by
 refine aH func61 (by kernel_rfl) ?_;exact mpK h
end
section
open Go.RowKit
theorem Js {K:KV}{d e1:Value}{w:World}(h:box Q 26 d (fun nJ=>box Q 54 e1 fun e3=>ld Q 54 e3 fun A0=>call Q 38 #[A0] fun A1 w=>aJ A1 true (fun u=>ld Q 26 nJ (fun A2=>ai Q 54 e3 0 fun A3=>ld Q 3 A3 fun A4=>ai Q 54 e3 1 fun A5=>ld Q 24 A5 fun A6=>call Q 61 #[A2,A4,A6] fun A7=>u [A2,A3,A4,A5,A6,A7]) w) (fun k=>k [uu,uu,uu,uu,uu,uu] w) fun j=>pick A1 (gd j 5) cF K) w):Gives Q 39 #[d,e1] w K:=by
 refine aH func39 (by kernel_rfl) ?_;exact mpK h
theorem Ir {K:KV}{d e1:Value}{w:World}(h:box Q 26 d (fun nJ=>box Q 54 e1 fun e3 w=>aK (fun S w=>hL S 54 e3 fun A0=>call Q 38 #[A0] (fun A1=>aK fun S w=>hG A1 true S (ai Q 54 e3 0) fun A2=>hG A1 true S (ld Q 3 A2) fun A3=>hG A1 true S (bin Q .sub 3 false true A3 (ci 1)) fun A4=>hG A1 true S (aU Q 26 nJ A4) fun A5=>hG A1 true S (ld Q 24 A5) fun A6=>hG A1 true S (ai Q 54 e3 1) fun A7=>hG A1 true S (ld Q 24 A7) fun A8=>hG A1 true S (bin Q .sub 24 false true A8 (cu 1)) fun A9=>hG A1 true S (bin Q .eql 24 false false A6 A9) fun C0=>hld S (pick A1 C0 cF) fun C1=>hG C1 true S (ai Q 54 e3 2) fun C2=>hG C1 true S (ld Q 26 C2) fun C3=>hG C1 true S (ld Q 26 nJ) fun C4=>xG C1 true (call Q 62 #[C3,C4]) (fun C5=>aK fun S w=>hld S (pick C1 C5 cF) fun C6=>K C6 w) w) w) w.drew) w):Gives Q 40 #[d,e1] w K:=by
 refine aH func40 (by kernel_rfl) ?_;exact mpK h
end
section
open Go.RowKit
theorem tQ {K:KV}{s0:Value}{w:World}(h:box Q 76 s0 (fun s1=>K (Value.func (Fn.func 190) #[] #[s1])) w):Gives Q 178 #[s0] w K:=by
 refine aH func178 (by kernel_rfl) ?_;exact mpK h
def iD (Y:YB)(l_:Nat)(K:KV):KE:=pS Q Y l_ (cd f190 [1,0]) (rk f190 K) (xx xf (rk f190 K) 0) (rk f190 K)
theorem sw {Y:YB}{j:Nat}{K:KV}{d A0:Value}{w:World}(h:ld Q 76 A0 (fun A1=>lN 76 A1 fun A2=>bin Q .sub 3 false true A2 (ci 1) fun A3=>iD Y j K [d,A0,uu,A3,A1,A2,A3,uu,uu,uu,uu,uu,uu,uu,uu,uu,uu,uu,uu]) w):vS Q Y j 190 [d,A0] w K:=by
 refine Oy (goK func190) func190 (by kernel_rfl) ?_;revert h;delta iD;exact mpF
theorem rA {Y:YB}{I:Nat}{K:KV}{d A0 u i3 A1 A2 A3 A4 A5 A6 A7 A8 A9 C0 C1 C2 C3 C4 C5:Value}{w:World}(M:vG Y)(Inv:Value→World→Prop)(μ:Value→World→Nat)(h0:Inv i3 w)(J:∀(j:Value) (R:Nat→Value) (w:World) (m:Nat),Inv j w→m=μ j w →
  bin Q .geq 3 false true j (ci 0) (fun A5 w=>cond A5 (ld Q 76 A0 (fun C0=>aU Q 76 C0 j fun C2=>ld Q 24 C2 fun C3=>Gz Q Y I d #[j,C3] fun C4=>un Q .not C4 fun C5 w=>cond C5 (K (Value.tuple #[]) w) (bin Q .sub 3 false true j (ci 1) (fun A7 w=>(Inv A7 w)∧((μ A7 w)<m)) w)) w) (K (Value.tuple #[]) w)) w):iD Y I K [d,A0,u,i3,A1,A2,A3,A4,A5,A6,A7,A8,A9,C0,C1,C2,C3,C4,C5] w:=by
 refine GA M (cd f190 [1,0,0]) (zr [(3,1),(7,12)]) (by kernel_rfl) (fun e2 C=>Inv (gd e2 3) C) (fun e2 C=>μ (gd e2 3) C) h0 ?_;intro e' w' hI;have h:=J (gd e' 3) (fun i=>gd e' i) w' _ hI rfl;exact mpK h
attribute [irreducible] iD
theorem tR {K:KV}{s0 v1:Value}{w:World}(h:call Q 191 #[s0,v1] (fun A4=>bin Q .geq 3 false true A4 (ci 0) K) w):Gives Q 179 #[s0,v1] w K:=by
 refine aH func179 (by kernel_rfl) ?_;exact mpK h
def kl (s0 v1 s2 i5 A4 A5:Value)(zf:Nat→Value):List Value:=s0::v1::s2::zf 3::zf 4::i5::zf 6::A4::A5::zT zf 9 10 ([])
def dX (K:KV):KE:=ae Q (cd f191 [1,1]) (rk f191 K) xf (rk f191 K)
def jI (K:KV):KE:=ae Q (cd f191 [1,0,1,0]) (dX K) (xx xf (dX K) 0) (rk f191 K)
section
variable {K:KV}{s0 v1 s2 i5 A4 A5:Value}{zf:Nat→Value}{w:World}
theorem vc {K:KV}{s0 v1:Value}{w:World}(h:lN 76 s0 (fun A4=>jI K (kl s0 v1 uu uu A4 (ci 0) (zV (zV zu 4 [ci 0]) 6 [s0]))) w):Gives Q 191 #[s0,v1] w K:=by
 refine aH func191 (by kernel_rfl) ?_;revert h;delta jI dX;exact mpF
theorem ub (Inv:Value→World→Prop)(μ:Value→World→Nat)(h0:Inv A5 w)(C:∀(d:Value) (u:Nat→Value) (w:World) (m:Nat),Inv d w→m=μ d w →
  lS d A4 (fun A6 w=>cond A6 (aU Q 76 s0 d (fun C1=>ld Q 24 C1 fun C2=>bin Q .eql 24 false false v1 C2 fun C3 w=>cond C3 (K d w) (nC d (fun C5 w=>(Inv C5 w)∧((μ C5 w)<m)) w)) w) (dX K (kl s0 v1 s2 (u 5) A4 d (zV u 9 [A6])) w)) w):jI K (kl s0 v1 s2 i5 A4 A5 zf) w:=by
 refine aQ (cd f191 [1,0,1,0,0]) (zr [(4,2),(8,11)]) (by kernel_rfl) (fun e2 j=>Inv (gd e2 8) j) (fun e2 j=>μ (gd e2 8) j) h0 ?_;intro e' w' hI;have h:=C (gd e' 8) (zM zf (fun i=>gd e' i) (zr [(4,2),(8,11)])) w' _ hI rfl;revert h;generalize (dX K)=qc0;exact mpF
theorem uc (h:K (ci (-1)) w):dX K (kl s0 v1 s2 i5 A4 A5 zf) w:=by
 delta dX;exact mpK h
end
attribute [irreducible] dX jI
end
end Go.Proofs.YtgpfkmdknlcemaaGreatDoor
