import Derived.Test.YtkfgimlaijifaaaGreatDoorQ3
import Derived.Test.YtkfgimlaijifaaaGreatDoorQ5
import Derived.Test.YtkfgimlaijifaaaGreatDoorQ2
import Derived.Test.YtkfgimlaijifaaaGreatDoorQ1
namespace Go.Proofs.YtkfgimlaijifaaaGreatDoor
set_option maxRecDepth 100000
set_option maxHeartbeats 4000000
open Go.Proofs.Tryz
variable {w w' w0:World}{K:KV}{zf:Nat→Value}{b c n o k B i p g m j s z c2 f d hi:Nat}{a av a2:Option Addr}{x r v:Int}{A:List Int}{E t e:TypeId}{cs xs ys vs:List Value}{B1:KE}{P:Program}{T L:List (Int×Int)}{C:Nat→Int}{cx cy:Bool}{P0:List Value→World→Prop}{V0 W0 X0 Y0 Z0 H1 I1 J1 M1 N1 O1 P1 Q1 T1 U1 V1 X1 Z1:Value}
section
open Go.RowKit
/-! ## Plain -/
def G (xs:List Int)(i:Nat):Int:=xs.getD i 0
def swp (xs:List Int)(i j:Nat):List Int:=(xs.set i (G xs j)).set j (G xs i)
theorem zaD {xs:List Int}(hi:i<xs.length)(h:j<xs.length):(swp xs i j).Perm xs:=by
 unfold swp;have e1:G xs j=xs[j]:=by simp[G,List.getD,h]
 have u:G xs i=xs[i]:=by simp[G,List.getD,hi]
 rw[e1,u];exact List.set_set_perm hi h
/-! ## In memory -/
abbrev E64 :TypeId:=31
abbrev uv (x:Int):Value:=.int .u64 x
theorem XI {v x i:Value}(h:(Instr.index t x i).run P w=.ok v w')(j:K v w'):idx P t x i K w:=ey h j
theorem zdx {cs:Array Bool}(h:K (ci (n:Int)) w):blt Q .len #[87] E cs #[.slice a n c] K w:=bh underlying87 h
def SD (w:World)(g n c:Nat)(xs:List Int):Prop:=∃rest,blk w g E64 (xs.map uv++rest)∧xs.length=n∧n≤c∧n≤4611686018427387904
attribute [local irreducible] bin un conv call aZ blt slc ai fld aL idx lkp cP eP eSt rng nxt ent ext alc box bld bg ld sto aJ cr mkS ifc pick rdy wts aG sti cond aV Gives ah dy dP cOp
section
variable {w w':World}{K:KV}{g n c:Nat}{xs:List Int}
theorem SD.drew (h:SD w g n c xs):SD w.drew g n c xs:=h
theorem SD.len (h:SD w g n c xs):xs.length=n:=by obtain⟨_,_,j,_⟩:=h;exact j
theorem Uu :∀w,(sizeOf 31).run Q w=.ok 1 w:=fun _=>by kernel_rfl
theorem iu {k:IntKind}(hi:i<m)(h:K (pA g (0+i*1)) w):aL Q 87 (.slice (some ⟨g,0,none⟩) m c) (.int k (i:Nat)) K w:=by
 refine dQ (s:=1) underlying87 Uu oo oo ?_;rw[Int.toNat_natCast];exact h
theorem ldS (u:SD w g n c xs)(hi:i<n)(h:K (uv (G xs i)) w):ld Q 31 (pA g (0+i*1)) K w:=by
 obtain⟨rest,j,C,_⟩:=u;refine lK j ?_ h;rw[Nat.zero_add,Nat.mul_one,List.getElem?_append_left (by simp;omega),List.getElem?_map,gE oo];simp[G,List.getD,show i<xs.length by omega]
theorem Ht (I:SD w g n c xs)(hi:i<n)(h:∀w',SD w' g n c (xs.set i v)→Oth g w w'→K undef w'):sto Q 31 (pA g (0+i*1)) (uv v) K w:=by
 obtain⟨rest,u,J,C,M⟩:=I;refine cB Uu u (by simp;omega) rfl ?_;intro w' j O;refine h w' ⟨rest,?_,by simp[J],C,M⟩ O;rw[Nat.zero_add,Nat.mul_one,List.set_append_left _ _ (by simp;omega), ←List.map_set]at j;exact j
theorem um {y:Int}(h:K (.bool (decide (x<y))) w):call Q 258 #[uv x,uv y] K w:=by
 refine ak (goK func258) (KG ?_);have j:∀{z:Int} {K':KV},K' (.bool false) w→call Q 180 #[uv z] K' w:=by
  intro z K' u;refine ak (goK func180) (AB ?_);refine aX ?_;rw[decide_eq_false (fun C=>C rfl)];exact u
 refine j ?_
 (repeat (first|refine aK ?_|refine dh ?_|refine nY ?_|refine iZ ?_))
 exact h
theorem bY {a b d:World}(h:Oth g a b)(k:Oth g b d):Oth g a d:=⟨k.os.trans h.os,k.tape.trans h.tape,k.output.trans h.output,k.size.trans h.size,fun i hi=>(k.other i hi).trans (h.other i hi)⟩
theorem bU (h:Oth g w w'):Oth g w w'.drew:=⟨h.os,h.tape,h.output,h.size,h.other⟩
theorem lu (w:World)(g:Nat):Oth g w w:=⟨rfl,rfl,rfl,rfl,fun _ _=>rfl⟩
end
end
section
attribute [local irreducible] bin un conv call aZ blt slc ai fld aL idx lkp cP eP eSt rng nxt ent ext alc box bld bg ld sto aJ cr mkS ifc pick rdy wts aG sti cond aV Gives ah dy dP cOp
section
open Go.RowKit
theorem zaN {xs:List Int}(hi:i<xs.length):G (xs.set i v) k=if k=i then v else G xs k:=by
 unfold G;by_cases h:k=i
 ·subst h;simp[List.getD,hi]
 ·have : ¬i=k:=fun e=>h e.symm
  simp[List.getD,h,this]
theorem DC {xs:List Int}(hi:i<xs.length)(h:j<xs.length):G (swp xs i j) k=if k=j then G xs i else if k=i then G xs j else G xs k:=by
 unfold swp;rw[zaN (by simpa using h),zaN hi]
def Srt (xs:List Int)(a b:Nat):Prop:=∀i,a≤i→i+1<b→G xs i≤G xs (i+1)
structure Rng (a b:Nat) (xs ys:List Int):Prop where
 perm:ys.Perm xs
 out:∀k,k<a∨b≤k→G ys k=G xs k
theorem Rng.refl (a b:Nat)(xs:List Int):Rng a b xs xs:=⟨List.Perm.refl _,fun _ _=>rfl⟩
theorem Rng.trans {a:Nat}{xs ys:List Int}(h:Rng a b xs ys)(k:Rng a b ys A):Rng a b xs A:=⟨k.perm.trans h.perm,fun i hi=>(k.out i hi).trans (h.out i hi)⟩
theorem Rng.len {a:Nat}{xs ys:List Int}(h:Rng a b xs ys):ys.length=xs.length:=h.perm.length_eq
theorem Rng.mono {a:Nat}{xs ys:List Int}(h:Rng a b xs ys)(j:c≤a)(u:b≤d):Rng c d xs ys:=⟨h.perm,fun k C=>h.out k oo⟩
theorem Rng.swp {a:Nat}{xs:List Int}(hi:i<xs.length)(h:j<xs.length)(u:a≤i∧i<b)(C:a≤j∧j<b):Rng a b xs (swp xs i j) :=
 ⟨zaD hi h,fun k I=>by rw[DC hi h,if_neg oo,if_neg oo]⟩
theorem Rng.from {a:Nat}{xs ys:List Int}(h:Rng a b xs ys)(hb:b≤xs.length)(hn:xs.Nodup):∀k,a≤k→k<b→∃j,a≤j∧j<b∧G ys k=G xs j:=by
 intro k hk aa;have hl:=h.len;have e:G ys k=ys[k]'oo:=by simp[G,List.getD,show k<ys.length by omega]
 have hm:G ys k∈xs:=by rw[e];exact h.perm.subset (List.getElem_mem _)
 obtain⟨j,hj,u⟩:=List.getElem_of_mem hm;have M:G xs j=xs[j]:=by simp[G,List.getD,hj]
 by_cases Z:a≤j∧j<b
 ·exact⟨j,Z.1,Z.2,by rw[M,u]⟩
 ·have ho:=h.out j oo;have I:G ys j=ys[j]'oo:=by simp[G,List.getD,show j<ys.length by omega]
  have J:ys.Nodup:=h.perm.nodup_iff.2 hn;have O:ys[j]'oo=ys[k]'oo:=by rw[←I, ←e,ho,M,u]
  have U:=List.pairwise_iff_getElem.1 J;rcases Nat.lt_trichotomy j k with C|C|C
  ·exact absurd O (U j k _ _ C)
  ·omega
  ·exact absurd O.symm (U k j _ _ C)
section
variable {w w':World}{K:KV}{g n c:Nat}{xs:List Int}
theorem ZN {a:Nat}(hd:SD w g n c xs)(az:a≤b)(hb:b≤n)(h:∀w' ys,SD w' g n c ys→Oth g w w'→Rng a b xs ys→Srt ys a b→K (.tuple #[]) w'):call Q 252 #[.slice (some ⟨g,0,none⟩) n c,ci (a:Nat),ci (b:Nat)] K w:=by
 have hm:n≤4611686018427387904:=by obtain⟨_,_,_,_,hm⟩:=hd;exact hm
 refine ak (goK func252) (oF ?_)
 (repeat (first|refine aM oo oo ?_))
 refine nR (Inv:=fun i wr=>∃(p:Nat) (ys:List Int),i=ci (p:Nat)∧a+1≤p∧(p≤b∨p=a+1)∧SD wr g n c ys∧Oth g w wr∧Rng a b xs ys∧Srt ys a p)
  (μ:=fun i _=>b-(intOf i).toNat) ⟨a+1,xs,by simp,Nat.le_refl _,.inr rfl,hd,lu _ _,Rng.refl _ _ _,fun i J h2=>by omega⟩ ?_
 rintro _ _ w1 m ⟨p,ys,rfl,aS,a0,aa,o1,r1,s1⟩ ag;by_cases a1:p<b
 rotate_left
 ·(repeat (first|refine aK ?_|refine ao oo ?_))
  exact h w1 ys aa o1 r1 (fun i J h2=>s1 i J oo)
 (repeat (first|refine aK ?_|refine ax oo ?_))
 refine uD (Inv:=fun j wr=>∃(q:Nat) (C:List Int),j=ci (q:Nat)∧a≤q∧q≤p∧SD wr g n c C∧Oth g w wr∧Rng a b xs C ∧
   (∀i,a≤i→i+1≤p→i+1≠q→G C i≤G C (i+1))∧(a<q→q<p→G C (q-1)≤G C (q+1)))
  (μ:=fun j _=>(intOf j).toNat) ⟨p,ys,rfl,by omega,Nat.le_refl _,aa,o1,r1,fun i J h2 h3=>s1 i J oo,fun _ h=>by omega⟩ ?_
 rintro _ _ w2 m2 ⟨q,C,rfl,a2,a3,ad,o2,r2,M,av⟩ ap;have I:=ad.drew;refine ac (fun _=>bO) ?_;by_cases ar:a<q
 ·have Z:((q:Nat):Int)-1=((q-1:Nat):Int):=by omega
  have al:q<C.length:=by rw[ad.len];omega
  refine cU oo <|ac (fun _=>iu oo) <|ac (fun _=>ldS I oo) <|ac (fun _=>ba oo oo) ?_;rw[Z];refine ac (fun _=>iu oo) <|ac (fun _=>ldS I oo) <|ac (fun _=>um) <|ac (fun _=>bA oo) ?_;by_cases af:G C q<G C (q-1)
  ·refine ax af <|au (fun x=>SD x g n c C) I.drew <|ab (fun x O _=>ba oo oo) <|ab (fun x O _=>ba oo oo) ?_;rw[Z];refine ab (fun x O _=>iu oo) <|ab (fun x O _=>ldS O oo) <|ab (fun x O _=>iu oo) <|ab (fun x O _=>ldS O oo) <|ab (fun x O _=>iu oo) <|Ht I.drew oo ?_;intro w3 am o3
   refine au (fun _=>True) trivial <|ab (fun x O _=>iu oo) <|Ht am oo ?_;intro w4 an o4;refine ba oo oo ?_;have U:q-1<C.length:=by omega
   have gs:=fun k=>DC (k:=k) al U;refine⟨⟨q-1,swp C q (q-1),by rw[Z],by omega,by omega,an,bY (bY (bU (bU o2)) o3) o4,r2.trans (Rng.swp al U oo oo),fun i J h2 h3=>?_,fun J h2=>?_⟩,?_⟩
   ·rw[gs,gs];by_cases i1:i=q-1
    ·subst i1;rw[if_pos rfl,if_neg oo,if_pos oo];omega
    by_cases i2:i=q
    ·subst i2;rw[if_neg i1,if_pos rfl,if_neg oo,if_neg oo];exact av ar oo
    by_cases i3:i+1=q-1
    ·omega
    rw[if_neg i1,if_neg i2,if_neg i3,if_neg oo];exact M i J h2 oo
   ·rw[gs,gs];rw[if_neg oo,if_neg oo,if_neg oo,if_pos oo]
    have:=M (q-1-1) oo oo oo
    rw[show q-1-1+1=q-1 by omega]at this;exact this
   ·rw[ap];show (intOf (ci ((q:Int)-1))).toNat<_;simp only[intOf];omega
  ·refine ao af <|nS ?_
   (repeat (first|refine aM oo oo ?_))
   refine⟨⟨p+1,C,(show Value.int .i64 ((p:Int)+1)=_ by simp),by omega,.inl oo,I,bU o2,r2,fun i J h2=>?_⟩,by rw[ag];show b-(intOf (ci ((p:Int)+1))).toNat<_;simp only[intOf];omega⟩;by_cases hi:i+1=q
   ·have:i=q-1:=by omega
    rw[hi,this];omega
   ·exact M i J oo hi
 ·refine eB oo <|ac (fun _=>bj oo) <|aF <|nS ?_
  (repeat (first|refine aM oo oo ?_))
  exact⟨⟨p+1,C,(show Value.int .i64 ((p:Int)+1)=_ by simp),by omega,.inl oo,I,bU o2,r2,fun i J h2=>M i J oo oo⟩,by rw[ag];show b-(intOf (ci ((p:Int)+1))).toNat<_;simp only[intOf];omega⟩
end
section
variable {w w':World}{K:KV}{g n c:Nat}{xs:List Int}
theorem zeP {a:Nat}(Z:SD w g n c xs)(hb:b≤n)(h:∀w' ys,SD w' g n c ys→Oth g w w'→Rng a b xs ys→K (.tuple #[]) w'):call Q 256 #[.slice (some ⟨g,0,none⟩) n c,ci (a:Nat),ci (b:Nat)] K w:=by
 have hm:n≤4611686018427387904:=by obtain⟨_,_,_,_,hm⟩:=Z;exact hm
 refine ak (goK func256) (wy ?_);refine ba oo oo ?_;refine uO (Inv:=fun i j wr=>∃(p:Nat) (q:Int) (ys:List Int),i=ci (p:Nat)∧j=ci q∧a≤p∧(p:Int)≤q+2+a∧-1≤q∧q<b∧SD wr g n c ys∧Oth g w wr∧Rng a b xs ys)
  (μ:=fun i j _=>(intOf j+1).toNat) ⟨a,(b:Int)-1,xs,rfl,rfl,Nat.le_refl _,by omega,by omega,by omega,Z,lu _ _,Rng.refl _ _ _⟩ ?_
 rintro _ _ _ w1 m ⟨p,q,ys,rfl,rfl,hp,aa,ad,af,C,o1,r1⟩ U;refine aK ?_;by_cases J:(p:Int)<q
 rotate_left
 ·refine ao J ?_;exact h w1 ys C o1 r1
 refine ax J ?_;obtain⟨k,rfl⟩:=Int.eq_ofNat_of_zero_le (show 0≤q by omega);have hl:=C.len;refine au (fun x=>SD x g n c ys) C.drew <|ab (fun x I _=>iu oo) <|ab (fun x I _=>ldS I oo) <|ab (fun x I _=>iu oo) <|ab (fun x I _=>ldS I oo) <|ab (fun x I _=>iu oo) <|Ht C.drew oo ?_;intro w3 M o3
 refine au (fun _=>True) trivial <|ab (fun x I _=>iu oo) <|Ht M oo ?_;intro w4 O o4;refine aM oo oo <|ba oo oo ?_;refine⟨⟨p+1,(k:Int)-1,swp ys p k,by simp,rfl,by omega,by omega,by omega,by omega,O,bY (bY (bU o1) o3) o4,r1.trans (Rng.swp oo oo oo oo)⟩,?_⟩;rw[U];simp only[intOf];omega
end
end
end
section
open Go.RowKit
structure PIs (zs:List Int) (a b i j:Nat):Prop where
 hi:a+1≤i
 hj:a≤j∧j<b
 ij:i≤j+1
 lo:∀k,a<k→k<i→G zs k<G zs a
 up:∀k,j<k→k<b→G zs a≤G zs k
structure PR (ys:List Int) (a b m:Nat):Prop where
 hm:a≤m∧m<b
 lo:∀k,a≤k→k<m→G ys k<G ys m
 up:∀k,m<k→k<b→G ys m≤G ys k
theorem PIs.done {a:Nat}(h:PIs A a b i j)(M : ¬i≤j)(hb:b≤A.length):PR (swp A j a) a b j:=by
 have U:=h.hi;have J:=h.hj;have Z:=h.ij;have C:=fun k=>DC (xs:=A) (i:=j) (j:=a) (k:=k) oo oo;refine⟨J,fun k I O=>?_,fun k I u=>?_⟩
 ·rw[C,C];by_cases e:k=a
  ·rw[if_pos e,if_neg oo,if_pos rfl];exact h.lo j oo oo
  ·rw[if_neg e,if_neg oo,if_neg oo,if_pos rfl];exact h.lo k oo oo
 ·rw[C,C];rw[if_neg (c:=k=a) oo,if_neg (c:=k=j) oo];by_cases e:j=a
  ·rw[if_pos e,e]
   have:=h.up k oo u
   exact this
  ·rw[if_neg e,if_pos rfl];exact h.up k I u
theorem PIs.swap {a:Nat}(h:PIs A a b i j)(M:i≤j)(hb:b≤A.length)(hi : ¬G A i<G A a)(I:G A j<G A a):PIs (swp A i j) a b (i+1) (j-1)∧i<j:=by
 have Z:=h.hi;have h2:=h.hj;have h3:=h.ij;have U:i≠j:=by rintro rfl;exact hi I
 have u:=fun k=>DC (xs:=A) (i:=i) (j:=j) (k:=k) oo oo;have ga:G (swp A i j) a=G A a:=by rw[u,if_neg oo,if_neg oo]
 refine⟨⟨by omega,by omega,by omega,fun k J O=>?_,fun k J C=>?_⟩,by omega⟩
 ·rw[ga,u,if_neg oo];by_cases e:k=i
  ·rw[if_pos e];exact I
  ·rw[if_neg e];exact h.lo k J oo
 ·rw[ga,u];by_cases e:k=j
  ·rw[if_pos e];omega
  ·rw[if_neg e,if_neg oo];exact h.up k oo C
end
section
attribute [local irreducible] bin un conv call aZ blt slc ai fld aL idx lkp cP eP eSt rng nxt ent ext alc box bld bg ld sto aJ cr mkS ifc pick rdy wts aG sti cond aV Gives ah dy dP cOp
section
open Go.RowKit
section
variable {w w':World}{K:KV}{g n c:Nat}{xs:List Int}
theorem M5 {K2:Value→Value→Value→Value→Value→Value→World→Prop}(hd:SD w g n c xs)(hi:i<n)(Z:j<n)(h:∀w',SD w' g n c (swp xs i j)→Oth g w w'→K2 (pA g (0+j*1)) (uv (G xs j)) (pA g (0+i*1)) (uv (G xs i)) (pA g (0+i*1)) (pA g (0+j*1)) w'):aE (fun S w =>
   hld S (fun k w=>aL Q 87 (.slice (some ⟨g,0,none⟩) n c) (ci (j:Nat)) k w) (fun I =>
   hld S (fun k w=>ld Q 31 I k w) (fun J =>
   hld S (fun k w=>aL Q 87 (.slice (some ⟨g,0,none⟩) n c) (ci (i:Nat)) k w) (fun t24 =>
   hld S (fun k w=>ld Q 31 t24 k w) (fun M =>
   hld S (fun k w=>aL Q 87 (.slice (some ⟨g,0,none⟩) n c) (ci (i:Nat)) k w) (fun O =>
   sto Q 31 O J (fun _t w =>
   aE (fun S w =>
   hld S (fun k w=>aL Q 87 (.slice (some ⟨g,0,none⟩) n c) (ci (j:Nat)) k w) (fun U =>
   sto Q 31 U M (fun _t w=>K2 I J t24 M O U w) w)) w) w)))))) w.drew:=by
 refine au (fun x=>SD x g n c xs) hd.drew <|ab (fun x C _=>iu Z) <|ab (fun x C _=>ldS C Z) <|ab (fun x C _=>iu hi) <|ab (fun x C _=>ldS C hi) <|ab (fun x C _=>iu hi) <|Ht hd.drew hi ?_;intro w3 aa o3;refine au (fun _=>True) trivial <|ab (fun x C _=>iu Z) <|Ht aa Z ?_;intro w4 ad o4;exact h w4 ad (bY (bY (bU (lu _ _)) o3) o4)
theorem zcd {a:Nat}(e0:V0=.slice (some ⟨g,0,none⟩) n c)(e1:W0=ci (a:Nat))(af:X0=ci (i:Nat))(ag:Y0=ci (j:Nat))(hd:SD w g n c xs)(hb:b≤n)(q:PIs xs a b i j)(hB:∀e w' (J M:Nat),gd e 10=ci ((J:Int)+1)→gd e 11=ci ((M:Int)-1)→i≤J→M≤j→J<M→SD w' g n c (swp xs J M)→Oth g w w'→PIs (swp xs J M) a b (J+1) (M-1)→P0 e w')(al:∀{j:Nat} {wz:World} {f:Bool},SD wz g n c (swp xs j a)→Oth g w wz→PIs xs a b (j+1) j→K (.tuple #[ci (j:Nat),.bool f]) wz):gI K P0 ((aD V0 W0 X0 Y0 zf)) w:=by
 subst e0 e1 af ag;have hm:n≤4611686018427387904:=by obtain⟨_,_,_,_,hm⟩:=hd;exact hm
 have lz:=hd.len;refine wQ (Inv:=fun J wr=>∃q:Nat,J=ci (q:Nat)∧i≤q∧PIs xs a b q j∧SD wr g n c xs∧Oth g w wr) (μ:=fun i _=>b-(intOf i).toNat) ⟨i,rfl,Nat.le_refl _,q,hd,lu _ _⟩ ?_;rintro _ _ w2 m2 ⟨i,rfl,am,U,Z,o2⟩ ap;have a1:=U.hi;have a3:=U.hj;have az:=U.ij
 have C:∀{w3:World},SD w3 g n c xs→Oth g w w3→(¬i≤j∨¬G xs i<G xs a)→∀{V0 W0 X0 Y0:Value} {zf:Nat→Value},V0=.slice (some ⟨g,0,none⟩) n c→W0=ci (a:Nat)→X0=ci (i:Nat)→Y0=ci (j:Nat)→cJ K P0 ((aD V0 W0 X0 Y0 zf)) w3:=by
  intro w3 d3 o3 av
  intros
  rename_i e1 e2 e3 e4;subst e1 e2 e3 e4;refine wV <|wR (Inv:=fun M wr=>∃q:Nat,M=ci (q:Nat)∧q≤j∧PIs xs a b i q∧SD wr g n c xs∧Oth g w wr) (μ:=fun j _=>(intOf j).toNat) ⟨j,rfl,Nat.le_refl _,U,d3,o3⟩ ?_;rintro _ _ w4 m4 ⟨j,rfl,an,O,d4,o4⟩ ar;have a2:=O.hi;have a4:=O.hj;have aS:=O.ij
  have I:∀{w5:World},SD w5 g n c xs→Oth g w w5→(¬i≤j∨G xs j<G xs a)→∀{V0 W0 X0 Y0:Value} {zf:Nat→Value},V0=.slice (some ⟨g,0,none⟩) n c→W0=ci (a:Nat)→X0=ci (i:Nat)→Y0=ci (j:Nat)→cK K P0 ((aD V0 W0 X0 Y0 zf)) w5:=by
   intro w5 d5 o5 ad
   intros
   rename_i e1 e2 e3 e4;subst e1 e2 e3 e4;refine wW <|bO ?_;by_cases a0:j<i
   ·refine ax oo <|wU <|M5 (i:=j) (j:=a) d5 oo oo ?_;intro w6 d6 o6
    have:i=j+1:=by omega
    subst this;exact al d6 (bY o5 o6) O
   ·refine ao oo <|M5 (i:=i) (j:=j) d5 oo oo ?_;intro w6 d6 o6;obtain⟨q6,aa⟩:=O.swap oo oo (av.resolve_left oo) (ad.resolve_left oo);refine aM oo oo <|ba oo oo ?_;exact hB _ _ i j rfl rfl am an aa d6 (bY o5 o6) q6
  refine ac (fun _=>gJ) ?_;by_cases c4:i≤j
  ·refine cU oo <|ac (fun _=>iu oo) <|ac (fun _=>ldS d4.drew oo) <|ac (fun _=>iu oo) <|ac (fun _=>ldS d4.drew oo) <|ac (fun _=>um) <|ac (fun _=>wZ) <|ac (fun _=>bA oo) ?_;by_cases u:G xs j<G xs a
   ·refine ao oo ?_;exact I d4.drew (bU o4) (.inr u) rfl rfl rfl rfl
   ·refine ax oo <|ba oo oo ?_;refine⟨⟨j-1,by show Value.int .i64 _=Value.int .i64 _;congr 1;omega,by omega,⟨O.hi,by omega,by omega,O.lo,fun k h1 h2=>?_⟩,d4.drew,bU o4⟩,by rw[ar];show (intOf (ci ((j:Int)-1))).toNat<_;simp only[intOf];omega⟩;by_cases e:k=j
    ·rw[e];omega
    ·exact O.up k oo h2
  ·refine eB oo <|ac (fun _=>bj oo) <|aF ?_;exact I d4.drew (bU o4) (.inl c4) rfl rfl rfl rfl
 refine ac (fun _=>gJ) ?_;by_cases c2:i≤j
 ·refine cU oo <|ac (fun _=>iu oo) <|ac (fun _=>ldS Z.drew oo) <|ac (fun _=>iu oo) <|ac (fun _=>ldS Z.drew oo) <|ac (fun _=>um) <|ac (fun _=>bA oo) ?_;by_cases u:G xs i<G xs a
  ·refine ax u <|aM oo oo ?_;refine⟨⟨i+1,(show Value.int .i64 ((i:Int)+1)=_ by simp),by omega,⟨by omega,U.hj,by omega,fun k h1 h2=>?_,U.up⟩,Z.drew,bU o2⟩,by rw[ap];show b-(intOf (ci ((i:Int)+1))).toNat<_;simp only[intOf];omega⟩;by_cases e:k=i
   ·rw[e];exact u
   ·exact U.lo k h1 oo
  ·refine ao u ?_;exact C Z.drew (bU o2) (.inr u) rfl rfl rfl rfl
 ·refine eB oo <|ac (fun _=>bj oo) <|aF ?_;exact C Z.drew (bU o2) (.inl c2) rfl rfl rfl rfl
theorem zdN {a:Nat}(hd:SD w g n c xs)(a0:a≤p)(a9:p<b)(hb:b≤n)(h:∀w' ys m f,SD w' g n c ys→Oth g w w'→Rng a b xs ys→PR ys a b m→K (.tuple #[ci (m:Nat),.bool f]) w'):call Q 260 #[.slice (some ⟨g,0,none⟩) n c,ci (a:Nat),ci (b:Nat),ci (p:Nat)] K w:=by
 have hm:n≤4611686018427387904:=by obtain⟨_,_,_,_,hm⟩:=hd;exact hm
 have a8:=hd.len;refine ak (goK func260) (xQ ?_);refine M5 (i:=a) (j:=p) hd oo oo ?_;intro w1 d1 o1;have r1:Rng a b xs (swp xs a p):=Rng.swp oo oo oo oo;obtain⟨zs,ar⟩:∃zs,swp xs a p=zs:=⟨_,rfl⟩
 rw[ar]at d1 r1;have lz:=d1.len;have af:∀{z:List Int} {j:Nat} {wz:World} {f:Bool},SD wz g n c (swp z j a)→Oth g w wz→Rng a b xs z→PIs z a b (j+1) j→K (.tuple #[ci (j:Nat),.bool f]) wz:=by
  intro z j wz f d o r q;have hl:=r.len;have hj:=q.hj;exact h wz _ j f d o (r.trans (Rng.swp oo oo oo oo)) (q.done oo oo)
 refine aM oo oo <|ba oo oo <|wM (Inv:=fun i wr=>∃q:Nat,i=ci (q:Nat)∧PIs zs a b q (b-1)∧SD wr g n c zs∧Oth g w1 wr) (μ:=fun i _=>b-(intOf i).toNat) ⟨a+1,by simp,⟨Nat.le_refl _,by omega,by omega,fun k h1 h2=>by omega,fun k h1 h2=>by omega⟩,d1,lu _ _⟩ ?_;rintro _ _ w2 m2 ⟨i,rfl,q2,d2,o2⟩ al;have a3:=q2.hi;have a5:=q2.hj;have av:=q2.ij
 have O:∀{w3:World},SD w3 g n c zs→Oth g w1 w3→(¬i≤b-1∨¬G zs i<G zs a)→∀{C a1 J M:Value} {zf:Nat→Value},C=.slice (some ⟨g,0,none⟩) n c→a1=ci (a:Nat)→J=ci (i:Nat)→M=ci ((b:Int)-1)→cE K ((aD C a1 J M zf)) w3:=by
  intro w3 d3 o3 ap
  intros
  rename_i e1 e2 e3 e4;subst e1 e2 e3 e4;refine wS <|wN (Inv:=fun j wr=>∃q:Nat,j=ci (q:Nat)∧q≤b-1∧PIs zs a b i q∧SD wr g n c zs∧Oth g w1 wr) (μ:=fun j _=>(intOf j).toNat) ⟨b-1,by congr 1;omega,Nat.le_refl _,q2,d3,o3⟩ ?_;rintro _ _ w4 m4 ⟨j,rfl,a7,Z,d4,o4⟩ am;have a4:=Z.hi;have a6:=Z.hj;have az:=Z.ij
  have U:∀{w5:World},SD w5 g n c zs→Oth g w1 w5→(¬i≤j∨G zs j<G zs a)→∀{C a1 J M:Value} {zf:Nat→Value},C=.slice (some ⟨g,0,none⟩) n c→a1=ci (a:Nat)→J=ci (i:Nat)→M=ci (j:Nat)→cH K ((aD C a1 J M zf)) w5:=by
   intro w5 d5 o5 ag
   intros
   rename_i e1 e2 e3 e4;subst e1 e2 e3 e4;refine wT <|bO ?_;by_cases a2:j<i
   ·refine ax oo <|M5 (i:=j) (j:=a) d5 oo oo ?_;intro w6 d6 o6
    have:i=j+1:=by omega
    subst this;exact af d6 (bY (bY o1 o5) o6) r1 Z
   ·refine ao oo <|M5 (i:=i) (j:=j) d5 oo oo ?_;intro w6 d6 o6;obtain⟨q6,aS⟩:=Z.swap oo oo (ap.resolve_left oo) (ag.resolve_left oo);have r6:=r1.trans (Rng.swp (xs:=zs) (i:=i) (j:=j) oo oo oo oo);refine wL <|aM oo oo <|ba oo oo ?_
    refine wO (Inv:=fun i j wr=>∃(i' j':Nat) (z:List Int),i=ci (i':Nat)∧j=ci (j':Nat)∧PIs z a b i' j'∧SD wr g n c z∧Oth g w wr∧Rng a b xs z)
     (μ:=fun i j _=>(intOf j+2-intOf i).toNat) ⟨i+1,j-1,swp zs i j,by simp,by congr 1;omega,q6,d6,bY (bY o1 o5) o6,r6⟩ ?_
    rintro _ _ _ w7 m7 ⟨i7,j7,z,rfl,rfl,q7,d7,o7,r7⟩ an;have bb:=d7.len;refine zcd rfl rfl rfl rfl d7 hb q7 ?_ (fun d o q=>af d (bY o7 o) r7 q);intro e w8 i8 j8 aa ad h1 h2 h3 d8 o8 q8
    have:=q7.hi
    have:=q7.hj
    refine⟨⟨i8+1,j8-1,swp z i8 j8,by rw[aa];simp,by rw[ad];congr 1;omega,q8,d8,bY o7 o8,r7.trans (Rng.swp oo oo oo oo)⟩,?_⟩;show (intOf (gd e 11)+2-intOf (gd e 10)).toNat<_;rw[aa,ad,an];simp only[intOf];omega
  refine ac (fun _=>gJ) ?_;by_cases c4:i≤j
  ·refine cU oo <|ac (fun _=>iu oo) <|ac (fun _=>ldS d4.drew oo) <|ac (fun _=>iu oo) <|ac (fun _=>ldS d4.drew oo) <|ac (fun _=>um) <|ac (fun _=>wZ) <|ac (fun _=>bA oo) ?_;by_cases I:G zs j<G zs a
   ·refine ao oo ?_;exact U d4.drew (bU o4) (.inr I) rfl rfl rfl rfl
   ·refine ax oo <|ba oo oo ?_;refine⟨⟨j-1,by show Value.int .i64 _=Value.int .i64 _;congr 1;omega,by omega,⟨Z.hi,by omega,by omega,Z.lo,fun k h1 h2=>?_⟩,d4.drew,bU o4⟩,by rw[am];show (intOf (ci ((j:Int)-1))).toNat<_;simp only[intOf];omega⟩;by_cases e:k=j
    ·rw[e];omega
    ·exact Z.up k oo h2
  ·refine eB oo <|ac (fun _=>bj oo) <|aF ?_;exact U d4.drew (bU o4) (.inl c4) rfl rfl rfl rfl
 refine ac (fun _=>gJ) ?_;by_cases c2:i≤b-1
 ·refine cU oo <|ac (fun _=>iu oo) <|ac (fun _=>ldS d2.drew oo) <|ac (fun _=>iu oo) <|ac (fun _=>ldS d2.drew oo) <|ac (fun _=>um) <|ac (fun _=>bA oo) ?_;by_cases I:G zs i<G zs a
  ·refine ax I <|aM oo oo ?_;refine⟨⟨i+1,(show Value.int .i64 ((i:Int)+1)=_ by simp),⟨by omega,q2.hj,by omega,fun k h1 h2=>?_,q2.up⟩,d2.drew,bU o2⟩,by rw[al];show b-(intOf (ci ((i:Int)+1))).toNat<_;simp only[intOf];omega⟩;by_cases e:k=i
   ·rw[e];exact I
   ·exact q2.lo k h1 oo
  ·refine ao I ?_;exact O d2.drew (bU o2) (.inr I) rfl rfl rfl rfl
 ·refine eB oo <|ac (fun _=>bj oo) <|aF ?_;exact O d2.drew (bU o2) (.inl c2) rfl rfl rfl rfl
end
def chi (i c:Nat):Prop:=c=2*i+1∨c=2*i+2
def Hp (xs:List Int)(f lo hi:Nat):Prop:=∀i c,lo≤i→chi i c→c<hi→G xs (f+c)≤G xs (f+i)
structure HI (xs:List Int) (f lo hi r:Nat):Prop where
 own:∀i c,lo≤i→i≠r→chi i c→c<hi→G xs (f+c)≤G xs (f+i)
 far:∀p c,lo≤p→chi p r→chi r c→c<hi→G xs (f+c)≤G xs (f+p)
theorem HI.start {xs:List Int}{lo:Nat}(h:Hp xs f (lo+1) hi):HI xs f lo hi lo :=
 ⟨fun i c u j C I=>h i c oo C I,fun p c u j=>by unfold chi at j;omega⟩
theorem HI.stop {xs:List Int}{lo r:Nat}(h:HI xs f lo hi r)(I:∀c,chi r c→c<hi→G xs (f+c)≤G xs (f+r)):Hp xs f lo hi:=by
 intro i c C j u;by_cases e:i=r
 ·rw[e]at j ⊢; exact I c j u
 ·exact h.own i c C e j u
theorem HI.swap {xs:List Int}{lo r:Nat}(h:HI xs f lo hi r)(aa:lo≤r)(hf:f+hi≤xs.length)(C:chi r c)(U:c<hi)(ad:G xs (f+r)<G xs (f+c))(hs:∀M,chi r M→M<hi→G xs (f+M)≤G xs (f+c)):HI (swp xs (f+r) (f+c)) f lo hi c:=by
 have I:=fun k=>DC (xs:=xs) (i:=f+r) (j:=f+c) (k:=k) (by unfold chi at C;omega) oo;refine⟨fun i d O h2 u J=>?_,fun p d O h2 u J=>?_⟩
 ·rw[I,I];by_cases ei:i=r
  ·subst ei;rw[if_neg (c:=f+i=f+c) oo,if_pos rfl];by_cases Z:d=c
   ·rw[if_pos oo];omega
   ·rw[if_neg oo,if_neg (by unfold chi at u;omega)];exact hs d u J
  ·rw[if_neg (c:=f+i=f+c) oo,if_neg (c:=f+i=f+r) oo,if_neg (by unfold chi at u C;omega)];by_cases Z:d=r
   ·rw[if_pos oo];subst Z;exact h.far i c O u C U
   ·rw[if_neg oo];exact h.own i d O ei u J
 ·have ep:p=r:=by unfold chi at h2 C;omega
  subst ep;rw[I,I];rw[if_neg (c:=f+p=f+c) (by unfold chi at C;omega),if_pos rfl,if_neg (by unfold chi at u;omega),if_neg (by unfold chi at u C;omega)];exact h.own c d (by unfold chi at C;omega) (by unfold chi at C;omega) u J
theorem Hp.top {xs:List Int}(h:Hp xs f 0 hi):∀k,k<hi→G xs (f+k)≤G xs f:=by
 intro k
 induction k using Nat.strongRecOn with
 | _ k ih =>
  intro j;by_cases e:k=0
  ·rw[e,Nat.add_zero];exact Int.le_refl _
  ·have u:=h ((k-1) / 2) k oo (by unfold chi;omega) j;have C:=ih ((k-1) / 2) oo oo;omega
section
variable {w w':World}{K:KV}{g n c:Nat}{xs:List Int}
theorem Ik {K2:Value→Value→Value→Value→Value→Value→World→Prop}(hd:SD w g n c xs)(hi:i<n)(Z:j<n)(h:∀w',SD w' g n c (swp xs i j)→Oth g w w'→K2 (pA g (0+j*1)) (uv (G xs j)) (pA g (0+i*1)) (uv (G xs i)) (pA g (0+i*1)) (pA g (0+j*1)) w'):hld (fun x=>SD x g n c xs) (fun k w=>aL Q 87 (.slice (some ⟨g,0,none⟩) n c) (ci (j:Nat)) k w) (fun I =>
   hld (fun x=>SD x g n c xs) (fun k w=>ld Q 31 I k w) (fun J =>
   hld (fun x=>SD x g n c xs) (fun k w=>aL Q 87 (.slice (some ⟨g,0,none⟩) n c) (ci (i:Nat)) k w) (fun t24 =>
   hld (fun x=>SD x g n c xs) (fun k w=>ld Q 31 t24 k w) (fun M =>
   hld (fun x=>SD x g n c xs) (fun k w=>aL Q 87 (.slice (some ⟨g,0,none⟩) n c) (ci (i:Nat)) k w) (fun O =>
   sto Q 31 O J (fun _t w =>
   aE (fun S w =>
   hld S (fun k w=>aL Q 87 (.slice (some ⟨g,0,none⟩) n c) (ci (j:Nat)) k w) (fun U =>
   sto Q 31 U M (fun _t w=>K2 I J t24 M O U w) w)) w) w))))):=by
 refine ab (fun x C _=>iu Z) <|ab (fun x C _=>ldS C Z) <|ab (fun x C _=>iu hi) <|ab (fun x C _=>ldS C hi) <|ab (fun x C _=>iu hi) <|Ht hd hi ?_;intro w3 aa o3;refine au (fun _=>True) trivial <|ab (fun x C _=>iu Z) <|Ht aa Z ?_;intro w4 ad o4;exact h w4 ad (bY o3 o4)
theorem CH (a b:Nat):(a:Int)+(b:Int)=((a+b:Nat):Int):=rfl
theorem yi (a:Nat):(a:Int)+1=((a+1:Nat):Int):=rfl
theorem zen (a:Nat):(2:Int)*(a:Int)=((2*a:Nat):Int):=by omega
theorem uQ {a:Nat}(h:0<a):(a:Int)-1=((a-1:Nat):Int):=by omega
theorem T7 {a:Nat}(h:b≤a):(a:Int)-(b:Int)=((a-b:Nat):Int):=by omega
theorem Rt {lo r ch:Nat}(U:V0=.slice (some ⟨g,0,none⟩) n c)(Z:X0=ci (f:Nat))(e8:Y0=ci (r:Nat))(e9:Z0=ci (ch:Nat))(C:SD w g n c xs)(hb:f+hi≤n)(hr:r<hi)(hc:chi r ch)(aa:ch<hi)(hs:∀I,chi r I→I<hi→G xs (f+I)≤G xs (f+ch))(h:∀w',¬G xs (f+r)<G xs (f+ch)→SD w' g n c xs→Oth g w w'→K (.tuple #[]) w')(hB:∀e w',gd e 8=ci (ch:Nat)→G xs (f+r)<G xs (f+ch)→SD w' g n c (swp xs (f+r) (f+ch))→Oth g w w'→P0 e w'):cS K P0 ((jC V0 W0 X0 Y0 Z0 zf)) w:=by
 subst U Z e8 e9;have O:n≤4611686018427387904:=by obtain⟨_,_,_,_,O⟩:=C;exact O
 refine xu <|au (fun x=>SD x g n c xs) C.drew <|ab (fun x j _=>aM oo oo) ?_;rw[CH];refine ab (fun x j _=>iu oo) <|ab (fun x j _=>ldS j oo) <|ab (fun x j _=>aM oo oo) ?_;rw[CH];refine ab (fun x j _=>iu oo) <|ab (fun x j _=>ldS j oo) <|um <|au (fun _=>True) trivial <|ab (fun x j _=>wZ) ?_;by_cases u:G xs (f+r)<G xs (f+ch)
 rotate_left
 ·refine ax u ?_;exact h _ u C.drew (bU (lu _ _))
 refine ao oo <|au (fun x=>SD x g n c xs) C.drew.drew <|ab (fun x j _=>aM oo oo) <|ab (fun x j _=>aM oo oo) <|ab (fun x j _=>aM oo oo) ?_;rw[CH,CH];refine ab (fun x j _=>iu oo) <|ab (fun x j _=>ldS j oo) <|ab (fun x j _=>aM oo oo) ?_;rw[CH]
 refine ab (fun x j _=>iu oo) <|ab (fun x j _=>ldS j oo) <|ab (fun x j _=>iu oo) <|Ht C.drew.drew oo ?_;intro w3 J o3;refine au (fun _=>True) trivial <|ab (fun x j _=>iu oo) <|Ht J oo ?_;intro w4 M o4;exact hB _ _ rfl u M (bY (bY (bU (bU (lu _ _))) o3) o4)
theorem YA {lo:Nat}(hd:SD w g n c xs)(hb:f+hi≤n)(al:lo<hi∨lo=0)(hp:Hp xs f (lo+1) hi)(h:∀w' ys,SD w' g n c ys→Oth g w w'→Rng f (f+hi) xs ys→Hp ys f lo hi→K (.tuple #[]) w'):call Q 268 #[.slice (some ⟨g,0,none⟩) n c,ci (lo:Nat),ci (hi:Nat),ci (f:Nat)] K w:=by
 have hm:n≤4611686018427387904:=by obtain⟨_,_,_,_,hm⟩:=hd;exact hm
 refine ak (goK func268) (yJ ?_);refine xt (Inv:=fun r wr=>∃(p:Nat) (z:List Int),r=ci (p:Nat)∧lo≤p∧(p<hi∨p=0)∧SD wr g n c z∧Oth g w wr∧Rng f (f+hi) xs z∧HI z f lo hi p)
  (μ:=fun r _=>hi-(intOf r).toNat) ⟨lo,xs,rfl,Nat.le_refl _,al,hd,lu _ _,Rng.refl _ _ _,HI.start hp⟩ ?_
 rintro _ _ w1 m ⟨r,z,rfl,ag,an,I,o1,r1,s1⟩ af;have lz:=I.len;refine Ju oo oo ?_;rw[zen];refine aM oo oo ?_;rw[yi];refine bI ?_;by_cases am:hi≤2*r+1
 ·refine ax oo ?_;exact h _ z I o1 r1 (s1.stop fun c U J=>by unfold chi at U;omega)
 refine ao oo <|ac (fun _=>aM oo oo) ?_;rw[yi];refine ac (fun _=>aK) ?_;have ad:∀w',∀ch,chi r ch→ch<hi→(∀u,chi r u→u<hi→G z (f+u)≤G z (f+ch))→¬G z (f+r)<G z (f+ch)→SD w' g n c z→Oth g w w'→K (.tuple #[]) w':=by
  intro w' ch h1 h2 h3 h4 h5 h6;exact h _ z h5 h6 r1 (s1.stop fun c U J=>by have:=h3 c U J;omega)
 by_cases h2:2*r+1+1<hi
 ·refine cU oo <|ac (fun _=>aM oo oo) ?_;rw[CH];refine ac (fun _=>iu oo) <|ac (fun _=>ldS I.drew oo) <|ac (fun _=>aM oo oo) ?_;rw[CH];refine ac (fun _=>aM oo oo) ?_;rw[yi];refine ac (fun _=>iu oo) <|ac (fun _=>ldS I.drew oo) <|ac (fun _=>um) <|ac (fun _=>bA oo) <|pL ?_
  by_cases J:G z (f+(2*r+1))<G z (f+(2*r+1)+1)
  ·refine ax J <|aM oo oo ?_;have O:∀u,chi r u→u<hi→G z (f+u)≤G z (f+(2*r+1+1)):=by
    intro u U aa;rcases U with rfl|rfl
    ·rw[←Nat.add_assoc f (2*r+1)];omega
    ·exact Int.le_refl _
   refine Rt (f:=f) (lo:=lo) (hi:=hi) (r:=r) (ch:=2*r+1+1) rfl rfl rfl rfl I.drew hb oo (.inr rfl) h2 O (fun w' a b d=>ad w' _ (.inr rfl) h2 O a b (bY (bU o1) d)) ?_;intro e w' Z C M o2;refine⟨⟨2*r+1+1,_,Z,by omega,.inl h2,M,bY (bU o1) o2,r1.trans (Rng.swp oo oo oo oo),s1.swap ag oo (.inr rfl) h2 C O⟩,?_⟩
   show hi-(intOf (gd e 8)).toNat<_;rw[Z,af];simp only[intOf];omega
  ·refine ao J ?_;have O:∀u,chi r u→u<hi→G z (f+u)≤G z (f+(2*r+1)):=by
    intro u U aa;rcases U with rfl|rfl
    ·exact Int.le_refl _
    ·rw[Nat.add_assoc f (2*r+1)]at J
     have:f+(2*r+2)=f+(2*r+1+1):=rfl
     rw[this];omega
   refine Rt (f:=f) (lo:=lo) (hi:=hi) (r:=r) (ch:=2*r+1) rfl rfl rfl rfl I.drew hb oo (.inl rfl) oo O (fun w' a b d=>ad w' _ (.inl rfl) oo O a b (bY (bU o1) d)) ?_;intro e w' Z C M o2
   refine⟨⟨2*r+1,_,Z,by omega,.inl oo,M,bY (bU o1) o2,r1.trans (Rng.swp oo oo oo oo),s1.swap ag oo (.inl rfl) oo C O⟩,?_⟩;show hi-(intOf (gd e 8)).toNat<_;rw[Z,af];simp only[intOf];omega
 ·refine eB oo <|ac (fun _=>bj oo) <|pL <|aF ?_;have O:∀u,chi r u→u<hi→G z (f+u)≤G z (f+(2*r+1)):=by
   intro u U aa;rcases U with rfl|rfl
   ·exact Int.le_refl _
   ·omega
  refine Rt (f:=f) (lo:=lo) (hi:=hi) (r:=r) (ch:=2*r+1) rfl rfl rfl rfl I.drew hb oo (.inl rfl) oo O (fun w' a b d=>ad w' _ (.inl rfl) oo O a b (bY (bU o1) d)) ?_;intro e w' Z C M o2;refine⟨⟨2*r+1,_,Z,by omega,.inl oo,M,bY (bU o1) o2,r1.trans (Rng.swp oo oo oo oo),s1.swap ag oo (.inl rfl) oo C O⟩,?_⟩
  show hi-(intOf (gd e 8)).toNat<_;rw[Z,af];simp only[intOf];omega
structure HS (z:List Int) (a b i:Nat):Prop where
 heap:Hp z a 0 i
 srt:Srt z (a+i) b
 sep:∀k m,k<i→a+i≤m→m<b→G z (a+k)≤G z m
theorem zdj {a b : Nat} (hd : SD w g n c xs) (hab : a < b) (hb : b ≤ n) (hn : xs.Nodup) (h : ∀ w' ys, SD w' g n c ys → Oth g w w' → Rng a b xs ys → Srt ys a b → K (.tuple #[]) w') :
    call Tryz.prog 253 #[.slice (some ⟨g, 0, none⟩) n c, .int .i64 (a : Nat), .int .i64 (b : Nat)] K w := by
  have hm : n ≤ 4611686018427387904 := by obtain ⟨_, _, _, _, hm⟩ := hd; exact hm
  refine ak (goK Tryz.func253) (yI ?_)
  refine ba (by omega) (by omega) ?_
  rw [T7 (by omega)]
  refine ba (by omega) (by omega) ?_
  rw [uQ (by omega)]
  refine Qd (by omega) (by omega) (by omega) ?_
  refine xp (Inv := fun i wr => ∃ (p : Nat) (z : List Int), i = .int .i64 ((p : Int) - 1) ∧ (p ≤ b - a) ∧ SD wr g n c z ∧ Oth g w wr ∧ Rng a b xs z ∧ Hp z a p (b - a))
    (μ := fun i _ => (intOf i + 1).toNat) ⟨(b - a - 1) / 2 + 1, xs, by congr 1; omega, by omega, hd, lu _ _, Rng.refl _ _ _, fun i c h1 h2 h3 => by unfold chi at h2; omega⟩ ?_
  rintro _ _ w1 m ⟨p, z, rfl, hp1, hd1, o1, r1, s1⟩ hm1
  have lz := hd1.len
  refine bI ?_
  by_cases hp0 : 0 < p
  · refine ax (by omega) ?_
    rw [uQ hp0]
    refine YA hd1 (f := a) (lo := p - 1) (hi := b - a) (by omega) (by omega) (by rw [show p - 1 + 1 = p by omega]; exact s1) ?_
    intro w2 y hd2 o2 r2 s2
    rw [show a + (b - a) = b by omega] at r2
    refine ba (by omega) (by omega) ?_
    refine ⟨⟨p - 1, y, rfl, by omega, hd2, bY o1 o2, r1.trans r2, s2⟩, ?_⟩
    rw [hm1]; simp only [intOf]; omega
  refine ao (by omega) ?_
  refine xr ?_
  have ep : p = 0 := by omega
  subst ep
  refine ba (by omega) (by omega) ?_
  refine xq (Inv := fun i wr => ∃ (p : Nat) (z : List Int), i = .int .i64 ((p : Int) - 1) ∧ (p ≤ b - a) ∧ SD wr g n c z ∧ Oth g w wr ∧ Rng a b xs z ∧ HS z a b p)
    (μ := fun i _ => (intOf i + 1).toNat) ⟨b - a, z, rfl, Nat.le_refl _, hd1, o1, r1, s1, fun i h1 h2 => by omega, fun k m h1 h2 h3 => by omega⟩ ?_
  rintro _ _ w3 m3 ⟨p, z3, rfl, hp3, hd3, o3, r3, s3⟩ hm3
  have lz3 := hd3.len
  refine bI ?_
  by_cases hp0 : 0 < p
  rotate_left
  · refine ao (by omega) ?_
    have ep : p = 0 := by omega
    subst ep
    exact h _ z3 hd3 o3 r3 s3.srt
  refine ax (by omega) ?_
  rw [uQ hp0]
  refine au (fun x => SD x g n c z3) hd3.drew ?_
  refine ab (fun x hx K hK => aM (by omega) (by omega) hK) ?_
  refine ab (fun x hx K hK => aM (by omega) (by omega) hK) ?_
  rw [CH]
  refine Ik hd3.drew (i := a) (j := a + (p - 1)) (by omega) (by omega) ?_
  intro w4 hd4 o4
  have gs := fun k => DC (xs := z3) (i := a) (j := a + (p - 1)) (k := k) (by omega) (by omega)
  refine YA hd4 (f := a) (lo := 0) (hi := p - 1) (by omega) (.inr rfl) ?_ ?_
  · intro i c h1 h2 h3
    rw [gs, gs, if_neg (by omega), if_neg (by unfold chi at h2; omega), if_neg (by unfold chi at h2; omega), if_neg (by omega)]
    exact s3.heap i c (by omega) h2 (by omega)
  intro w5 y hd5 o5 r5 s5
  refine ba (by omega) (by omega) ?_
  have hnz : z3.Nodup := r3.perm.nodup_iff.2 hn
  have r4 : Rng a (a + p) z3 (swp z3 a (a + (p - 1))) := Rng.swp (by omega) (by omega) (by omega) (by omega)
  have r34 := r4.trans (r5.mono (c := a) (d := a + p) (by omega) (by omega))
  have top : ∀ k, k < p - 1 → G y (a + k) ≤ G z3 a := by
    intro k hk
    obtain ⟨j, hj1, hj2, hj3⟩ := r34.from (by omega) hnz (a + k) (by omega) (by omega)
    rw [hj3]
    have := s3.heap.top (j - a) (by omega)
    rw [show a + (j - a) = j by omega] at this
    exact this
  have high : ∀ m, a + p ≤ m → G y m = G z3 m := fun m h1 => r34.out m (by omega)
  have at_p : G y (a + (p - 1)) = G z3 a := by rw [r5.out _ (by omega), gs, if_pos rfl]
  refine ⟨⟨p - 1, y, rfl, by omega, hd5, bY (bY (bU o3) o4) o5, r3.trans (r34.mono (by omega) (by omega)), ⟨s5, fun i h1 h2 => ?_, fun k m h1 h2 h3 => ?_⟩⟩, ?_⟩
  · by_cases e : i = a + (p - 1)
    · rw [e, at_p, high _ (by omega)]
      have := s3.sep 0 (a + (p - 1) + 1) (by omega) (by omega) (by omega)
      exact this
    · rw [high _ (by omega), high _ (by omega)]
      exact s3.srt i (by omega) h2
  · by_cases e : m = a + (p - 1)
    · rw [e, at_p]; exact top k h1
    · rw [high m (by omega)]
      have h5 := top k h1
      have h6 := s3.sep 0 m (by omega) (by omega) h3
      rw [Nat.add_zero] at h6
      omega
  · rw [hm3, uQ hp0]; simp only [intOf]; omega
end
def Low (a b:Nat)(xs:List Int):Prop:=∀i k,i<a→a≤k→k<b→G xs i<G xs k
theorem Low.rng {a:Nat}{xs ys:List Int}(h:Low a b xs)(r:Rng a b xs ys)(J:b≤xs.length)(M:xs.Nodup):Low a b ys:=by
 intro i k u C I;obtain⟨j,O,U,Z⟩:=r.from J M k C I;rw[r.out i (.inl u),Z];exact h i j u O U
section
variable {w w0 w':World}{K:KV}{g n c:Nat}{xs z:List Int}
theorem Ue {a:Nat}(e0:V0=.slice (some ⟨g,0,none⟩) n c)(e1:W0=ci (a:Nat))(e2:X0=ci (b:Nat))(e7:Y0=ci (i:Nat))(e8:Z0=ci (s:Nat))(O:SD w g n c z)(ho:Oth g w0 w)(hr:Rng a b xs z)(hs:Srt z a i)(aa:a<i)(ad:i<b)(hb:b≤n)(am:s<5)(M:∀e w' z,gd e 7=ci (i:Nat)→gd e 8=ci ((s:Int)+1)→SD w' g n c z→Oth g w0 w'→Rng a b xs z→Srt z a i→P0 e w'):aQ K P0 ((aB V0 W0 X0 Y0 Z0 zf)) w:=by
 subst e0 e1 e2 e7 e8;have hm:n≤4611686018427387904:=by obtain⟨_,_,_,_,hm⟩:=O;exact hm
 refine rA <|ba oo oo <|bI ?_;by_cases J:(2:Int)≤(b:Int)-i
 rotate_left
 ·refine ao J <|io <|aM oo oo ?_;exact M _ _ _ rfl rfl O ho hr hs
 refine ax J <|aM oo oo ?_;rw[yi];refine rt (Inv:=fun j wr=>∃(q:Nat) (z:List Int),j=ci (q:Nat)∧i+1≤q∧q≤b∧SD wr g n c z∧Oth g w0 wr∧Rng a b xs z∧Srt z a i) (μ:=fun j _=>b-(intOf j).toNat)
  ⟨i+1,z,rfl,Nat.le_refl _,by omega,O,ho,hr,hs⟩ ?_
 rintro _ _ w1 m1 ⟨q,I,rfl,af,ag,C,o1,r1,s1⟩ Z;have lz:=C.len;refine aK ?_;by_cases al:q<b
 rotate_left
 ·refine ao oo <|io <|aM oo oo ?_;exact M _ _ _ rfl rfl C o1 r1 s1
 refine ax oo <|au (fun x=>SD x g n c I) C.drew <|ab (fun x u _=>iu oo) <|ab (fun x u _=>ldS u oo) <|ab (fun x u _=>ba oo oo) ?_;rw[uQ oo];refine ab (fun x u _=>iu oo) <|ab (fun x u _=>ldS u oo) <|um <|au (fun _=>True) trivial <|ab (fun x u _=>wZ) ?_;by_cases U:G I q<G I (q-1)
 rotate_left
 ·refine ax U <|io <|aM oo oo ?_;exact M _ _ _ rfl rfl C.drew (bU o1) r1 s1
 refine ao oo <|au (fun x=>SD x g n c I) C.drew.drew <|ab (fun x u _=>ba oo oo) <|ab (fun x u _=>ba oo oo) ?_;rw[uQ oo];refine Ik C.drew.drew (i:=q) (j:=q-1) oo oo ?_;intro w4 d4 o4;refine aM oo oo ?_;have gs:=fun k=>DC (xs:=I) (i:=q) (j:=q-1) (k:=k) oo oo
 refine⟨⟨q+1,_,rfl,by omega,by omega,d4,bY (bU (bU o1)) o4,r1.trans (Rng.swp oo oo oo oo),fun k h1 J=>?_⟩,?_⟩
 ·rw[gs,gs,if_neg oo,if_neg oo,if_neg oo,if_neg oo];exact s1 k h1 J
 ·rw[Z,yi];simp only[intOf];omega
theorem zdR {a:Nat}(e0:V0=.slice (some ⟨g,0,none⟩) n c)(e1:W0=ci (a:Nat))(e2:X0=ci (b:Nat))(e7:Y0=ci (i:Nat))(e8:Z0=ci (s:Nat))(hd:SD w g n c z)(ho:Oth g w0 w)(hr:Rng a b xs z)(hs:Srt z a (i-1))(J:a<i)(M:i<b)(hb:b≤n)(U:s<5)(aa:Low a b xs)(hn:xs.Nodup)(hB:∀e w' z,gd e 7=ci (i:Nat)→gd e 8=ci ((s:Int)+1)→SD w' g n c z→Oth g w0 w'→Rng a b xs z→Srt z a i→P0 e w'):de K P0 ((aB V0 W0 X0 Y0 Z0 zf)) w:=by
 subst e0 e1 e2 e7 e8;have hm:n≤4611686018427387904:=by obtain⟨_,_,_,_,hm⟩:=hd;exact hm
 refine re <|ba oo oo <|bI <|rf ?_;by_cases h2:(2:Int)≤(i:Int)-a
 rotate_left
 ·refine ao h2 ?_;exact Ue rfl rfl rfl rfl rfl hd ho hr (fun k I h3=>by omega) J M hb U hB
 refine ax h2 <|ba oo oo ?_;rw[uQ oo];refine rr (Inv:=fun j wr=>∃(q:Nat) (z:List Int),j=ci (q:Nat)∧a≤q∧q≤i-1∧SD wr g n c z∧Oth g w0 wr∧Rng a b xs z ∧
   (∀k,a≤k→k+1≤i-1→k+1≠q→G z k≤G z (k+1))∧(a<q→q<i-1→G z (q-1)≤G z (q+1))) (μ:=fun j _=>(intOf j).toNat)
  ⟨i-1,z,rfl,by omega,Nat.le_refl _,hd,ho,hr,fun k I h2 h3=>hs k I oo,fun _ h=>by omega⟩ ?_
 rintro _ _ w1 m1 ⟨q,z1,rfl,am,an,Z,o1,r1,s1,x1⟩ ag;have lz:=Z.len;have C:=r1.len;have ad:=aa.rng r1 oo hn;refine bI ?_;by_cases O:0<q
 rotate_left
 ·refine ao oo ?_;exact Ue rfl rfl rfl rfl rfl Z o1 r1 (fun k I h3=>s1 k I oo oo) J M hb U hB
 refine ax oo <|au (fun x=>SD x g n c z1) Z.drew <|ab (fun x C _=>iu oo) <|ab (fun x C _=>ldS C oo) <|ab (fun x C _=>ba oo oo) ?_;rw[uQ O];refine ab (fun x C _=>iu oo) <|ab (fun x C _=>ldS C oo) <|um <|au (fun _=>True) trivial <|ab (fun x C _=>wZ) ?_;by_cases af:G z1 q<G z1 (q-1)
 rotate_left
 ·refine ax af ?_;refine Ue rfl rfl rfl rfl rfl Z.drew (bU o1) r1 (fun k I h3=>?_) J M hb U hB;by_cases e:k+1=q
  ·rw[e,show k=q-1 by omega];omega
  ·exact s1 k I oo e
 refine ao oo ?_;have al:a<q:=by
  rcases Nat.lt_or_ge a q with h|h
  ·exact h
  ·have:=ad (q-1) q oo oo oo
   omega
 refine au (fun x=>SD x g n c z1) Z.drew.drew <|ab (fun x C _=>ba oo oo) <|ab (fun x C _=>ba oo oo) ?_;rw[uQ O];refine Ik Z.drew.drew (i:=q) (j:=q-1) oo oo ?_;intro w4 d4 o4;refine ba oo oo ?_;rw[uQ O];have gs:=fun k=>DC (xs:=z1) (i:=q) (j:=q-1) (k:=k) oo oo
 refine⟨⟨q-1,_,rfl,by omega,by omega,d4,bY (bU (bU o1)) o4,r1.trans (Rng.swp oo oo oo oo),fun k I h2 h3=>?_,fun I h2=>?_⟩,?_⟩
 ·rw[gs,gs];by_cases i1:k=q-1
  ·subst i1;rw[if_pos rfl,if_neg oo,if_pos oo];omega
  by_cases i2:k=q
  ·subst i2;rw[if_neg i1,if_pos rfl,if_neg oo,if_neg oo];exact x1 al oo
  by_cases i3:k+1=q-1
  ·omega
  rw[if_neg i1,if_neg i2,if_neg i3,if_neg oo];exact s1 k I h2 oo
 ·rw[gs,gs];rw[if_neg oo,if_neg oo,if_neg oo,if_pos oo]
  have:=s1 (q-1-1) oo oo oo
  rw[show q-1-1+1=q-1 by omega]at this;exact this
 ·rw[ag];simp only[intOf];omega
theorem zeL {a:Nat}(hd:SD w g n c xs)(am:a<b)(hb:b≤n)(M:Low a b xs)(hn:xs.Nodup)(h:∀w' ys f,SD w' g n c ys→Oth g w w'→Rng a b xs ys→(f=true→Srt ys a b)→K (.bool f) w'):call Q 257 #[.slice (some ⟨g,0,none⟩) n c,ci (a:Nat),ci (b:Nat)] K w:=by
 have hm:n≤4611686018427387904:=by obtain⟨_,_,_,_,hm⟩:=hd;exact hm
 refine ak (goK func257) (ss ?_);refine aM oo oo ?_;rw[yi];refine rh (Inv:=fun i j wr=>∃(p s:Nat) (z:List Int),i=ci (p:Nat)∧j=ci (s:Nat)∧a+1≤p∧p≤b∧SD wr g n c z∧Oth g w wr∧Rng a b xs z∧Srt z a p)
  (μ:=fun i j _=>5-(intOf j).toNat) ⟨a+1,0,xs,rfl,rfl,Nat.le_refl _,by omega,hd,lu _ _,Rng.refl _ _ _,fun k Z h2=>by omega⟩ ?_
 rintro _ _ _ w1 m ⟨p,s,z,rfl,rfl,O,U,I,o1,r1,s1⟩ ad;have lz:=I.len;refine aK ?_;by_cases al:s<5
 rotate_left
 ·refine ao oo <|ru ?_;exact h _ z false I o1 r1 (fun e=>by cases e)
 refine ax oo <|qZ ?_;refine ro (Inv:=fun i wr=>∃(p:Nat),i=ci (p:Nat)∧a+1≤p∧p≤b∧SD wr g n c z∧Oth g w wr∧Srt z a p)
  (μ:=fun i _=>b-(intOf i).toNat) ⟨p,rfl,O,U,I,o1,s1⟩ ?_
 rintro _ _ w2 m2 ⟨p,rfl,O,U,C,o2,s2⟩ af;refine ac (fun _=>aK) ?_;by_cases ag:p<b
 rotate_left
 ·refine eB oo <|ac (fun _=>bj oo) <|aF <|ln <|aO <|ax oo ?_;refine h _ z true C.drew (bU o2) r1 (fun _=>?_)
  have:p=b:=by omega
  rw[←this];exact s2
 refine cU oo <|ac (fun _=>iu oo) <|ac (fun _=>ldS C.drew oo) <|ac (fun _=>ba oo oo) ?_;rw[uQ oo];refine ac (fun _=>iu oo) <|ac (fun _=>ldS C.drew oo) <|ac (fun _=>um) <|ac (fun _=>wZ) <|ac (fun _=>bA oo) ?_;by_cases aa:G z p<G z (p-1)
 rotate_left
 ·refine ax aa <|aM oo oo ?_;refine⟨⟨p+1,rfl,by omega,by omega,C.drew,bU o2,fun k Z h2=>?_⟩,by rw[af,yi];simp only[intOf];omega⟩;by_cases e:k+1=p
  ·rw[e,show k=p-1 by omega];omega
  ·exact s2 k Z oo
 refine ao oo <|ln <|aO <|ao oo <|ba oo oo <|aK ?_;by_cases J:(b:Int)-a<50
 ·refine ax J ?_;exact h _ z false C.drew (bU o2) r1 (fun e=>by cases e)
 refine ao J <|au (fun x=>SD x g n c z) C.drew.drew <|ab (fun x hx _=>ba oo oo) <|ab (fun x hx _=>ba oo oo) ?_;rw[uQ oo];refine Ik C.drew.drew (i:=p) (j:=p-1) oo oo ?_;intro w4 d4 o4;have gs:=fun k=>DC (xs:=z) (i:=p) (j:=p-1) (k:=k) oo oo
 refine zdR (s:=s) rfl rfl rfl rfl rfl d4 (bY (bU (bU o2)) o4) (r1.trans (Rng.swp oo oo oo oo)) (fun k Z h2=>?_) oo ag hb al M hn ?_
 ·rw[gs,gs,if_neg oo,if_neg oo,if_neg oo,if_neg oo];exact s2 k Z oo
 intro e w5 z5 e7 e8 d5 o5 r5 s5;refine⟨⟨p,s+1,z5,e7,by rw[e8,yi],by omega,by omega,d5,o5,r5,s5⟩,?_⟩;show 5-(intOf (gd e 8)).toNat<_;rw[e8,ad,yi];simp only[intOf];omega
end
structure Ots (g:Nat) (w w':World):Prop where
 os:w'.os=w.os
 tape:w'.tape=w.tape
 output:w'.output=w.output
 size:w.heap.size≤w'.heap.size
 other:∀k,k<w.heap.size→k≠g→w'.heap[k]? = w.heap[k]?
theorem Ots.refl (w:World)(g:Nat):Ots g w w:=⟨rfl,rfl,rfl,Nat.le_refl _,fun _ _ _=>rfl⟩
theorem Ots.of_oth (h:Oth g w w'):Ots g w w':=⟨h.os,h.tape,h.output,by have:=h.size;omega,fun k _ j=>h.other k j⟩
theorem Ots.of_below (h:Below w.heap.size w w'):Ots g w w':=⟨h.os,h.tape,h.output,h.size,fun k j _=>h.block k j⟩
theorem Ots.trans {a b c:World}(h:Ots g a b)(k:Ots g b c):Ots g a c :=
 ⟨k.os.trans h.os,k.tape.trans h.tape,k.output.trans h.output,Nat.le_trans h.size k.size,fun i hi j=>(k.other i (by have:=h.size;omega) j).trans (h.other i hi j)⟩
theorem Ots.drew (h:Ots g w w'):Ots g w w'.drew:=⟨h.os,h.tape,h.output,h.size,h.other⟩
theorem Ots.new {a b c:World}(h:Ots g a b)(k:Oth p b c)(u:a.heap.size≤p):Ots g a c :=
 ⟨k.os.trans h.os,k.tape.trans h.tape,k.output.trans h.output,by have:=h.size;have:=k.size;omega,fun i hi j=>(k.other i oo).trans (h.other i hi j)⟩
theorem Ots.below (h:Ots g w w')(j:B≤g)(C:B≤w.heap.size):Below B w w':=⟨h.os,h.tape,h.output,h.size,fun k u=>h.other k oo oo⟩
theorem SD.oth {xs:List Int}(h:SD w g n c xs)(o:Oth p w w')(j:p≠g):SD w' g n c xs:=by
 obtain⟨rest,u,C⟩:=h;exact⟨rest,o.blk u (fun e=>j e.symm),C⟩
theorem SD.below {xs:List Int}(h:SD w g n c xs)(o:Below w.heap.size w w'):SD w' g n c xs:=by
 obtain⟨rest,j,u⟩:=h;exact⟨rest,ae o j j.lt,u⟩
theorem SD.lt {xs:List Int}(h:SD w g n c xs):g<w.heap.size:=by
 obtain⟨rest,j,u⟩:=h;exact j.lt
/-! ## The length in bits -/
def zeX (l:List UInt8):Bool:=(List.range 256).all fun i=>i==0 || decide (2 ^ (l.getD i 0).toNat≤2*i)
theorem zbP (J:P.underlying t=some .string){l:List UInt8}(C:l.length=256)(j:zeX l=true){k:IntKind}(M:1≤i)(hi:i<256)(h:∀r:Nat,r<64→2 ^ r≤2*i→K (.int .u8 (r:Int)) w):idx P t (.string (xk l)) (.int k (i:Nat)) K w:=by
 have u:2 ^ (l.getD i 0).toNat≤2*i:=by
  have:=(List.all_eq_true.1 j) i (List.mem_range.2 hi)
  simp only[Bool.or_eq_true,beq_iff_eq,decide_eq_true_eq]at this;rcases this with h|h
  ·omega
  ·exact h
 have I:(l.getD i 0).toNat<64:=by
  rcases Nat.lt_or_ge (l.getD i 0).toNat 64 with h|h
  ·exact h
  ·have:2 ^ 64≤2 ^ (l.getD i 0).toNat:=Nat.pow_le_pow_right oo h
   omega
 refine XI (w':=w) (v:=.int .u8 ((l.getD i 0).toNat:Int)) ?_ (h _ I u);have O:(xk l).size=256:=by simp[xk,ByteArray.size,C]
 have e:(xk l)[i]? = some (l.getD i 0):=by
  rw[getElem?_pos (xk l) i oo]
  congr 1
  simp[xk,ByteArray.getElem_eq_getElem_data,List.getD,show i<l.length by omega]
 simp[Instr.index,asIntOf,run_underlying J,e]
theorem zcR (j:m<18446744073709551616):∃r:Nat,oM .and .u64 x (m:Nat)=(r:Int)∧r≤m:=by
 refine⟨(BitVec.ofInt 64 x &&& BitVec.ofInt 64 (m:Int)).toNat,?_,?_⟩
 ·unfold oM;have h:IntKind.u64.bits=64:=rfl;show IntKind.u64.wrap ((BitVec.ofInt 64 x &&& BitVec.ofInt 64 (m:Int)).toNat:Int)=_;rw[eu]
  have:=(BitVec.ofInt 64 x &&& BitVec.ofInt 64 (m:Int)).isLt
  omega
 ·rw[BitVec.toNat_and,BitVec.ofInt_natCast,BitVec.toNat_ofNat,Nat.mod_eq_of_lt (a:=m) oo];exact Nat.and_le_right
section
variable {w w0 w':World}{K:KV}{g n c:Nat}{xs:List Int}
theorem zdy (u:1≤n)(I:n<256)(h:∀r:Nat,r<64→2 ^ r≤2*n→K (ci (r:Int)) w):call Q 178 #[.int .u64 (n:Nat)] K w:=by
 refine ak (goK func178) (FK ?_)
 (repeat (first|refine aF ?_))
 refine ak (goK func219) (Cq ?_)
 (repeat (first|refine zJ ?_|refine zD ?_|refine zL ?_|refine zF ?_|refine zO ?_|refine zH ?_|refine bI ?_|refine ao oo ?_))
 refine bX underlying31 underlying5 ?_;rw[Iu,show ((n:Nat):Int)%256=(n:Nat)by omega];refine zbP underlying9 rfl (by decide +kernel) u I ?_;intro b C j;refine bX underlying5 underlying3 ?_;rw[eU oo oo]
 (repeat (first|refine aM oo oo ?_))
 have:=h b C j
 rwa[Int.zero_add]
theorem zdG (C:1≤n)(J:n<256)(h:∀m:Nat,1≤m→m≤2*n→K (.int .u64 (m:Int)) w):call Q 232 #[ci (n:Nat)] K w:=by
 refine ak (goK func232) (G6 ?_);refine bX underlying3 underlying251 ?_;rw[eu,show ((n:Nat):Int)%18446744073709551616=(n:Nat)by omega];refine zdy C J ?_;intro r O j;refine yL oo ?_;have M:0<2 ^ r:=Nat.two_pow_pos r;have e:IntKind.u64.wrap (1*2 ^ (min ((r:Int).toNat) IntKind.u64.bits))=((2 ^ r:Nat):Int):=by
  have I:IntKind.u64.bits=64:=rfl;rw[I,show min ((r:Int).toNat) 64=r by omega,Int.one_mul,eu];have u:(2:Int) ^ r=((2 ^ r:Nat):Int):=by simp
  rw[u];omega
 rw[e];exact h _ M j
theorem zcM (J:blk w p 339 [.int .u64 x])(h:∀w' y,blk w' p 339 [.int .u64 y]→Oth p w w'→K (.int .u64 y) w'):call Q 233 #[pA p 0] K w:=by
 have M:∀w,(sizeOf 339).run Q w=.ok 1 w:=fun _=>by kernel_rfl
 have u:∀w,(isAgg 339).run Q w=.ok false w:=fun _=>by kernel_rfl
 refine ak (goK func233) (GB ?_);refine ac (fun _=>aj) <|ac (fun _=>ld1 u J rfl) <|ac (fun _=>aj) <|ac (fun _=>ld1 u J rfl) <|ac (fun _=>yL oo) <|ac (fun _=>Mg) <|ac (fun _=>aj) <|cB M J.drew sm rfl ?_;intro w1 C U
 refine ac (fun _=>aj) <|ac (fun _=>ld1 u C rfl) <|ac (fun _=>aj) <|ac (fun _=>ld1 u C rfl) <|ac (fun _=>Ek oo) <|ac (fun _=>Mg) <|ac (fun _=>aj) <|cB M C.drew sm rfl ?_;intro w2 I Z;refine ac (fun _=>aj) <|ac (fun _=>ld1 u I rfl) <|ac (fun _=>aj) <|ac (fun _=>ld1 u I rfl) <|ac (fun _=>yL oo) <|ac (fun _=>Mg) <|ac (fun _=>aj) <|cB M I.drew sm rfl ?_
 intro w3 O o3;refine aj <|ld1 u O rfl ?_;exact h w3 _ O (bY (bY (bU (lu _ _)) (bY U (bU (lu _ _)))) (bY Z (bY (bU (lu _ _)) o3)))
theorem zd1 {a:Nat}(hd:SD w g n c xs)(al:a≤b)(hb:b≤n)(hn:n<256)(h:∀w' ys,SD w' g n c ys→Ots g w w'→Rng a b xs ys→K (.tuple #[]) w'):call Q 254 #[.slice (some ⟨g,0,none⟩) n c,ci (a:Nat),ci (b:Nat)] K w:=by
 refine ak (goK func254) (vo ?_);refine ba oo oo ?_;rw[T7 al];refine bI ?_;by_cases h8:8≤b-a
 rotate_left
 ·refine ao oo ?_;exact h _ xs hd (Ots.refl _ _) (Rng.refl _ _ _)
 refine ax oo <|bX underlying3 underlying339 <|df (z:=.int .u64 0) kr ?_;intro w1 am b1 s1;have ar:=hd.below b1;have a2:=hd.lt;refine cB kf am (by simp[Value.cells]) rfl ?_;intro w2 U o2;have av:=ar.oth o2 oo;have U:blk w2 w.heap.size 339 [.int .u64 (IntKind.u64.wrap ((b-a:Nat):Int))]:=U;refine zdG oo oo ?_
 intro m a3 a4;refine Qd oo oo oo <|Ju oo oo <|aM oo oo <|ba oo oo ?_;have t2:Ots g w w2:=(Ots.of_below b1).new o2 oA;refine uz (Inv:=fun i wr=>∃(q:Nat) (x:Int) (z:List Int),i=ci (q:Nat)∧(a≤q)∧SD wr g n c z∧blk wr w.heap.size 339 [.int .u64 x]∧Ots g w wr∧Rng a b xs z) (μ:=fun i _=>b-(intOf i).toNat)
  ⟨a+(b-a) / 4*2-1,_,xs,by congr 1;omega,by omega,av,U,t2,Rng.refl _ _ _⟩ ?_
 rintro _ _ w3 m3 ⟨q,x,z,rfl,hq,Z,an,t3,r3⟩ aS;have lz:=Z.len;refine Qd oo oo oo <|Ju oo oo <|aM oo oo <|aM oo oo <|gJ ?_;by_cases af:(q:Int)≤(a:Int)+((b-a:Nat):Int) / 4*2+1
 rotate_left
 ·refine ao af ?_;exact h _ z Z t3 r3
 refine ax af <|zcM an ?_;intro w4 y ap o4;have ad:=Z.oth o4 oo;have t4:=t3.new o4 oA;refine jK ?_;rw[eu,show ((m:Int)-1)%18446744073709551616=((m-1:Nat):Int)by omega];refine Qw ?_;obtain⟨r,a0,a5⟩:=zcR (x:=y) (m:=m-1) oo;rw[a0];refine bX underlying251 underlying3 ?_;rw[eU oo oo];refine bI <|uy ?_
 have go:∀(o:Nat) {B1:List Value→World→Prop} {I a1 J M C O u:Value} {zf:Nat→Value},o<b-a→I=.slice (some ⟨g,0,none⟩) n c→a1=ci (a:Nat)→O=ci (q:Nat)→u=ci (o:Nat) →
   (∀e w',gd e 9=ci ((q+1:Nat):Int)→SD w' g n c (swp z q (a+o))→Oth g w4 w'→B1 e w')→bQ K B1 ((hZ I a1 J M C O u zf)) w4:=by
  intro o
  intros
  rename_i ho e0 e1 e9 ag hB;subst e0 e1 e9 ag;refine uB <|au (fun x=>SD x g n c z) ad.drew <|ab (fun x hx _=>aM oo oo) <|ab (fun x hx _=>aM oo oo) ?_;rw[CH];refine Ik ad.drew (i:=q) (j:=a+o) oo oo ?_;intro w5 d5 o5;refine uA <|aM oo oo ?_;rw[yi];exact hB _ _ rfl d5 (bY (bU (lu _ _)) o5)
 have aa:∀(o:Nat),o<b-a→∀e w',gd e 9=ci ((q+1:Nat):Int)→SD w' g n c (swp z q (a+o))→Oth g w4 w'→(∃(q:Nat) (x:Int) (z:List Int),gd e 9=ci (q:Nat)∧(a≤q)∧SD w' g n c z∧blk w' w.heap.size 339 [.int .u64 x]∧Ots g w w'∧Rng a b xs z)∧b-(intOf (gd e 9)).toNat<m3:=by
  intro o ho e w5 e9 d5 o5;refine⟨⟨q+1,y,_,e9,by omega,d5,o5.blk ap oo,t4.trans (Ots.of_oth o5),r3.trans (Rng.swp oo oo oo oo)⟩,?_⟩;rw[e9,aS];simp only[intOf];omega
 by_cases az:b-a≤r
 ·refine ax oo <|ba oo oo ?_;rw[T7 az];exact go (r-(b-a)) oo rfl rfl rfl rfl (aa _ oo)
 ·refine ao oo ?_;exact go r oo rfl rfl rfl rfl (aa _ oo)
/-! ## The pivot -/
abbrev I64 :TypeId:=3
theorem Ow {s:Int}(M:SD w g n c xs)(O:blk w p I64 [ci s])(Z:p≠g)(hi:i<n)(hj:j<n)(h:∀w' x y s',(x=i∨x=j)→(y=i∨y=j)→SD w' g n c xs→blk w' p I64 [ci s']→Oth p w w'→K (.tuple #[ci (x:Nat),ci (y:Nat)]) w'):call Q 273 #[.slice (some ⟨g,0,none⟩) n c,ci (i:Nat),ci (j:Nat),pA p 0] K w:=by
 refine ak (goK func273) (Ae ?_);refine au (fun x=>SD x g n c xs) M.drew <|ab (fun x I _=>iu hj) <|ab (fun x I _=>ldS I hj) <|ab (fun x I _=>iu hi) <|ab (fun x I _=>ldS I hi) <|um ?_;by_cases C:G xs j<G xs i
 ·refine ax C <|aj <|lK (v:=ci s) O.drew rfl <|iW <|aj <|cB kf O.drew sm rfl ?_;intro w2 U o2;have J:=bY (bU (lu w p)) o2;exact h _ j i _ (.inr rfl) (.inl rfl) (M.oth J Z) U J
 ·refine ao C ?_;exact h _ i j s (.inl rfl) (.inr rfl) M.drew O.drew (bU (lu _ _))
theorem TT {s:Int}(M:SD w g n c xs)(Z:blk w p I64 [ci s])(u:p≠g)(hi:i<n)(O:j<n)(U:k<n)(h:∀w' x s',(x=i∨x=j∨x=k)→SD w' g n c xs→blk w' p I64 [ci s']→Oth p w w'→K (ci (x:Nat)) w'):call Q 270 #[.slice (some ⟨g,0,none⟩) n c,ci (i:Nat),ci (j:Nat),ci (k:Nat),pA p 0] K w:=by
 refine ak (goK func270) (Ad ?_);refine Ow M Z u hi O ?_;intro w1 x1 y1 s1 aa ag C p1 o1;refine bu <|bv <|Ow C p1 u oo U ?_;intro w2 x2 y2 s2 ad al I p2 o2;refine bu <|bv <|Ow I p2 u oo oo ?_;intro w3 x3 y3 s3 af am J p3 o3;refine bu <|bv ?_;exact h _ y3 s3 oo J p3 (bY (bY o1 o2) o3)
theorem TR {s:Int}(C:SD w g n c xs)(I:blk w p I64 [ci s])(j:p≠g)(U:1≤i)(hi:i+1<n)(Z:n<256)(h:∀w' x s',i-1≤x→x≤i+1→SD w' g n c xs→blk w' p I64 [ci s']→Oth p w w'→K (ci (x:Nat)) w'):call Q 269 #[.slice (some ⟨g,0,none⟩) n c,ci (i:Nat),pA p 0] K w:=by
 refine ak (goK func269) (uL ?_);refine ba oo oo ?_;rw[uQ oo];refine aM oo oo ?_;rw[yi];refine TT C I j oo oo oo ?_;intro w1 x O hx u M J;exact h _ x O oo oo u M J
theorem zd4 {a:Nat}(hd:SD w g n c xs)(am:a+8≤b)(hb:b≤n)(hn:n<256)(h:∀w' (p:Nat) (u:Int),a≤p→p<b→SD w' g n c xs→Ots g w w'→K (.tuple #[ci (p:Nat),ci u]) w'):call Q 255 #[.slice (some ⟨g,0,none⟩) n c,ci (a:Nat),ci (b:Nat)] K w:=by
 refine ak (goK func255) (wK ?_);refine ba oo oo ?_;rw[T7 oo];refine df (z:=ci 0) kr ?_;intro w1 I b1 s1;have O:=hd.below b1;have an:=hd.lt;have I:blk w1 w.heap.size I64 [ci 0]:=I;obtain⟨l,hl⟩:∃l,b-a=l:=⟨_,rfl⟩
 rw[hl];obtain⟨q,hq⟩:∃q,l / 4=q:=⟨_,rfl⟩
 have ag:((l:Nat):Int) / 4=(q:Nat):=by omega
 have st:∀{K':KV} {t:TypeId} {cx cy:Bool},K' (ci (q:Nat)) w1→bin Q .quo t cx cy (ci (l:Nat)) (ci 4) K' w1:=by
  intro K' t cx cy hK;refine Qd oo oo oo ?_;rw[ag];exact hK
 refine st <|Ju oo oo ?_;rw[show ((q:Nat):Int)*1=((q*1:Nat):Int)by omega];refine aM oo oo ?_;rw[CH];refine st <|Ju oo oo ?_;rw[show ((q:Nat):Int)*2=((q*2:Nat):Int)by omega];refine aM oo oo ?_;rw[CH];refine st <|Ju oo oo ?_;rw[show ((q:Nat):Int)*3=((q*3:Nat):Int)by omega];refine aM oo oo ?_;rw[CH]
 refine vr <|bI <|vu <|ax oo <|bI <|vx ?_;have go:∀{w2:World} {s2:Int} (x y z:Nat) {C j U Z J:Value} {zf:Nat→Value},a≤x∧x<b→a≤y∧y<b→a≤z∧z<b→SD w2 g n c xs→blk w2 w.heap.size I64 [ci s2]→Ots g w w2 →
   C=.slice (some ⟨g,0,none⟩) n c→U=ci (x:Nat)→Z=ci (y:Nat)→J=ci (z:Nat)→j=pA w.heap.size 0→cW K ((eC C j U Z J zf)) w2:=by
  intro w2 s2 x y z
  intros
  rename_i hx hy hz d2 p2 t2 e0 aa ad af e9;subst e0 aa ad af e9;refine vB <|TT d2 p2 oo oo oo oo ?_;intro w3 v s3 hv M p3 o3;have t3:=t2.new o3 oA;refine vz <|lK (v:=ci s3) p3 rfl <|aO ?_;refine KH (fun _=>h _ v _ oo oo M t3) (fun _=>?_);refine aO ?_
  exact KH (fun _=>h _ v _ oo oo M t3) (fun _=>h _ v _ oo oo M t3)
 by_cases al:50≤l
 ·refine ax oo <|TR O I oo oo oo hn ?_;intro w2 x s2 ap ar d2 p2 o2;refine TR d2 p2 oo oo oo hn ?_;intro w3 y s3 av az M p3 o3;refine TR M p3 oo oo oo hn ?_;intro w4 z s4 aS a0 d4 p4 o4
  exact go x y z oo oo oo d4 p4 ((((Ots.of_below b1).new o2 oA).new o3 oA).new o4 oA) rfl rfl rfl rfl rfl
 ·refine ao oo ?_;exact go _ _ _ oo oo oo O I (Ots.of_below b1) rfl rfl rfl rfl rfl
end
end
section
open Go.RowKit Go.ChangeMaps
theorem zbO (j:P.underlying t=some .string){s:ByteArray}{k:IntKind}(hi:i<s.size)(h:∀b:Nat,b<256→K (.int .u8 (b:Int)) w):idx P t (.string s) (.int k (i:Nat)) K w:=by
 refine XI (w':=w) (v:=.int .u8 (s[i].toNat:Int)) ?_ (h _ (UInt8.toNat_lt _));have e:s[i]? = some s[i]:=getElem?_pos s i hi;simp[Instr.index,asIntOf,run_underlying j,e]
section
variable {w:World}{K:KV}{g n c:Nat}{xs:List Int}
theorem TJ (u:n<256)(h:∀r:Nat,r<256→K (ci (r:Int)) w):call Q 178 #[.int .u64 (n:Nat)] K w:=by
 refine ak (goK func178) (FK ?_)
 (repeat (first|refine aF ?_))
 refine ak (goK func219) (Cq ?_)
 (repeat (first|refine zJ ?_|refine zD ?_|refine zL ?_|refine zF ?_|refine zO ?_|refine zH ?_|refine bI ?_|refine ao oo ?_))
 refine bX underlying31 underlying5 ?_;rw[Iu,show ((n:Nat):Int)%256=(n:Nat)by omega];refine zbO underlying9 (by exact u) ?_;intro b j;refine bX underlying5 underlying3 ?_;rw[eU oo oo]
 (repeat (first|refine aM oo oo ?_))
 have:=h b j
 rwa[Int.zero_add]
end
end
section
open Go.RowKit
theorem zf2 {xs:List Int}(J:xs.Nodup)(hi:i<xs.length)(j:k<xs.length)(h:i≠k):G xs i≠G xs k:=by
 have e1:G xs i=xs[i]:=by simp[G,List.getD,hi]
 have I:G xs k=xs[k]:=by simp[G,List.getD,j]
 rw[e1,I];have C:=List.pairwise_iff_getElem.1 J;rcases Nat.lt_or_ge i k with u|u
 ·exact C i k hi j u
 ·exact fun e=>C k i j hi oo e.symm
theorem Srt.join {ys:List Int}{a:Nat}(u:Srt ys a m)(C:Srt ys (m+1) b)(lo:∀k,a≤k→k<m→G ys k≤G ys m)(J:∀k,m<k→k<b→G ys m≤G ys k):Srt ys a b:=by
 intro i hi I;by_cases e1:i+1<m
 ·exact u i hi e1
 by_cases h:i+1=m
 ·rw[h];exact lo i hi oo
 by_cases j:i=m
 ·rw[j];exact J (m+1) oo oo
 ·exact C i oo I
structure NX (a b:Nat) (z:List Int) (a2 b2:Nat) (z2:List Int):Prop where
 le:a2≤b2
 ha:a≤a2
 hb:b2≤b
 lt:b2-a2<b-a
 rng:Rng a b z z2
 low:Low a2 b2 z2
 fin:∀ys,Rng a2 b2 z2 ys→Srt ys a2 b2→Rng a b z ys∧Srt ys a b
section
variable {a b m:Nat}{z z2 z3:List Int}
theorem PR.lowL (q:PR z2 a b m)(u:Low a b z2):Low a m z2:=fun i k h j C=>u i k h j (by have:=q.hm;omega)
theorem PR.lowR (q:PR z2 a b m)(u:Low a b z2)(C:z2.Nodup)(M:b≤z2.length):Low (m+1) b z2:=by
 intro i k I J h;have O:=q.hm;by_cases e1:i<a
 ·exact u i k e1 oo h
 have U:=q.up k oo h;by_cases j:i=m
 ·subst j
  have:=zf2 C (i:=i) (k:=k) oo oo oo
  omega
 ·have:=q.lo i oo oo
  omega
theorem zcb (r : Rng a b z z2) (q : PR z2 a b m) (hl : Low a b z) (hn : z.Nodup) (hb : b ≤ z.length) (r3 : Rng a m z2 z3) (s3 : Srt z3 a m) : NX a b z (m + 1) b z3 := by
  have hm := q.hm
  have hn2 : z2.Nodup := r.perm.nodup_iff.2 hn
  have hl2 := r.len
  have hl3 := r3.len
  have hn3 : z3.Nodup := r3.perm.nodup_iff.2 hn2
  have lo3 : ∀ k, a ≤ k → k < m → G z3 k < G z2 m := by
    intro k h1 h2
    obtain ⟨j, j1, j2, j3⟩ := r3.from (by omega) hn2 k h1 h2
    rw [j3]; exact q.lo j j1 j2
  have em : G z3 m = G z2 m := r3.out m (by omega)
  have low2 := hl.rng r hb hn
  have low3 := low2.rng (r3.mono (c := a) (d := b) (by omega) (by omega)) (by omega) hn2
  refine ⟨by omega, by omega, by omega, by omega, r.trans (r3.mono (by omega) (by omega)), ?_, fun ys ry sy => ⟨(r.trans (r3.mono (by omega) (by omega))).trans (ry.mono (by omega) (by omega)), Srt.join (m := m) ?_ sy ?_ ?_⟩⟩
  · refine PR.lowR ⟨hm, fun k h1 h2 => by rw [em]; exact lo3 k h1 h2, fun k h1 h2 => ?_⟩ low3 hn3 (by omega)
    rw [em, r3.out k (by omega)]; exact q.up k h1 h2
  · intro i h1 h2
    rw [ry.out i (by omega), ry.out (i + 1) (by omega)]; exact s3 i h1 h2
  · intro k h1 h2
    rw [ry.out k (by omega), ry.out m (by omega), em]
    have := lo3 k h1 h2; omega
  · intro k h1 h2
    obtain ⟨j, j1, j2, j3⟩ := ry.from (by omega) hn3 k (by omega) h2
    rw [ry.out m (by omega), em, j3, r3.out j (by omega)]
    exact q.up j (by omega) j2
theorem zaf (r : Rng a b z z2) (q : PR z2 a b m) (hl : Low a b z) (hn : z.Nodup) (hb : b ≤ z.length) (r3 : Rng (m + 1) b z2 z3) (s3 : Srt z3 (m + 1) b) : NX a b z a m z3 := by
  have hm := q.hm
  have hn2 : z2.Nodup := r.perm.nodup_iff.2 hn
  have hl2 := r.len
  have hl3 := r3.len
  have hn3 : z3.Nodup := r3.perm.nodup_iff.2 hn2
  have em : G z3 m = G z2 m := r3.out m (by omega)
  have low2 := hl.rng r hb hn
  have low3 := low2.rng (r3.mono (c := a) (d := b) (by omega) (by omega)) (by omega) hn2
  refine ⟨by omega, by omega, by omega, by omega, r.trans (r3.mono (by omega) (by omega)), fun i k h1 h2 h3 => low3 i k h1 h2 (by omega), fun ys ry sy => ⟨(r.trans (r3.mono (by omega) (by omega))).trans (ry.mono (by omega) (by omega)), Srt.join (m := m) sy ?_ ?_ ?_⟩⟩
  · intro i h1 h2
    rw [ry.out i (by omega), ry.out (i + 1) (by omega)]; exact s3 i h1 h2
  · intro k h1 h2
    obtain ⟨j, j1, j2, j3⟩ := ry.from (by omega) hn3 k h1 h2
    rw [ry.out m (by omega), em, j3, r3.out j (by omega)]
    have := q.lo j j1 j2; omega
  · intro k h1 h2
    rw [ry.out k (by omega), ry.out m (by omega), em]
    obtain ⟨j, j1, j2, j3⟩ := r3.from (by omega) hn2 k (by omega) h2
    rw [j3]
    exact q.up j (by omega) j2
end
def SQ (d g n c:Nat):Prop:=∀{a b:Nat} {lm:Int} {z:List Int} {w:World} {K:KV},b-a<d→SD w g n c z→a≤b→b≤n→z.Nodup→Low a b z→(∀w' ys,SD w' g n c ys→Ots g w w'→Rng a b z ys→Srt ys a b→K (.tuple #[]) w') →
 call Q 230 #[.slice (some ⟨g,0,none⟩) n c,ci (a:Nat),ci (b:Nat),ci lm] K w
def We (g n c:Nat)(w0:World)(a b:Nat)(z:List Int)(B1:List Value→World→Prop):Prop:=∀(e:List Value) (w':World) (a2 b2:Nat) (lm:Int) (wb wp:Bool) (z2:List Int),
 gd e 1=ci (a2:Nat)→gd e 2=ci (b2:Nat)→gd e 3=ci lm→gd e 8=.bool wb→gd e 9=.bool wp→SD w' g n c z2→Ots g w0 w'→NX a b z a2 b2 z2→B1 e w'
section
variable {w w0 w':World}{K:KV}{g n c:Nat}{xs z:List Int}
theorem Yf {a:Nat}(e0:V0=.slice (some ⟨g,0,none⟩) n c)(e1:W0=ci (a:Nat))(e2:X0=ci (b:Nat))(e3:Y0=ci x)(e8:Z0=.bool cx)(e9:H1=.bool cy)(aa:I1=ci ((b-a:Nat):Int))(am:J1=ci (p:Nat))(hd:SD w g n c z)(ho:Ots g w0 w)(hr:Rng a b xs z)(af:a≤p)(ag:p<b)(hb:b≤n)(u:Low a b xs)(hn:xs.Nodup)(J:SQ (b-a) g n c)(hB:We g n c w0 a b xs P0):dD K P0 ((fI V0 W0 X0 Y0 Z0 H1 I1 J1 zf)) w:=by
 subst e0 e1 e2 e3 e8 e9 aa am;have hm:n≤4611686018427387904:=by obtain⟨_,_,_,_,hm⟩:=hd;exact hm
 have lz:=hd.len;have av:=hr.len;have al:=u.rng hr oo hn;refine ye <|ac (fun _=>bO) ?_;have rest:∀{w2:World} {K2:KV},SD w2 g n c z→(∀w' ys m f,SD w' g n c ys→Oth g w2 w'→Rng a b xs ys→PR ys a b m→K2 (.tuple #[ci (m:Nat),.bool f]) w') →
   call Q 260 #[.slice (some ⟨g,0,none⟩) n c,ci (a:Nat),ci (b:Nat),ci (p:Nat)] K2 w2:=by
  intro w2 K2 d2 h2;exact zdN d2 af ag hb (fun w' ys m f h3 h4 h5 h6=>h2 w' ys m f h3 h4 (hr.trans h5) h6)
 have M:∀{m:Nat} {f:Bool} {ys:List Int} {w3:World} {V0 W0 X0 Y0 I1 C h:Value} {zf:Nat→Value},V0=.slice (some ⟨g,0,none⟩) n c→W0=ci (a:Nat)→X0=ci (b:Nat)→Y0=ci x→h=.bool f →
   I1=ci ((b-a:Nat):Int)→C=ci (m:Nat)→SD w3 g n c ys→Ots g w0 w3→Rng a b xs ys→PR ys a b m→gY K P0 ((hU V0 W0 X0 Y0 I1 C h zf)) w3:=by
  intro m f ys w3
  intros
  rename_i e0 e1 e2 e3 e9 aa an Z o3 U I;subst e0 e1 e2 e3 e9 aa an;have ap:=I.hm;have ad:ys.Nodup:=U.perm.nodup_iff.2 hn;have O:=u.rng U oo hn;have ly:=Z.len;refine xY <|ba oo oo <|ba oo oo <|Qd oo oo oo <|aK ?_;refine KH (fun _=>?_) (fun _=>?_)
  ·refine bI <|J oo Z ap.1 oo ad (I.lowL O) ?_;intro w4 y4 d4 o4 r4 s4;refine aM oo oo ?_;exact hB _ _ (m+1) b x _ f y4 rfl rfl rfl rfl rfl d4 (o3.trans o4) (zcb U I u hn oo r4 s4)
  ·refine bI <|aM oo oo ?_;rw[yi];refine J oo Z oo oo ad (I.lowR O ad oo) ?_;intro w4 y4 d4 o4 r4 s4;exact hB _ _ a m x _ f y4 rfl rfl rfl rfl rfl d4 (o3.trans o4) (zaf U I u hn oo r4 s4)
 by_cases ha:0<a
 ·refine cU oo <|ac (fun _=>ba oo oo) ?_;rw[uQ ha];refine ac (fun _=>iu oo) <|ac (fun _=>ldS hd.drew oo) <|ac (fun _=>iu oo) <|ac (fun _=>ldS hd.drew oo) <|ac (fun _=>um) <|ac (fun _=>wZ) <|ac (fun _=>bA oo) ?_;have ar:=al (a-1) p oo af ag;refine ao oo <|rest hd.drew ?_;intro w3 ys m f Z o3 U I
  refine bu <|bv ?_;exact M rfl rfl rfl rfl rfl rfl rfl Z (ho.drew.trans (Ots.of_oth o3)) U I
 ·refine eB oo <|ac (fun _=>bj oo) <|aF <|rest hd.drew ?_;intro w3 ys m f Z o3 U I;refine bu <|bv ?_;exact M rfl rfl rfl rfl rfl rfl rfl Z (ho.drew.trans (Ots.of_oth o3)) U I
theorem Ye {a:Nat}(e0:V0=.slice (some ⟨g,0,none⟩) n c)(e1:W0=ci (a:Nat))(e2:X0=ci (b:Nat))(e3:Y0=ci x)(e8:Z0=.bool cx)(e9:H1=.bool cy)(u:I1=ci ((b-a:Nat):Int))(C:J1=ci (p:Nat))(aa:M1=ci r)(hd:SD w g n c z)(ho:Ots g w0 w)(I:Rng a b xs z)(J:a≤p)(M:p<b)(hb:b≤n)(h:Low a b xs)(Z:xs.Nodup)(j:SQ (b-a) g n c)(hB:We g n c w0 a b xs P0)(hF:∀w' ys,SD w' g n c ys→Ots g w0 w'→Rng a b xs ys→Srt ys a b→K (.tuple #[]) w'):dC K P0 ((fH V0 W0 X0 Y0 Z0 H1 I1 J1 M1 zf)) w:=by
 subst e0 e1 e2 e3 e8 e9 u C aa;have lz:=hd.len;have ag:=I.len;have O:=h.rng I oo Z;have af:z.Nodup:=I.perm.nodup_iff.2 Z;have a3:∀{t:Bool} {V0 W0 X0 Y0 Z0 H1 I1 J1 U:Value} {zf:Nat→Value},V0=.slice (some ⟨g,0,none⟩) n c→W0=ci (a:Nat)→X0=ci (b:Nat)→Y0=ci x→Z0=.bool cx→H1=.bool cy →
   I1=ci ((b-a:Nat):Int)→J1=ci (p:Nat)→U=.bool t→gX K P0 ((hJ V0 W0 X0 Y0 Z0 H1 I1 J1 U zf)) w:=by
  intro t
  intros
  rename_i e0 e1 e2 e3 e8 e9 u C ad;subst e0 e1 e2 e3 e8 e9 u C ad;refine xW ?_;cases t
  ·refine aF ?_;exact Yf rfl rfl rfl rfl rfl rfl rfl rfl hd ho I J M hb h Z j hB
  ·refine aT <|zeL hd oo hb O af ?_;intro w2 ys f d2 o2 r2 s2;cases f
   ·refine aF ?_;exact Yf rfl rfl rfl rfl rfl rfl rfl rfl d2 (ho.trans (Ots.of_oth o2)) (I.trans r2) J M hb h Z j hB
   ·refine aT ?_;exact hF _ ys d2 (ho.trans (Ots.of_oth o2)) (I.trans r2) (s2 rfl)
 refine yc ?_;cases cx
 ·refine nY <|dh <|nY <|dh ?_;exact a3 rfl rfl rfl rfl rfl rfl rfl rfl rfl
 ·refine qq <|cz ?_;cases cy
  ·refine nY <|dh ?_;exact a3 rfl rfl rfl rfl rfl rfl rfl rfl rfl
  ·refine qq <|aO <|cz ?_;exact a3 rfl rfl rfl rfl rfl rfl rfl rfl rfl
theorem VO {a:Nat}(e0:V0=.slice (some ⟨g,0,none⟩) n c)(e1:W0=ci (a:Nat))(e2:X0=ci (b:Nat))(e3:Y0=ci x)(e8:Z0=.bool cx)(e9:H1=.bool cy)(I:I1=ci ((b-a:Nat):Int))(hd:SD w g n c z)(ho:Ots g w0 w)(hr:Rng a b xs z)(aa:a+12<b)(C:b≤n)(J:n<256)(h:Low a b xs)(hn:xs.Nodup)(j:SQ (b-a) g n c)(Z:We g n c w0 a b xs P0)(hF:∀w' ys,SD w' g n c ys→Ots g w0 w'→Rng a b xs ys→Srt ys a b→K (.tuple #[]) w'):dB K P0 ((fG V0 W0 X0 Y0 Z0 H1 I1 zf)) w:=by
 subst e0 e1 e2 e3 e8 e9 I;refine ya <|zd4 hd oo C J ?_;intro w2 p u M O U o2;refine bu <|bv <|aO <|xU ?_;refine KH (fun _=>?_) (fun _=>?_)
 ·refine zeP U C ?_;intro w3 ys d3 o3 r3;refine ba oo oo <|ba oo oo <|ba oo oo ?_;rw[show ((b:Int)-1-((p:Int)-(a:Int)))=((b-1-(p-a):Nat):Int)by omega];exact Ye rfl rfl rfl rfl rfl rfl rfl rfl rfl d3 ((ho.trans o2).trans (Ots.of_oth o3)) (hr.trans r3) oo oo C h hn j Z hF
 ·exact Ye rfl rfl rfl rfl rfl rfl rfl rfl rfl U (ho.trans o2) hr M O C h hn j Z hF
theorem zdP (ad:n<256):∀d,SQ d g n c:=by
 intro d
 induction d with
 | zero=>intro a b lm z w K h;omega
 | succ d ih =>
  intro a b lm xs w K av hd al hb hn af h;have lx:=hd.len;refine ak (goK func230) (qS ?_);refine qe (Inv:=fun x y l b1 b2 wr=>∃(j u:Nat) (lm:Int) (wb wp:Bool) (z:List Int),x=ci (j:Nat)∧y=ci (u:Nat)∧l=ci lm∧b1=.bool wb∧b2=.bool wp ∧
    a≤j∧j≤u∧u≤b∧SD wr g n c z∧Ots g w wr∧z.Nodup∧Low j u z∧∀ys,Rng j u z ys→Srt ys j u→Rng a b xs ys∧Srt ys a b)
   (μ:=fun x y l b1 b2 _=>(intOf y).toNat-(intOf x).toNat) ⟨a,b,lm,true,true,xs,rfl,rfl,rfl,rfl,rfl,Nat.le_refl _,al,Nat.le_refl _,hd,Ots.refl _ _,hn,af,fun ys h1 h2=>⟨h1,h2⟩⟩ ?_
  rintro _ _ _ _ _ _ w1 m ⟨j,u,lm,wb,wp,z,rfl,rfl,rfl,rfl,rfl,h1,h2,h3,I,o1,O,aa,C⟩ am;have lz:=I.len;refine ba oo oo ?_;rw[T7 h2];refine gJ ?_;by_cases ar:u-j≤12
  ·refine ax oo <|ZN I h2 oo ?_;intro w2 ys M U r2 s2;obtain⟨f1,f2⟩:=C ys r2 s2;exact h _ ys M (o1.trans (Ots.of_oth U)) f1 f2
  refine ao oo <|aO ?_;refine KH (fun _=>?_) (fun _=>?_)
  ·refine zdj I oo oo O ?_;intro w2 ys M U r2 s2;obtain⟨f1,f2⟩:=C ys r2 s2;exact h _ ys M (o1.trans (Ots.of_oth U)) f1 f2
  have hF:∀w' ys,SD w' g n c ys→Ots g w w'→Rng j u z ys→Srt ys j u→K (.tuple #[]) w':=by
   intro w2 ys M U r2 s2;obtain⟨f1,f2⟩:=C ys r2 s2;exact h _ ys M U f1 f2
  have Z:SQ (u-j) g n c:=by
   intro a2 b2 ag z2 w2 K2 q1 q2 q3 q4 q5 q6 q7;exact ih oo q2 q3 q4 q5 q6 q7
  have hB:We g n c w j u z (fun J w2=>(∃(j u:Nat) (lm:Int) (wb wp:Bool) (z:List Int),gd J 1=ci (j:Nat)∧gd J 2=ci (u:Nat)∧gd J 3=ci lm∧gd J 8=.bool wb∧gd J 9=.bool wp ∧
    a≤j∧j≤u∧u≤b∧SD w2 g n c z∧Ots g w w2∧z.Nodup∧Low j u z∧∀ys,Rng j u z ys→Srt ys j u→Rng a b xs ys∧Srt ys a b)∧(intOf (gd J 2)).toNat-(intOf (gd J 1)).toNat<m):=by
   intro e w2 a2 b2 ag an ap z2 e1 J e3 e8 e9 M U x2
   have:=x2.ha
   have:=x2.hb
   have:=x2.lt
   refine⟨⟨a2,b2,ag,an,ap,z2,e1,J,e3,e8,e9,by omega,x2.le,by omega,M,U,x2.rng.perm.nodup_iff.2 O,x2.low,fun ys r s=>?_⟩,?_⟩
   ·obtain⟨f1,f2⟩:=x2.fin ys r s;exact C ys f1 f2
   ·rw[e1,J,am];simp only[intOf];omega
  refine bK <|xS ?_;cases wb
  ·refine aT <|zd1 I h2 oo ad ?_;intro w2 ys M U r2;refine jK ?_;exact VO rfl rfl rfl rfl rfl rfl rfl M (o1.trans U) r2 oo oo ad aa O Z hB hF
  ·refine aF ?_;exact VO rfl rfl rfl rfl rfl rfl rfl I o1 (Rng.refl _ _ _) oo oo ad aa O Z hB hF
theorem zcz (C:SD w g n c xs)(j:n<256)(I:xs.Nodup)(h:∀w' ys,SD w' g n c ys→Ots g w w'→ys.Perm xs→Srt ys 0 n→K (.tuple #[]) w'):call Q 209 #[.slice (some ⟨g,0,none⟩) n c] K w:=by
 refine ak (goK func209) (tA ?_);refine zdx <|bX underlying3 underlying251 ?_;rw[eu,show ((n:Nat):Int)%18446744073709551616=(n:Nat)by omega];refine TJ j ?_;intro r U;refine zdP j (n+1) (a:=0) oo C oo oA I (fun i k h=>by omega) ?_;intro w2 ys u J M O;exact h w2 ys u J M.perm O
end
theorem ze4 {ys:List Int}(J:Srt ys 0 ys.length)(U:ys.Nodup):ys.Pairwise (· < ·):=by
 rw[List.pairwise_iff_getElem];have u:∀d i (h:i+d+1<ys.length),ys[i]'oo<ys[i+d+1]:=by
  intro d
  induction d with
  | zero =>
   intro i h;have I:=J i oo oo;have e1:G ys i=ys[i]'oo:=by simp[G,List.getD,show i<ys.length by omega]
   have C:G ys (i+1)=ys[i+1]'oo:=by simp[G,List.getD,show i+1<ys.length by omega]
   rw[e1,C]at I;have Z:ys[i]'oo≠ys[i+1]'oo:=(List.pairwise_iff_getElem.1 U) i (i+1) oo oo oo;show ys[i]'oo<ys[i+1]'oo;omega
  | succ d ih =>
   intro i h;have I:=ih i oo;have M:=J (i+d+1) oo oo;have e1:G ys (i+d+1)=ys[i+d+1]'oo:=by simp[G,List.getD,show i+d+1<ys.length by omega]
   have C:G ys (i+d+1+1)=ys[i+d+1+1]'oo:=by simp[G,List.getD,show i+d+1+1<ys.length by omega]
   rw[e1,C]at M;show ys[i]'oo<ys[i+d+1+1]'oo;omega
 intro i j hi hj O
 have:=u (j-i-1) i oo
 have e:i+(j-i-1)+1=j:=by omega
 simpa[e]using this
section
variable {w:World}{K:KV}{t tp:Nat}{T:List (Int×Int)}
theorem ZM {d:Value}(h:K (.tuple #[]) w):call Q 252 #[d,ci 0,ci 0] K w:=by
 refine ak (goK func252) (oF ?_)
 (repeat (first|refine aM oo oo ?_))
 refine nR (Inv:=fun i wr=>i=ci 1∧wr=w) (μ:=fun i _=>0) ⟨rfl,rfl⟩ ?_;rintro _ _ u m ⟨rfl,rfl⟩ j
 (repeat (first|refine aK ?_|refine aF ?_))
 exact h
theorem zcy (h:K (.tuple #[]) w):call Q 209 #[.slice none 0 0] K w:=by
 refine ak (goK func209) (tA ?_);refine zdx <|bX underlying3 underlying251 ?_;rw[eu,show ((0:Nat):Int)%18446744073709551616=(0:Nat)by omega];refine TJ (n:=0) oo ?_;intro r u;refine ak (goK func230) (qS ?_);refine qe (Inv:=fun a b _ _ _ wr=>a=ci 0∧b=ci 0∧wr=w) (μ:=fun a b _ _ _ _=>0) ⟨rfl,rfl,rfl⟩ ?_;rintro _ _ _ _ _ _ C m ⟨rfl,rfl,rfl⟩ j
 (repeat (first|refine gJ ?_|refine ba oo oo ?_|refine aT ?_))
 refine ZM ?_;exact h
theorem ZZ {v:Value}(h:K (.bool true) w):call Q 176 #[v] K w :=
 ak (goK func176) (Kt h)
def IdR (w:World)(B:Nat)(a:Option Addr)(c:Nat)(ids:List Int):Prop:=(ids=[]∧a=none∧c=0)∨∃g rest,a=some ⟨g,0,none⟩∧B≤g∧ids.length≤c∧blk w g 31 (ids.map u6++rest)
theorem VP (ht:TreeM w t tp T)(hn:T.length<256)(h:∀w' a c (ids:List Int),ids.Perm (T.map (·.1))→ids.Pairwise (· < ·)→IdR w' w.heap.size a c ids→Below w.heap.size w w'→K (.slice a ids.length c) w'):call Q 128 #[pB t] K w:=by
 obtain⟨M,hM,hp⟩:=ht.mp;have bk:=ht.lt;refine ak (goK func128) (Nh (ak (goK func175) (Mb (QF (aF (aj (AV (lK (v:=.map (some tp)) ht.bt rfl (LW underlying183 hM ?_)))))))));intro w4 a9 b4 s4;have a4:w.heap.size≠tp:=by omega
 have bn:M.length=T.length:=hp.length_eq;refine JI (Inv:=fun l wr=>∃(done:List Int) (a:Option Addr) (c:Nat),l=.slice a done.length c∧IT u6 u6 wr w.heap.size tp M done∧Below w.heap.size w wr∧w4.heap.size≤wr.heap.size ∧
   OV wr w4.heap.size 31 a done.length c (done.map u6))
  (μ:=fun l wr=>lG wr tp w.heap.size) ⟨[],none,0,rfl,a9,b4,Nat.le_refl _,OV.nil _ _ _⟩ ?_
 rintro l _ w5 m ⟨done,a,c,rfl,ap,b5,bp,Z⟩ hm;obtain⟨n1,n2,n3⟩:=ap.nodup;have bi:done.length≤M.length:=by
  have:=Cr n1 n3;simpa using this
 refine LH ap a4 ?_ ?_
 ·intro ad;have C:done.Perm (T.map (·.1)):=((List.perm_ext_iff_of_nodup n1 n2).2 fun x=>⟨n3 x,ad x⟩).trans (hp.map _);refine rG rfl (aF (JJ ?_));rcases Z.2 with⟨hv,hz⟩|⟨g,cap,av,hv,hg,hh,a3,be,am,an⟩
  ·simp only[Value.slice.injEq]at hv;obtain⟨rfl,b0,rfl⟩:=hv;have a0:done=[]:=List.eq_nil_of_length_eq_zero hz;subst a0;refine zcy ?_;exact h w5 none 0 [] C List.Pairwise.nil (.inl ⟨rfl,rfl,rfl⟩) b5
  simp only[Value.slice.injEq]at hv;obtain⟨rfl,_,rfl⟩:=hv;have a6:SD w5 g done.length c done:=by
   refine⟨av.toList.drop done.length,?_,rfl,a3,by omega⟩;rw[Nat.mul_one]at an;rw[show done.map uv=done.map u6 from rfl, ←an,List.take_append_drop];exact hh
  refine zcz a6 oo n1 ?_;intro w6 ys a1 o6 aa al;have I:Below w.heap.size w w6:=b5.trans (o6.below oo oo);have a8:ys.length=done.length:=aa.length_eq;have a7:IdR w6 w.heap.size (some ⟨g,0,none⟩) c ys:=by
   obtain⟨rest,k1,k2,k3,k4⟩:=a1;exact .inr ⟨g,rest,rfl,by omega,by omega,k1⟩
  rw[←a8]at al ⊢;exact h w6 _ c ys (aa.trans C) (ze4 al (aa.nodup_iff.2 n1)) a7 I
 ·intro x v w6 bs bq ar az o6 a2;have I:Below w.heap.size w w6:=aR b5 o6 oA;have s6:=o6.size;have af:OV w6 w4.heap.size 31 a done.length c (done.map u6):=cD Z fun k U=>o6.other k (by have:=(OV.block Z k U).1;omega);refine rG rfl (aT (Pr az (bu (dn rfl (ZZ (aT ?_))))))
  refine oG (vs:=[u6 x]) underlying87 (s:=1) kr kr oo rfl sm sm sm (by simp[u6,Value.cells]) fun w7 O J s7=>?_;have O:blk w7 w6.heap.size 31 [u6 x]:=by simpa[Value.cells,u6]using O
  have ag:OV w7 w4.heap.size 31 a done.length c (done.map u6):=cD af fun k U=>J.block k (OV.block af k U).2;obtain⟨i,hi,hz,am,aS⟩:=info_parts (show (Tryz.prog.info? 31).map (fun i=>(i.zero,i.size,i.bytes))=some (some (u6 0),1,8)by kernel_rfl)
  refine zbn (base:=w4.heap.size) (s:=1) (ys:=[u6 x]) underlying87 hi hz am aS rfl oo ag O rfl rfl (by simp[u6,Value.oneCell']) oo oo oo ?_;intro a' c' w8 a5 u;have j:∀k,k<w6.heap.size→(∀q,(Value.slice a done.length c).ownBlock=some q→q≠k)→w8.heap[k]? = w6.heap[k]? := by
   intro k U hq;rw[u.block k oo (fun e=>hq k e.symm rfl),J.block k U]
  have hq:∀q,(Value.slice a done.length c).ownBlock=some q→w4.heap.size≤q:=fun q e=>(OV.block ag q e).1;have bd:=ar.lt;have bb:IT u6 u6 w8 w.heap.size tp M (done++[x]):=ar.kept (j _ oo fun q e=>by have:=hq q e;omega) (j _ oo fun q e=>by have:=hq q e;omega)
  have b8:Below w.heap.size w w8:=⟨u.os.trans (J.os.trans I.os),u.tape.trans (J.tape.trans I.tape),u.output.trans (J.output.trans I.output),by have:=u.size;have:=J.size;have:=I.size;omega,fun k U=>by
   have:=I.size
   rw[j k oo fun q e=>by have:=hq q e;omega,I.block k U]⟩
  refine⟨⟨done++[x],a',c',by simp,bb,b8,by have:=u.size;have:=J.size;omega,?_⟩,?_⟩
  ·rw[List.map_append,List.length_append];exact a5
  ·rw[hm]
   have:lG w8 tp w.heap.size=lG w6 tp w.heap.size:=wI (j _ oo fun q e=>by have:=hq q e;omega) (j _ oo fun q e=>by have:=hq q e;omega)
   omega
end
end
end
section
open Go.RowKit
theorem yG (h:box Q 87 V0 (fun j=>K (.func (.func 330) #[] #[j])) w):Gives Q 319 #[V0] w K:=by
 refine aq func319 kr ?_;exact mpK h
def iV (Y:YB)(l_:Nat)(K:KV):KE:=ug Q Y l_ (cd f330 [1,0]) (rk f330 K) (xx xf (rk f330 K) 0) (rk f330 K)
theorem xn {Y:YB}(h:ld Q 87 W0 (fun t4=>lN 87 t4 fun j=>bT .sub 3 j (ci 1) fun u=>iV Y b K [V0,W0,uu,u,t4,j,u,uu,uu,uu,uu,uu,uu,uu,uu,uu,uu,uu,uu]) w):CF Q Y b 330 [V0,W0] w K:=by
 refine YQ (goK func330) func330 kr ?_;revert h;delta iV;exact mpF
theorem wu {Y:YB}{t15:Value}(I:Bd Y)(Inv:Value→World→Prop)(μ:Value→World→Nat)(C:Inv Y0 w)(J:∀(j:Value) (M:Nat→Value) (w:World) (m:Nat),Inv j w→m=μ j w →
  bT .geq 3 j (ci 0) (fun M1 w=>cond M1 (ld Q 87 W0 (fun T1=>aL Q 87 T1 j fun t15=>ld Q 31 t15 fun V1=>Pi Q Y b V0 #[j,V1] fun X1=>un Q .not X1 fun Z1 w=>cond Z1 (K (.tuple #[]) w) (bT .sub 3 j (ci 1) (fun O1 w=>(Inv O1 w)∧((μ O1 w)<m)) w)) w) (K (.tuple #[]) w)) w):iV Y b K [V0,W0,X0,Y0,Z0,H1,I1,J1,M1,N1,O1,P1,Q1,T1,U1,t15,V1,X1,Z1] w:=by
 refine PY I (cd f330 [1,0,0]) (zr [(3,1),(7,12)]) kr (vP [3] Inv) (vQ [3] μ) C ?_;intro e' w' hI;have h:=J _ (gd e') w' _ hI rfl;exact mpK h
attribute [irreducible] iV
theorem yH (h:call Q 331 #[V0,W0] (fun t7=>bT .geq 3 t7 (ci 0) K) w):Gives Q 320 #[V0,W0] w K:=by
 refine aq func320 kr ?_;exact mpK h
def sC (s0 v1 t7 t8:Value)(zf:Nat→Value):List Value:=s0::v1::zT zf 2 5 (t7::t8::zT zf 9 10 ([]))
def sD (zf:Nat→Value):List Value:=zT zf 0 19 ([])
def dO (K:KV):KE:=kZ f331 [1,1] K
def kt (K:KV):KE:=ah Q (cd f331 [1,0,1,0]) (dO K) (xx xf (dO K) 0) (rk f331 K)
theorem Aw (h:lN 87 V0 (fun X0=>kt K (sC V0 W0 X0 (ci 0) (zV (zV zu 4 [ci 0]) 6 [V0]))) w):Gives Q 331 #[V0,W0] w K:=by
 refine aq func331 kr ?_;revert h;delta kt dO;exact mpF
theorem yZ (Inv:Value→World→Prop)(μ:Value→World→Nat)(O:Inv Y0 w)(U:∀(j:Value) (M:Nat→Value) (w:World) (m:Nat),Inv j w→m=μ j w →
  lS j X0 (fun J w=>cond J (aL Q 87 V0 j (fun t14=>ld Q 31 t14 fun t15=>bF .eql 31 W0 t15 fun I w=>cond I (K j w) (nC j (fun u w=>(Inv u w)∧((μ u w)<m)) w)) w) (dO K (sD (zV (zV M 0 [V0,W0]) 7 [X0,j,J])) w)) w):kt K (sC V0 W0 X0 Y0 zf) w:=by
 refine aI (cd f331 (b1 52)) (zr [(4,2),(8,11)]) kr (vP [8] Inv) (vQ [8] μ) O ?_;intro e' w' hI;have h:=U _ (zM zf (gd e') (zr [(4,2),(8,11)])) w' _ hI rfl;revert h;generalize (dO K)=qc0;exact mpF
theorem zb (h:K (ci (-1)) w):dO K (sD zf) w:=by
 delta dO;exact mpK h
attribute [irreducible] dO kt
end
section
attribute [local irreducible] bin un conv call aZ blt slc ai fld aL idx lkp cP eP eSt rng nxt ent ext alc box bld bg ld sto aJ cr mkS ifc pick rdy wts aG sti cond aV Gives ah dy dP cOp
section
open Go.RowKit
section
variable {w:World}{K:KV}{B c:Nat}{a:Option Addr}{ids:List Int}{x:Int}
theorem IdR.at (h:IdR w B a c ids)(hi:i<ids.length)(u:K (u6 ids[i]) w):aL Q 87 (.slice a ids.length c) (ci (i:Nat)) (fun p=>ld Q 31 p K) w:=by
 rcases h with⟨rfl,_⟩|⟨g,rest,rfl,I,C,j⟩
 ·simp at hi
 refine dQ underlying87 (s:=1) kf oo oo ?_;rw[Int.toNat_natCast,Nat.mul_one,Nat.zero_add];refine lK (v:=u6 ids[i]) j ?_ u;rw[List.getElem?_append_left (by simpa using hi),List.getElem?_map,gE hi];rfl
theorem IdR.kept (h:IdR w B a c ids)(I:∀k o,B≤k→w.heap[k]? = some o→w'.heap[k]? = w.heap[k]?):IdR w' B a c ids:=by
 rcases h with h|⟨g,rest,e1,j,C,u⟩
 ·exact .inl h
 ·exact .inr ⟨g,rest,e1,j,C,by have:=I g _ j u;unfold blk at *; rw[this];exact u⟩
theorem IdR.below (h:IdR w B a c ids)(j:Below w.heap.size w w'):IdR w' B a c ids :=
 h.kept fun k o _ u=>j.block k (Array.getElem?_eq_some_iff.1 u).1
theorem IdR.own (h:w.ownsRow B 31 1 (.slice a n c) n (ids.map u6))(hl:ids.length=n):IdR w B a c ids:=by
 rcases h.2 with⟨j,hz⟩|⟨g,cap,C,j,J,M,O,I,U,u⟩
 ·simp only[Value.slice.injEq]at j;exact .inl ⟨List.eq_nil_of_length_eq_zero oo,j.1,j.2.2⟩
 ·simp only[Value.slice.injEq]at j;obtain⟨e1,_,Z⟩:=j;refine .inr ⟨g,C.toList.drop n,e1,J,by omega,?_⟩;rw[Nat.mul_one]at u;rw[←u,List.take_append_drop];exact M
theorem zam (h:IdR w B a c ids)(hl:ids.length<1000000)(M:∀i:Int,(0≤i↔x∈ids)→K (ci i) w):call Q 331 #[.slice a ids.length c,u6 x] K w:=by
 refine ak (goK func331) (Aw (bh underlying87 ?_));refine yZ (Inv:=fun i wr=>∃k:Nat,i=iv (k:Nat)∧wr=w∧k≤ids.length∧∀j (I:j<ids.length),j<k→ids[j]≠x) (μ:=fun i _=>ids.length-(intOf i).toNat) ⟨0,rfl,rfl,Nat.zero_le _,fun j _ I=>by omega⟩ ?_;rintro _ dd _ m ⟨k,rfl,rfl,U,u⟩ Z;refine aK ?_;by_cases C:k<ids.length
 ·refine ax oo (h.at C (aO ?_));by_cases J:x=ids[k]
  ·exact ax J (M _ ⟨fun _=>J ▸ List.getElem_mem C,fun _=>by omega⟩)
  ·refine ao J (aM oo oo ?_);refine⟨⟨k+1,ivS,rfl,C,fun j I O=>?_⟩,by rw[Z];show ids.length-((k:Int)+1).toNat<ids.length-(k:Int).toNat;omega⟩;by_cases e:j=k
   ·subst e;exact fun e=>J e.symm
   ·exact u j I oo
 ·refine ao oo (zb (M _ ⟨fun h0=>by omega,fun hx=>?_⟩));obtain⟨j,I,e⟩:=List.getElem_of_mem hx;exact absurd e (u j I oo)
theorem UT (h:IdR w B a c ids)(u:ids.length<1000000)(j:K (.bool (decide (x∈ids))) w):call Q 320 #[.slice a ids.length c,u6 x] K w:=by
 refine ak (goK func320) (yH (zam h u fun i hi=>bI ?_));rw[show decide (i≥0)=decide (x∈ids)from decide_eq_decide.2 hi];exact j
theorem zce (h:∀w',blk w' w.heap.size 87 [.slice a ids.length c]→Below w.heap.size w w'→w'.heap.size=w.heap.size+1→K (.func (.func 330) #[] #[pB w.heap.size]) w'):call Q 319 #[.slice a ids.length c] K w:=by
 refine ak (goK func319) (yG (br fun C j b1 u=>?_));exact h C (by simpa[Value.cells]using j) b1 u
theorem zcf {Y:YB}{l:Nat}(hY:Bd Y)(hl:ids.length<1000000)(Inv:Nat→World→Prop)(h:World→Prop)(U:Inv 0 w)(M:∀j w,Inv j w→blk w b 87 [.slice a ids.length c]∧IdR w B a c ids)(hy:∀j k x w K,k+j+1=ids.length→ids[k]? = some x→Inv j w→(∀w',Inv (j+1) w'→K (.bool true) w')→(∀w',h w'→K (.bool false) w')→Y [iv (k:Nat),u6 x] K w)(he:∀w',Inv ids.length w'→K (.tuple #[]) w')(hs:∀w',h w'→K (.tuple #[]) w'):CF Q Y l 330 [.func (.yield l) #[] #[],pB b] w K:=by
 refine xn (lK (v:=.slice a ids.length c) (M 0 w U).1 rfl (bh underlying87 (ba oo oo ?_)));refine wu hY (Inv:=fun i wr=>∃j:Nat,i=ci ((ids.length:Int)-1-(j:Nat))∧j≤ids.length∧Inv j wr) (μ:=fun i _=>(intOf i+1).toNat) ⟨0,by simp,Nat.zero_le _,U⟩ ?_;rintro _ dd w2 m ⟨j,rfl,hj,hI⟩ C;refine bI ?_;by_cases J:j<ids.length
 ·obtain⟨k,hk⟩:∃k:Nat,k+j+1=ids.length:=⟨ids.length-j-1,by omega⟩
  have Z:(ids.length:Int)-1-(j:Nat)=(k:Nat):=by omega
  rw[Z]at C ⊢;have u:k<ids.length:=by omega
  refine ax oo (lK (v:=.slice a ids.length c) (M j w2 hI).1 rfl ((M j w2 hI).2.at u ?_));refine .inl ⟨rfl,hy j k ids[k] w2 _ hk (gE u) hI (fun w' I => bK (aF (ba oo oo ?_))) (fun w' O => bK (aT (hs w' O)))⟩;refine⟨⟨j+1,congrArg (Value.int .i64) (by push_cast;omega),J,I⟩,by rw[C];show ((k:Int)-1+1).toNat<((k:Int)+1).toNat;omega⟩
 ·have e:j=ids.length:=by omega
  subst e;exact ao oo (he w2 hI)
end
end
end
section
section
variable {S T:List (Int×Int)}{rk:Int→Nat}
theorem VN (u:TK T rk):∀(f:Nat) (id:Int),(cv T f id).length≤upT T rk id
 | 0,_=>Nat.zero_le _
 | f+1,id=>by
  cases h:bS T id with
  | false=>simp[cv,h]
  | true =>
   have C:=VN u f (el T id);have j:=yK u (oq h);have j:upT T rk (el T id)<upT T rk id:=j;simp only[cv,h,if_true,List.length_cons];omega
theorem zcF (J:(T.map (·.1)).Nodup):∀x∈T,∀y∈T,x.1=y.1→x=y:=by
 intro x M y O h;obtain⟨i,hi,rfl⟩:=List.getElem_of_mem M;obtain⟨j,C,rfl⟩:=List.getElem_of_mem O;have I:=List.pairwise_iff_getElem.1 J;rcases Nat.lt_trichotomy i j with u|u|u
 ·exact absurd (by rw[List.getElem_map,List.getElem_map];exact h) (I i j (by simpa using hi) (by simpa using C) u)
 ·subst u;rfl
 ·exact absurd (by rw[List.getElem_map,List.getElem_map];exact h.symm) (I j i (by simpa using C) (by simpa using hi) u)
theorem insA_fst {z:Int×Int}:((gu L i z).map (·.1)).Perm (z.1::L.map (·.1)):=by
 unfold gu;rw[List.map_append,List.map_cons];refine List.perm_middle.trans ?_;rw[←List.map_append,List.take_append_drop]
structure RI (T S:List (Int×Int)) (l q:List Int):Prop where
 tk:∃rk,TK S rk
 ids:(S.map (·.1)).Perm l
 nd:l.Nodup
 par:∀n∈q,n∈l∧el S n=el T n
theorem RI.nil :RI T [] [] []:=⟨⟨_,TK.nil⟩,.refl _,List.nodup_nil,by simp⟩
theorem RI.has {l q:List Int}(h:RI T S l q){n:Int}:bS S n=true↔n∈l:=by
 rw[ja, ←h.ids.mem_iff,List.mem_map]
theorem RI.len {l q:List Int}(h:RI T S l q):S.length=l.length:=by
 have:=h.ids.length_eq;simpa using this
theorem RI.add {l q:List Int}(h:RI T S l q){n:Int}(h0:n≠0)(hn:n∉l)(hx:x=0∨x∈l)(hl:l.length<32)(h4:x=0∨l.length<4):(jm S n x).2=0∧RI T (jm S n x).1 (n::l) q∧(x=el T n→RI T (jm S n x).1 (n::l) (n::q)):=by
 obtain⟨rk,U⟩:=h.tk;have ag:=h.len;have C:bS S n=false:=by
  cases hq:bS S n with
  | false=>rfl
  | true=>exact absurd (h.has.1 hq) hn
 have hz:bS S 0=false:=by
  cases hq:bS S 0 with
  | false=>rfl
  | true=>obtain⟨y,hy,e⟩:=ja.1 hq;exact absurd e (U.nz y hy)
 have M:x=0∨bS S x=true:=hx.imp id fun O=>h.has.2 O;have ad : ¬(32≤S.length∨4≤(cC S x).length):=by
  have hu:=G7 U x;have al:=VN U (S.length+1) x;rintro(O|O)
  ·omega
  ·unfold cC at O;rcases h4 with rfl|h4
   ·rw[cv,hz]at O;simp at O
   ·omega
 have e:jm S n x=(gu S (yy (fun y=>decide (n<y.1)) S S.length) (n,x),0):=by
  unfold jm;rw[if_neg h0,C,if_neg sm,if_neg (by rintro⟨a,b⟩;rcases M with c|c;exact a c;rw[c]at b;cases b),if_neg ad]
 generalize yy (fun y=>decide (n<y.1)) S S.length=i at e;have j:((gu S i (n,x)).map (·.1)).Perm (n::l):=insA_fst.trans (h.ids.cons n);have I:(n::l).Nodup:=List.nodup_cons.2 ⟨hn,h.nd⟩;have aa:=zcF (j.nodup_iff.2 I);have u:∀m∈q,m∈n::l∧el (gu S i (n,x)) m=el T m:=fun m Z=>by
  obtain⟨a,b⟩:=h.par m Z;refine⟨List.mem_cons_of_mem _ a,?_⟩;rw[←b];exact Ig aa (pD.2 (.inr (oq (h.has.2 a))))
 have J:el (gu S i (n,x)) n=x:=Ig aa (pD.2 (.inl rfl));rw[e];refine⟨rfl,⟨⟨_,U.add h0 C M i⟩,j,I,u⟩,fun af=>⟨⟨_,U.add h0 C M i⟩,j,I,fun m Z=>?_⟩⟩;rcases List.mem_cons.1 Z with rfl|Z
 ·exact⟨List.mem_cons_self ..,J.trans af⟩
 ·exact u m Z
theorem Sa (j:∀n,bS S n=bS T n):∀(f:Nat) (id:Int),(∀n∈cv T f id,el S n=el T n)→cv S f id=cv T f id
 | 0,_,_=>rfl
 | f+1,id,h=>by
  cases u:bS T id with
  | false=>simp[cv,j,u]
  | true =>
   have e:cv T (f+1) id=id::cv T f (el T id):=by simp[cv,u]
   rw[e]at h ⊢;have C:=h id sm;simp only[cv,j,u,if_true,C];rw[Sa j f (el T id) fun n I=>h n (by simp[I])]
theorem RI.err {l:List Int}{id:Int}(h:RI T S l (cC T x))(C:l.Perm (T.map (·.1))):(jm S id x).2=(jm T id x).2:=by
 have u:∀n,bS S n=bS T n:=fun n=>by
  rw[Bool.eq_iff_iff,h.has,C.mem_iff,ja,List.mem_map]
 have j:S.length=T.length:=by rw[h.len,C.length_eq,List.length_map]
 have J:cC S x=cC T x:=by
  unfold cC;rw[j];exact Sa u _ _ fun n I=>(h.par n I).2
 unfold jm;rw[u,u,j,J];split
 ·rfl
 split
 ·rfl
 split
 ·rfl
 split<;>rfl
theorem RZ (I:TK T rk):∀(f:Nat) (id:Int),upT T rk id≤f→∀i n,(cv T f id)[i]? = some n→n≠0∧bS T n=true∧((i+1=(cv T f id).length∧el T n=0)∨(cv T f id)[i+1]? = some (el T n))
 | 0,_,_,i,n,h=>by simp[cv]at h
 | f+1,id,hu,i,n,h=>by
  cases u:bS T id with
  | false=>simp[cv,u]at h
  | true =>
   have e:cv T (f+1) id=id::cv T f (el T id):=by simp[cv,u]
   rw[e]at h ⊢;have aa:upT T rk (el T id)<upT T rk id:=yK I (oq u);cases i with
   | zero =>
    simp at h;subst h;refine⟨I.nz _ (oq u),u,?_⟩;cases j:bS T (el T id)with
    | false =>
     left;refine⟨?_,?_⟩
     ·cases f<;>simp[cv,j]
     ·rcases I.up _ (oq u)with M|⟨y,hy,J,_⟩
      ·exact M
      ·rw[ja.2 ⟨y,hy,J⟩]at j;cases j
    | true =>
     right;obtain⟨f',rfl⟩:∃f',f=f'+1:=⟨f-1,by
      have:0<upT T rk (el T id):=by unfold upT;rw[j];exact Nat.succ_pos _
      omega⟩
     simp[cv,j]
   | succ i =>
    simp only[List.getElem?_cons_succ]at h ⊢;obtain⟨O,U,C⟩:=RZ I f (el T id) oo i n h;refine⟨O,U,?_⟩;rcases C with⟨C,Z⟩|C
    ·exact .inl ⟨by simp;omega,Z⟩
    ·exact .inr C
theorem Jz (C:TK T rk):∀(f:Nat) (id:Int),(cv T f id).Pairwise fun a b=>upT T rk b<upT T rk a
 | 0,_=>List.Pairwise.nil
 | f+1,id=>by
  cases I:bS T id with
  | false=>simp[cv,I]
  | true =>
   have e:cv T (f+1) id=id::cv T f (el T id):=by simp[cv,I]
   rw[e,List.pairwise_cons];refine⟨?_,Jz C f _⟩;have M:upT T rk (el T id)<upT T rk id:=yK C (oq I);have J:∀(f:Nat) (j:Int),∀b∈cv T f j,upT T rk b≤upT T rk j:=by
    intro f
    induction f with
    | zero=>intro j b h;simp[cv]at h
    | succ f ih =>
     intro j b h;cases u:bS T j with
     | false=>simp[cv,u]at h
     | true =>
      simp only[cv,u,if_true,List.mem_cons]at h;rcases h with rfl|h
      ·exact Nat.le_refl _
      ·have:=ih _ _ h
       have O:upT T rk (el T j)<upT T rk j:=yK C (oq u);omega
   intro b h
   have:=J f _ b h
   omega
end
end
section
attribute [local irreducible] bin un conv call aZ blt slc ai fld aL idx lkp cP eP eSt rng nxt ent ext alc box bld bg ld sto aJ cr mkS ifc pick rdy wts aG sti cond aV Gives ah dy dP cOp
section
open Go.RowKit
theorem MF {V:List Int}(h:V.length=6):jf Q 3 33 (vCs V)=true:=by
 obtain⟨_,_,_,_,_,_,rfl⟩:=Ut h
 kernel_rfl
theorem zcJ {B:List Int}(hA:A.length=6)(hB:B.length=6)(hb:blk w b 33 (vCs A++vCs B))(h:∀w',Below w.heap.size w w'→K (.agg (vCs (jV A B)).toArray) w'):call Q 166 #[.slice (some ⟨b,0,none⟩) 2 2,.func (.func 167) #[] #[]] K w:=by
 have lA:=bo (V:=A);have lB:=bo (V:=B);refine ak (goK func166) (RJ ?_);refine br fun w1 hc b1 s1=>?_;have hc:=cZ hc
 have C:=ae b1 hb hb.lt;refine Il fun w2 ht b2 s2=>?_;have u:=ae b2 C C.lt;have I:=ae b2 hc hc.lt;refine bh underlying277 (aO (ao dc ?_))
 refine dQ underlying277 (s:=6) kf dc dc <|ldA (n:=6) (vs:=vCs A) underlying33 rfl kr u (by show ((vCs A++vCs B).drop 0).take 6=_;rw[List.drop_zero,List.take_append_of_le_length oo,tL oo]) oo ?_;refine Il fun w3 ho b3 s3=>?_;have an:=ae b3 ht ht.lt;refine G8 rfl hA ho fun w4 U o4=>?_
 have g4:Below w.heap.size w w4:=aR ((b1.trans (b2.mono oo)).trans (b3.mono oo)) o4 oo;have al:=o4.blk (ae b3 u u.lt) (by have:=hb.lt;omega);have J:=o4.blk (ae b3 I I.lt) oo;have Z:=o4.blk an oo;have s4:=o4.size
 refine zeU (q:=1) (s:=6) underlying277 kf oo oo <|bh underlying277 <|P5 (Inv:=fun i wr=>(i=ci 0∧wr=w4)∨(i=ci 1∧Below w.heap.size w wr∧blk wr w2.heap.size 33 (vCs (jV A B))∧blk wr w1.heap.size 33 (vCs [0,0,0,0,0,0]))) (μ:=fun i _=>6-(intOf i).toNat) (.inl ⟨rfl,rfl⟩) ?_;rintro _ dd w5 m hI hm;rcases hI with⟨rfl,rfl⟩|⟨rfl,g5,am,ap⟩
 ·refine aK (ax dc ?_);refine dQ underlying277 (s:=6) kf dc dc <|ldA (n:=6) (vs:=vCs B) underlying33 rfl kr al (by show ((vCs A++vCs B).drop 6).take 6=_;rw[List.drop_append_of_le_length oo,List.drop_of_length_le oo,List.nil_append,tL oo]) oo ?_;refine Il fun w6 hv b6 s6=>?_
  refine G8 rfl hB hv fun w7 ad o7=>?_;have j:=o7.blk (ae b6 U U.lt) oo;have M:=o7.blk (ae b6 J J.lt) oo;have aa:=o7.blk (ae b6 Z Z.lt) oo;have g7:Below w.heap.size w w7:=aR (g4.trans (b6.mono oo)) o7 oo;have s7:=o7.size
  refine RC (G:=jV A B) qu (fun k hk w8 b8 K' ag => dn rfl (zbJ hA hB hk (ae b8 M M.lt) (ae b8 j j.lt) (ae b8 ad ad.lt) (ag _ ⟨rfl,rfl,rfl,Nat.le_refl _,fun _ _=>rfl⟩))) fun w9 b9=>?_;refine G8 hA qu (ae b9 j j.lt) fun av O af=>aM dc dc ?_
  have:=b9.size
  refine⟨.inr ⟨rfl,aR (g7.trans (b9.mono oo)) af oo,O,af.blk (ae b9 aa aa.lt) oo⟩,by rw[hm];decide⟩
 ·refine aK (ao dc (P6 ?_));refine sa qu am (G8 rfl qu ap fun w6 ar o6=>?_);exact Cx (v:=.agg (vCs (jV A B)).toArray) (fun _=>sa qu ar) (h _ (aR g5 o6 oo))
theorem Wa {B:List Int}(J:A.length=6)(M:B.length=6)(C:blk w b 33 (vCs A++vCs B))(h:∀w',Below w.heap.size w w'→K (.agg (vCs (jV A B)).toArray) w'):call Q 114 #[.slice (some ⟨b,0,none⟩) 2 2] K w:=by
 refine ak (goK func114) (RD ?_);refine Il fun Z I b1 U=>?_;refine zcJ J M (ae b1 C C.lt) fun w2 u=>?_;refine G8 rfl qu (ae u I I.lt) fun w3 j O=>?_;exact Cx (v:=.agg (vCs (jV A B)).toArray) (fun _=>sa qu j) (h _ (aR (b1.trans (u.mono oo)) O oo))
theorem Wb {B:List Int}(M:A.length=6)(j:B.length=6)(h:∀w',Below w.heap.size w w'→K (.bool (leV A B)) w'):call Q 163 #[.agg (vCs A).toArray,.agg (vCs B).toArray] K w:=by
 refine ak (goK func163) (RE ?_);refine yf M fun w1 h1 b1 s1=>yf j fun w2 h2 b2 s2=>?_;have u:=ae b2 h1 h1.lt;refine au (fun x=>blk x w.heap.size 33 (vCs A)∧blk x w1.heap.size 33 (vCs B)) ⟨u.drew,h2.drew⟩ <|ab (fun x O _=>sa M O.1) <|ab (fun x O _=>sa j O.2) <|ab (fun x O _=>sa j O.2) ?_
 refine oG [.agg (vCs A).toArray,.agg (vCs B).toArray] underlying277 (s:=6) kr kr oo rfl sm dc rfl (by
  intro v hv;simp only[List.mem_cons,List.not_mem_nil,or_false]at hv;rcases hv with rfl|rfl
  ·have:=congrArg List.length (pM M);rw[bo,M]at this;simpa using this
  ·have:=congrArg List.length (pM j);rw[bo,j]at this;simpa using this) fun w3 h3 U s3=>?_
 have h3:blk w3 w2.drew.heap.size 33 (vCs A++vCs B):=by
  have e:([Value.agg (vCs A).toArray,.agg (vCs B).toArray].flatMap fun v=>v.cells.toList)=vCs A++vCs B:=by
   simp only[List.flatMap_cons,List.flatMap_nil,List.append_nil,pM M,pM j]
  rwa[e]at h3
 have I:=ae U u u.lt;have C:=ae U h2 h2.lt;refine aC ⟨I,C⟩ ?_;refine Wa M j h3 fun w4 Z=>?_;refine aC ⟨ae Z I I.lt,ae Z C C.lt⟩ ?_;refine ab (v:=.bool (leV A B)) (fun x O K J=>Hw 3 oo kr kr (MF qu) (MF j) fun r hr=>by
  have:r=leV A B:=by rw[zcI,zey j]at hr;exact Bool.eq_iff_iff.2 hr
  rw[this];exact J) ?_
 have g2:Below w.heap.size w w2.drew:=(b1.trans (b2.mono oo)).drew;have aa:=g2.size;have g3:=g2.trans (U.mono aa);exact h _ (g3.trans (Z.mono g3.size))
theorem EV.V_len {e:EV}:e.V.length=6:=rfl
theorem zbE {e:EV}(j:blk w b 35 (evC e))(h:K (.agg (vCs e.V).toArray) w):ld Q 33 (pA b 2) K w :=
 ldA (n:=6) (vs:=vCs e.V) underlying33 rfl kr j rfl rfl h
theorem yk {e:EV}(h:∀w',blk w' w.heap.size 35 (evC e)→Below w.heap.size w w'→w'.heap.size=w.heap.size+1→K (pA w.heap.size 0) w'):box Q 35 (.agg (evC e).toArray) K w :=
 br fun w' j b s=>h w' (by simpa[Value.cells]using j) b s
theorem dT {e:EV}(j:blk w b 35 (evC e))(h:K (.agg (evC e).toArray) w):ld Q 35 (pA b 0) K w :=
 ldA (n:=14) (vs:=evC e) underlying35 rfl kr j rfl rfl h
theorem Mv {V:List Int}{e:EV}(O:V.length=6)(h:∀w',Below w.heap.size w w'→K (.bool (qQ V e)) w'):call Q 161 #[.agg (vCs V).toArray,.agg (evC e).toArray] K w:=by
 refine ak (goK func161) (Sx ?_);refine yf O fun w1 h1 b1 s1=>yk fun w2 M Z s2=>?_;have j:=ae Z h1 h1.lt;refine dT M (Cs fun w3 C=>?_);have J:=ae C j j.lt;have u:=ae C M M.lt;have I:=(b1.trans (Z.mono oo)).trans (C.mono oo);cases U:bJ e with
 | false =>
  refine nY (dh ?_)
  have:=h _ I
  unfold qQ at this;rwa[U,Bool.false_and]at this
 | true =>
  refine qq (sa O J (bw (lK (v:=iv e.o) u rfl (gN (lK (v:=u6 e.s) u rfl (zeb O fun w4 b4=>cz ?_))))))
  have:=h _ (I.trans (b4.mono I.size))
  obtain⟨o1,o6,s1,s2⟩:=gW U;unfold qQ at this;rw[U,Bool.true_and]at this;have hr:bG e.o=true:=by unfold bG;simp;omega
  show K (Value.bool (bG e.o&&(decide (e.s>0)&&decide (V.getD (e.o-1).toNat 0≥e.s)))) w4;rwa[hr,Bool.true_and,show decide (e.s>0)=true from decide_eq_true oo,Bool.true_and]
theorem Oz {V:List Int}{e:EV}(O:V.length=6)(hv:∀k,k<6→0≤V.getD k 0)(h:∀w',Below w.heap.size w w'→K (.bool (eX V e)) w'):call Q 162 #[.agg (vCs V).toArray,.agg (evC e).toArray] K w:=by
 refine ak (goK func162) (Rc ?_);refine yf O fun w1 C b1 s1=>yk fun w2 J b2 s2=>?_;have I:=(ae b2 C C.lt).drew;have J:=J.drew;have g2:Below w.heap.size w w2.drew:=(b1.trans (b2.mono oo)).drew;refine au (fun x=>blk x w1.heap.size 35 (evC e)) J <|ab (fun x u _=>dT u) ?_;refine Cs fun w3 U=>?_;have Z:=ae U I I.lt;have aa:=ae U J J.lt;have M:=g2.trans (U.mono g2.size)
 refine au (fun x=>blk x w.heap.size 33 (vCs V)∧blk x w1.heap.size 35 (evC e)) ⟨Z,aa⟩ ?_;have nt:asB (.bool false)≠some true:=by simp[asB]
 cases hm:bJ e with
 | false =>
  have:=h _ M
  unfold eX at this;rw[hm,Bool.false_and]at this
  iterate 9 refine qr nt ?_
  refine ab (fun x u _=>dh) ?_
  iterate 3 refine qr nt ?_
  refine xGn nt ?_;exact au (fun _=>True) trivial (ab (fun x u _=>dh) this)
 | true =>
  obtain⟨o1,o6,ad,af⟩:=gW hm;obtain⟨k,hk⟩:∃k:Nat,k=(e.o-1).toNat:=⟨_,rfl⟩
  have e2:eX V e=(decide (V.getD k 0=e.s-1)&&leV e.V V):=by
   unfold eX leV;rw[hm,Bool.true_and, ←hk]
   congr 1
   exact decide_eq_decide.2 oo
  refine fy rfl (fun x u _=>bw) <|fy rfl (fun x u _=>lK (v:=iv e.o) u.2 rfl) <|fy (x:=iv (k:Nat)) rfl (fun x u K j=>jK (by rw[eU oo oo,show (e.o-1)=(k:Nat)by omega];exact j)) <|fy rfl (fun x u _=>ixV rfl oo) <|fy (x:=u6 (V.getD k 0)) rfl (fun x u _=>lK u.1 (by rw[Nat.zero_add];exact yY O oo)) <|fy rfl (fun x u _=>gN) <|fy rfl (fun x u _=>lK (v:=u6 e.s) u.2 rfl) <|fy (x:=u6 (e.s-1)) rfl (fun x u K j=>jK (by rw[eu,show (e.s-1)%18446744073709551616=e.s-1 by omega];exact j)) <|fy rfl (fun x u _=>aO) <|ab (fun x u _=>cz) ?_
  by_cases C:V.getD k 0=e.s-1
  ·refine fy (Mf C) (fun x u _=>qn) <|fy (Mf C) (fun x u _=>zbE u.2) <|fy (Mf C) (fun x u _=>sa O u.1) ?_;refine Hv (Mf C) (Wb EV.V_len O fun w4 b4=>?_)
   have:=h _ (M.trans (b4.mono M.size))
   rw[e2,decide_eq_true C,Bool.true_and]at this;exact au (fun _=>True) trivial (ab (fun x u _=>bA C) this)
  ·have:=h _ M
   rw[e2,decide_eq_false C,Bool.false_and]at this
   iterate 3 refine qr (SH C) ?_
   refine xGn (SH C) ?_;exact au (fun _=>True) trivial (ab (fun x u _=>bj C) this)
end
end
end Go.Proofs.YtkfgimlaijifaaaGreatDoor
