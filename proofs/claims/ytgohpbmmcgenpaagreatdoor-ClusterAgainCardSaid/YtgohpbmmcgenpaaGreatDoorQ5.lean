import Derived.Test.YtgohpbmmcgenpaaGreatDoorQ4
import Derived.Test.YtgohpbmmcgenpaaGreatDoorQ3
import Derived.Test.YtgohpbmmcgenpaaGreatDoorQ2
namespace Go.Proofs.YtgohpbmmcgenpaaGreatDoor
set_option maxRecDepth 100000
set_option linter.defProp false
set_option maxHeartbeats 4000000
open Go.Proofs.Tryz
open Go.RowKit
variable {w w' w0 w2 S O:oG}{zf:Nat->oF}{b c o i g m s j z f d c2 D ba hi:Nat}{a av a2:Option Addr}{x v r N:Int}{E t e:TypeId}{A:List Int}{B1:KE}{xs ys vs:oE}{P:Program}{cx cy:Bool}{T:List (Int×Int)}{P1:oE->oG->Prop}{Z1 N2 O2 P2 Q2 R2 T2 U2 V2 X2 N3 O3 P3 Q3 T3 U3 V3 W3 H Z U Y J C:oF}
section
attribute [local irreducible] bin un conv call bS blt slc aq fld bv idx lkp fJ nl eSt rng nxt ent ext alc box bld cH ld sto bj fK mkS ifc pick rdy wts aT sti cond bA Gives aj iK kH cOp
def YD{k:Nat}(a:k<6)(b:nu A=true):Kp A k=kK A k:=by rw[Yu A a,b]
def zaA{i:Int}:vz A i x=oh A x (bO i) (if kK A (i-1).toNat<x then 11 else 0) (6+(i-1).toNat):=by
 unfold vz oh IN;generalize (i-1).toNat=k;by_cases a:nu A=false\/x<1\/MXA<x
 .simp only[oJ a];simp
 .simp only[oI a];cases bO i with
  | false=>simp
  | true =>
   by_cases b:kK A k<x
   .simp[b]
   .simp[b]
def za5{i:Int}:wU A i x=oh A x (bO i) (if nA A (6+(i-1).toNat)-nA A (12+(i-1).toNat)<x then 12 else 0) (12+(i-1).toNat):=by
 unfold wU oh IN;obtain⟨k,d⟩:∃k:Nat,k=(i-1).toNat:=⟨_,rfl⟩
 rw[<-d];by_cases a:nu A=false\/x<1\/MXA<x
 .simp only[oJ a];simp
 .simp only[oI a];cases g:bO i with
  | false=>simp
  | true =>
   by_cases b:nA A (6+k)-nA A (12+k)<x
   .simp[b]
   .have e:nu A=true:=by cases f:nu A with|true=>rfl|false=>exact qI (.inl f) a
    have h:1<=i/\i<=6:=by simpa[bO]using g
    have:=Sk e (6+k) oo
    have c : ¬MXA<nA A (12+k)+x:=by omega
    unfold CN;rw[oI c];simp[b]
def zak{i j:Int}:xZ A i j x=oh A x (bO i&&bO j) (if i=j then 1 else if kK A (i-1).toNat<x then 11 else 0) (18+6*(i-1).toNat+(j-1).toNat):=by
 unfold xZ oh IN;generalize (i-1).toNat=k;generalize (j-1).toNat=m;by_cases b:nu A=false\/x<1\/MXA<x
 .simp only[oJ b];simp
 .simp only[oI b];cases bO i with
  | false=>simp
  | true =>
   cases bO j with
   | false=>simp
   | true =>
    by_cases a:i=j
    .simp[a]
    .by_cases c:kK A k<x
     .simp[c,a]
     .simp[c,a]
def Ly(A:List Int)(x:Int)(b:Bool)(E:Int)(q:Nat)(a:A.length=54):(oh A x b E q).1.length=54:=by
 unfold oh CN;split
 .rfl
 split
 .rfl
 split
 .rfl
 split
 .rfl
 .simp[a]
section
variable  {K:KV}
def Uv(h:∀S,blk S w.heap.size 56 (A.map iv)->Below w.heap.size w S->S.heap.size=w.heap.size+1->K (pA w.heap.size 0) S):box Q 56 (.agg (A.map iv).toArray) K w :=
 bU λS a b s=>h S (by simpa[Value.cells]using a) b s
def Ph(h:∀S,blk S w.heap.size t [iv x]->Below w.heap.size w S->S.heap.size=w.heap.size+1->K (pA w.heap.size 0) S):box Q t (iv x) K w :=
 bU λS a b s=>h S (by simpa[Value.cells,iv]using a) b s
def CE(h:∀S,blk S w.heap.size 56 (z54.map iv)->Below w.heap.size w S->S.heap.size=w.heap.size+1->K (pA w.heap.size 0) S):alc Q 56 K w :=
 cD (z:=.agg (z54.map iv).toArray) kr λS a b s=>h S (by simpa[Value.cells]using a) b s
def uP(a:A.length=54)(c:blk w b 56 (A.map iv))(h:K (.agg (A.map iv).toArray) w):ld Q 56 (pA b 0) K w :=
 ldA (n:=54) (vs:=A.map iv) underlying56 rfl kr c (by rw[oX,tL (by simp[a])]) (by simp[a]) h
structure R3(w0 w:oG) (A:List Int) (i x:Int):Prop where
 r:blk w w0.heap.size 56 (A.map iv)
 i:blk w (w0.heap.size+1) 3 [iv i]
 x:blk w (w0.heap.size+2) 2 [iv x]
 t:blk w (w0.heap.size+3) 56 (z54.map iv)
 bel:Below w0.heap.size w0 w
def R3.fresh{i:Int}(g:R3 O w A i x)(a:Below w.heap.size w S):R3 O S A i x :=
 ⟨ae a g.r g.r.lt,ae a g.i g.i.lt,ae a g.x g.x.lt,ae a g.t g.t.lt,g.bel.trans (a.mono g.bel.size)⟩
def R3.drew{i:Int}(g:R3 S w A i x):R3 S w.drew A i x:=g.fresh (jT _ w).drew
def zgV{i:Int}(f:A.length=54)(k:nu A=true)(j:bO i=true)(g:R3 S w A i x)(h:∀O,Below w.heap.size w O->K (ci (if kK A (i-1).toNat<x then 11 else 0)) O):call Q 319 #[pA (S.heap.size+2) 0,pA S.heap.size 0,pA (S.heap.size+1) 0] K w:=by
 have m:1<=i/\i<=6:=by simpa[bO]using j
 refine ao (goK func319) (SL ?_);have e:=g.drew;refine ax (λy=>R3 S y A i x) e <|ac (λy b _=>lK (v:=iv x) b.x rfl) <|ac (λy b _=>uP f b.r) <|ac (λy b _=>lK (v:=iv i) b.i rfl) ?_;refine Ng f λl d=>?_;refine aI (e.fresh d) ?_;rw[j,oJ rfl,YD oo k];refine ac (λy b _=>dE) ?_;refine VU (ax (λ_=>True) trivial ?_)
 have:=h l ((jT _ w).drew.trans (d.mono oA))
 by_cases c:kK A (i-1).toNat<x
 .rw[oJ c]at this;rw[oJ (by simpa using c)];exact this
 .rw[oI c]at this;rw[oI (by simpa using c)];exact this
def zfZ{i:Int}(p:A.length=54)(n:nu A=true)(o:bO i=true)(g:R3 S w A i x)(h:∀O,Below w.heap.size w O->K (ci (if nA A (6+(i-1).toNat)-nA A (12+(i-1).toNat)<x then 12 else 0)) O):call Q 322 #[pA (S.heap.size+2) 0,pA S.heap.size 0,pA (S.heap.size+1) 0] K w:=by
 have q:1<=i/\i<=6:=by simpa[bO]using o
 refine ao (goK func322) (SG ?_);have j:=g.drew;have d:=Sk n;obtain⟨k,m⟩:∃k:Nat,k=(i-1).toNat:=⟨_,rfl⟩
 rw[<-m]at h;have e:=d (6+k) oo;have f:=d (12+k) oo;have l:MXA=1125899906842624:=rfl;rw[l]at e f
 refine ax (λy=>R3 S y A i x) j <|ac (λy b _=>lK (v:=iv x) b.x rfl) <|ac (λy b _=>lK (v:=iv i) b.i rfl) <|ac (v:=iv (k:Nat)) (λy b K a=>nT (by rw[eY oo oo,show (i-1)=(k:Nat)by omega];exact a)) <|ac (λy b _=>Ye) <|ac (λy b _=>ixR rfl oo) <|ac (v:=iv (nA A (6+k))) (λy b _=>lK b.r (by rw[oK];exact Hl oo)) <|ac (λy b _=>lK (v:=iv i) b.i rfl) <|ac (v:=iv (k:Nat)) (λy b K a=>nT (by rw[eY oo oo,show (i-1)=(k:Nat)by omega];exact a)) <|ac (λy b _=>Yf) <|ac (λy b _=>ixR rfl oo) <|ac (v:=iv (nA A (12+k))) (λy b _=>lK b.r (by rw[oK];exact Hl oo)) <|ac (v:=iv (nA A (6+k)-nA A (12+k))) (λy b K a=>nT (by rw[eY oo oo];exact a)) <|ac (λy b _=>dE) ?_
 refine VU (ax (λ_=>True) trivial ?_)
 have:=h _ (jT _ w).drew
 by_cases c:nA A (6+k)-nA A (12+k)<x
 .rw[oJ c]at this;rw[oJ (by simpa using c)];exact this
 .rw[oI c]at this;rw[oI (by simpa using c)];exact this
def zgW{p:Nat}{i:Int}(e:bO i=true)(d:blk w p 3 [iv i])(h:K (pA b (6+(i-1).toNat)) w.drew):call Q 321 #[pA b 0,pA p 0] K w:=by
 have f:1<=i/\i<=6:=by simpa[bO]using e
 obtain⟨k,c⟩:∃k:Nat,k=(i-1).toNat:=⟨_,rfl⟩
 rw[<-c]at h;refine ao (goK func321) (SM ?_);refine ah (λ_=>lK (v:=iv i) d.drew rfl) <|ah (v:=iv (k:Nat)) (λK a=>nT (by rw[eY oo oo,show (i-1)=(k:Nat)by omega];exact a)) ?_;refine ah (λ_=>au) (ah (λ_=>Ye) (ah (λK a=>ixR rfl oo (by rw[oK];exact a)) h))
def zg0{p:Nat}{i:Int}(e:bO i=true)(d:blk w p 3 [iv i])(h:K (pA b (12+(i-1).toNat)) w.drew):call Q 323 #[pA b 0,pA p 0] K w:=by
 have f:1<=i/\i<=6:=by simpa[bO]using e
 obtain⟨k,c⟩:∃k:Nat,k=(i-1).toNat:=⟨_,rfl⟩
 rw[<-c]at h;refine ao (goK func323) (SH ?_);refine ah (λ_=>lK (v:=iv i) d.drew rfl) <|ah (v:=iv (k:Nat)) (λK a=>nT (by rw[eY oo oo,show (i-1)=(k:Nat)by omega];exact a)) ?_;refine ah (λ_=>au) (ah (λ_=>Yf) (ah (λK a=>ixR rfl oo (by rw[oK];exact a)) h))
end
end
section
def yS{b:Addr}{v u:oF}{K:KV}(f:∀K':KV,K' v w->ld P t (.pointer (some b)) K' w)(h:K (.tuple #[v,u]) w):bA P [(some t,.pointer (some b)),(none,u)] K w:=by
 have e:(loadVar t b).run P w=.ok v w:=by
  have:=f (λc d => c=v/\d=w) ⟨rfl,rfl⟩
  unfold ld okV at this;unfold Instr.loadAt at this;simp only[Instr.sureAddr,jX,jW,jU]at this;split at this
  .rename_i c d a;rw[a,this.1,this.2]
  .exact this.elim
 unfold bA
 have:(qk [(some t,.pointer (some b)),(none,u)]).run P w=.ok (.tuple #[v,u]) w:=by simp[qk,asAddr,jX,e]
 rw[this];exact⟨rfl,h⟩
attribute [local irreducible] bin un conv call bS blt slc aq fld bv idx lkp fJ nl eSt rng nxt ent ext alc box bld cH ld sto bj fK mkS ifc pick rdy wts aT sti cond bA Gives aj iK kH cOp
section
variable  {K:KV}
def AO{B:List Int}(c:A.length=54)(d:B.length=54)(f:blk w b 56 (A.map iv))(h:∀S,blk S b 56 (B.map iv)->Oth b w S->K undef S):sto Q 56 (pA b 0) (.agg (B.map iv).toArray) K w:=by
 refine fY (n:=54) kr (by simp[d]) f (by simp[c]) (zbe _) λS a o=>h S ?_ o;have e:(A.map iv).take 0++B.map iv++(A.map iv).drop (0+54)=B.map iv:=by rw[qX,oV,oS (by simp[c]),oW]
 rwa[e]at a
def R3.make{i:Int}{K4:oF->oF->oF->oF->oG->Prop}(h:∀S,R3 w S A i x->S.heap.size=w.heap.size+4->K4 (pA w.heap.size 0) (pA (w.heap.size+1) 0) (pA (w.heap.size+2) 0) (pA (w.heap.size+3) 0) S):box Q 56 (.agg (A.map iv).toArray) (λr=>box Q 3 (iv i) λj=>box Q 2 (iv x) λy=>alc Q 56 λt w=>K4 r j y t w) w:=by
 refine Uv λB f n m=>Ph λp g c u=>Ph λq k b v=>CE λs l a z=>?_;have d:p.heap.size=w.heap.size+2:=by omega
 have e:q.heap.size=w.heap.size+3:=by omega
 have o:=h s ⟨ae a (ae b (ae c f f.lt) oo) oo,by rw[m]at g;exact ae a (ae b g oo) oo,by rw[d]at k;exact ae a k oo,by rw[e]at l;exact l,(((n.trans (c.mono oo)).trans (b.mono oo)).trans (a.mono oo))⟩ oo;rw[m,d,e];exact o
def R3.fin{B:List Int}{i e:Int}(b:B.length=54)(g:R3 O w A i x)(h:∀w',Below O.heap.size O w'->K (.tuple #[.agg (B.map iv).toArray,ci e]) w'):aL (λS w=>hld S (ext Q (.tuple #[.agg (B.map iv).toArray,ci e]) 0) λa=>hld S (ext Q (.tuple #[.agg (B.map iv).toArray,ci e]) 1) λb=>sto Q 56 (pA (O.heap.size+3) 0) a (λ_=>aL λ_=>bA Q [(some 56,pA (O.heap.size+3) 0),(none,b)] K) w) w:=by refine ax (λ_=>True) trivial ?_;refine ac (λy d _=>bK) (ac (λy d _=>bJ) ?_);exact AO rfl b g.t λj c f=>ax (λ_=>True) trivial (yS (λ_=>uP b c) (h _ (gI g.bel f oo)))
def zgA{i:Int}(g:A.length=54)(h:∀S,Below w.heap.size w S->K (.tuple #[.agg ((vz A i x).1.map iv).toArray,ci (vz A i x).2]) S):call Q 306 #[.agg (A.map iv).toArray,iv i,iv x] K w:=by
 refine ao (goK func306) (VY (R3.make λt a s=>?_));have a:=a.drew;refine ax (λy=>R3 w y A i x) a <|ac (λy k _=>uP g k.r) <|ac (λy k _=>lK (v:=iv x) k.x rfl) <|ac (λy k _=>lK (v:=iv i) k.i rfl) ?_;refine IK (aI a ?_);rw[zaA]at h;have l:=Ly A x (bO i) (if kK A (i-1).toNat<x then 11 else 0) (6+(i-1).toNat) g;by_cases f:bO i=true
 .have p:1<=i/\i<=6:=by simpa[bO]using f
  refine Ec (q:=6+(i-1).toNat) (E:=if kK A (i-1).toNat<x then 11 else 0) g oo (λo _ _ _ n c b d => cB rfl (zgV g o f (a.fresh c) d))
   (λ_ n b c e d => cB rfl (zgW f (a.fresh c).i d)) λn c=>(a.fresh c).fin l h
 .have f:bO i=false:=by simpa using f
  rw[f]at l h |-;have e:oh A x false (if kK A (i-1).toNat<x then 11 else 0) (6+(i-1).toNat)=oh A x false 0 0:=rfl;rw[e]at h l;exact Ec (q:=0) (E:=0) g oo (λ_ _ _ m=>by cases m) (λm=>by cases m) λn c=>(a.fresh c).fin l h
def zgu{i:Int}(g:A.length=54)(h:∀S,Below w.heap.size w S->K (.tuple #[.agg ((wU A i x).1.map iv).toArray,ci (wU A i x).2]) S):call Q 309 #[.agg (A.map iv).toArray,iv i,iv x] K w:=by
 refine ao (goK func309) (VW (R3.make λt a s=>?_));have a:=a.drew;refine ax (λy=>R3 w y A i x) a <|ac (λy k _=>uP g k.r) <|ac (λy k _=>lK (v:=iv x) k.x rfl) <|ac (λy k _=>lK (v:=iv i) k.i rfl) ?_;refine IK (aI a ?_);rw[za5]at h;have l:=Ly A x (bO i) (if nA A (6+(i-1).toNat)-nA A (12+(i-1).toNat)<x then 12 else 0) (12+(i-1).toNat) g;by_cases f:bO i=true
 .have p:1<=i/\i<=6:=by simpa[bO]using f
  refine Ec (q:=12+(i-1).toNat) (E:=if nA A (6+(i-1).toNat)-nA A (12+(i-1).toNat)<x then 12 else 0) g oo (λo _ _ _ n c b d => cB rfl (zfZ g o f (a.fresh c) d))
   (λ_ n b c e d => cB rfl (zg0 f (a.fresh c).i d)) λn c=>(a.fresh c).fin l h
 .have f:bO i=false:=by simpa using f
  rw[f]at l h |-;have e:oh A x false (if nA A (6+(i-1).toNat)-nA A (12+(i-1).toNat)<x then 12 else 0) (12+(i-1).toNat)=oh A x false 0 0:=rfl;rw[e]at h l;exact Ec (q:=0) (E:=0) g oo (λ_ _ _ m=>by cases m) (λm=>by cases m) λn c=>(a.fresh c).fin l h
end
end
section
attribute [local irreducible] bin un conv call bS blt slc aq fld bv idx lkp fJ nl eSt rng nxt ent ext alc box bld cH ld sto bj fK mkS ifc pick rdy wts aT sti cond bA Gives aj iK kH cOp
structure R4(w0 w:oG) (A:List Int) (i j x:Int):Prop where
 r:blk w w0.heap.size 56 (A.map iv)
 i:blk w (w0.heap.size+1) 3 [iv i]
 j:blk w (w0.heap.size+2) 3 [iv j]
 x:blk w (w0.heap.size+3) 2 [iv x]
 t:blk w (w0.heap.size+4) 56 (z54.map iv)
 bel:Below w0.heap.size w0 w
def R4.fresh{i j:Int}(g:R4 O w A i j x)(a:Below w.heap.size w S):R4 O S A i j x :=
 ⟨ae a g.r g.r.lt,ae a g.i g.i.lt,ae a g.j g.j.lt,ae a g.x g.x.lt,ae a g.t g.t.lt,g.bel.trans (a.mono g.bel.size)⟩
def R4.drew{i j:Int}(g:R4 S w A i j x):R4 S w.drew A i j x:=g.fresh (jT _ w).drew
section
variable  {K:KV}
def R4.make{i j:Int}{K5:oF->oF->oF->oF->oF->oG->Prop}(h:∀S,R4 w S A i j x->S.heap.size=w.heap.size+5->K5 (pA w.heap.size 0) (pA (w.heap.size+1) 0) (pA (w.heap.size+2) 0) (pA (w.heap.size+3) 0) (pA (w.heap.size+4) 0) S):box Q 56 (.agg (A.map iv).toArray) (λr=>box Q 3 (iv i) λp=>box Q 3 (iv j) λq=>box Q 2 (iv x) λy=>alc Q 56 λt w=>K5 r p q y t w) w:=by
 refine Uv λI k u s=>Ph λz l d E=>Ph λB m c F=>Ph λC n b G=>CE λD o a H=>?_;have e:z.heap.size=w.heap.size+2:=by omega
 have f:B.heap.size=w.heap.size+3:=by omega
 have g:C.heap.size=w.heap.size+4:=by omega
 have v:=h D ⟨ae a (ae b (ae c (ae d k k.lt) oo) oo) oo,by rw[s]at l;exact ae a (ae b (ae c l oo) oo) oo,by rw[e]at m;exact ae a (ae b m oo) oo,by rw[f]at n;exact ae a n oo,by rw[g]at o;exact o,((((u.trans (d.mono oo)).trans (c.mono oo)).trans (b.mono oo)).trans (a.mono oo))⟩ oo
 rw[s,e,f,g];exact v
def R4.fin{B:List Int}{i j e:Int}(b:B.length=54)(g:R4 O w A i j x)(h:∀w',Below O.heap.size O w'->K (.tuple #[.agg (B.map iv).toArray,ci e]) w'):aL (λS w=>hld S (ext Q (.tuple #[.agg (B.map iv).toArray,ci e]) 0) λa=>hld S (ext Q (.tuple #[.agg (B.map iv).toArray,ci e]) 1) λb=>sto Q 56 (pA (O.heap.size+4) 0) a (λ_=>aL λ_=>bA Q [(some 56,pA (O.heap.size+4) 0),(none,b)] K) w) w:=by refine ax (λ_=>True) trivial ?_;refine ac (λy d _=>bK) (ac (λy d _=>bJ) ?_);exact AO rfl b g.t λk c f=>ax (λ_=>True) trivial (yS (λ_=>uP b c) (h _ (gI g.bel f oo)))
def zgl{i j:Int}(k:A.length=54)(m:nu A=true)(l:bO i=true)(g:R4 S w A i j x)(h:∀O,Below w.heap.size w O->K (ci (if i=j then 1 else if kK A (i-1).toNat<x then 11 else 0)) O):call Q 324 #[pA (S.heap.size+1) 0,pA (S.heap.size+2) 0,pA (S.heap.size+3) 0,pA S.heap.size 0] K w:=by
 have o:1<=i/\i<=6:=by simpa[bO]using l
 refine ao (goK func324) (SI (lK (v:=iv i) g.i rfl (lK (v:=iv j) g.j rfl (aU ?_))));by_cases a:i=j
 .have:=h _ (jT _ w)
  rw[oJ a]at this;exact aG a this
 refine aB a ?_;have f:=g.drew;refine ax (λy=>R4 S y A i j x) f <|ac (λy c _=>lK (v:=iv x) c.x rfl) <|ac (λy c _=>uP k c.r) <|ac (λy c _=>lK (v:=iv i) c.i rfl) ?_;refine Ng k λn e=>?_;refine aI (f.fresh e) ?_;rw[l,oJ rfl,YD oo m];refine ac (λy c _=>dE) ?_;refine VU (ax (λ_=>True) trivial ?_)
 have:=h n ((jT _ w).drew.trans (e.mono oA))
 rw[oI a]at this;by_cases d:kK A (i-1).toNat<x
 .rw[oJ d]at this;rw[oJ (by simpa using d)];exact this
 .rw[oI d]at this;rw[oI (by simpa using d)];exact this
def zgm{p:Nat}{i j:Int}(l:bO i=true)(n:bO j=true)(g:blk w p 3 [iv i])(d:blk w c 3 [iv j])(h:K (pA b (18+6*(i-1).toNat+(j-1).toNat)) w.drew):call Q 325 #[pA b 0,pA p 0,pA c 0] K w:=by
 have o:1<=i/\i<=6:=by simpa[bO]using l
 have q:1<=j/\j<=6:=by simpa[bO]using n
 obtain⟨k,e⟩:∃k:Nat,k=(i-1).toNat:=⟨_,rfl⟩
 obtain⟨m,f⟩:∃m:Nat,m=(j-1).toNat:=⟨_,rfl⟩
 rw[<-e, <-f]at h;refine ao (goK func325) (SJ ?_);refine ah (λ_=>lK (v:=iv i) g.drew rfl) <|ah (v:=iv (k:Nat)) (λK a=>nT (by rw[eY oo oo,show (i-1)=(k:Nat)by omega];exact a)) <|ah (λ_=>lK (v:=iv j) d.drew rfl) <|ah (v:=iv (m:Nat)) (λK a=>nT (by rw[eY oo oo,show (j-1)=(m:Nat)by omega];exact a)) ?_
 exact ah (λ_=>au) (ah (λ_=>zdS) (ah (λ_=>zjT rfl oo) (ah (λK a=>ixR rfl oo (by rw[show 0+18+6*k+m=18+6*k+m by omega];exact a)) h)))
def zgx{i j:Int}(k:A.length=54)(h:∀S,Below w.heap.size w S->K (.tuple #[.agg ((xZ A i j x).1.map iv).toArray,ci (xZ A i j x).2]) S):call Q 311 #[.agg (A.map iv).toArray,iv i,iv j,iv x] K w:=by
 refine ao (goK func311) (VX (R4.make λD a C=>?_));have a:=a.drew;refine ax (λy=>R4 w y A i j x) a <|ac (λy f _=>uP k f.r) <|ac (λy f _=>lK (v:=iv x) f.x rfl) <|ac (λy f _=>lK (v:=iv i) f.i rfl) ?_;refine IK (aI a ?_);rw[zak]at h;generalize t:(if i=j then (1:Int)else if kK A (i-1).toNat<x then 11 else 0)=E at h
 have l:=Ly A x (bO i&&bO j) E (18+6*(i-1).toNat+(j-1).toNat) k;have p:(bO i&&bO j)=false->oh A x (bO i&&bO j) E (18+6*(i-1).toNat+(j-1).toNat)=oh A x false 0 0:=λe=>by rw[e];rfl
 have s:asB (.bool false)≠some true:=by simp[asB]
 cases m:bO i with
 | false =>
  rw[p (by rw[m];rfl)]at h l;refine Ys s (xGn s (aI a (ac (λy f _=>cA) ?_)));exact Ec (q:=0) (E:=0) k oo (λ_ _ _ e=>by cases e) (λe=>by cases e) λo d=>(a.fresh d).fin l h
 | true =>
  refine qp rfl (λy f _=>lK (v:=iv j) f.j rfl) ?_;refine Zp rfl (IK (aI a (ac (λy f _=>dD) ?_)));cases n:bO j with
  | false =>
   rw[p (by rw[m,n];rfl)]at h l;exact Ec (q:=0) (E:=0) k oo (λ_ _ _ e=>by cases e) (λe=>by cases e) λo d=>(a.fresh d).fin l h
  | true =>
   have z:1<=i/\i<=6:=by simpa[bO]using m
   have B:1<=j/\j<=6:=by simpa[bO]using n
   rw[m,n]at h l;refine Ec (q:=18+6*(i-1).toNat+(j-1).toNat) (E:=E) k oo (λu _ _ _ o d b g => cB rfl (zgl k u m (a.fresh d) (by rw[t];exact g)))
    (λ_ o b d c g => cB rfl (zgm m n (a.fresh d).i (a.fresh d).j g)) λo d=>(a.fresh d).fin l h
end
end
section
def G(xs:List Int)(i:Nat):Int:=xs.getD i 0
def swp(xs:List Int)(i j:Nat):List Int:=(xs.set i (G xs j)).set j (G xs i)
def zeU{xs:List Int}(hi:i<xs.length)(a:j<xs.length):(swp xs i j).Perm xs:=by
 unfold swp;have b:G xs j=xs[j]:=by simp[G,List.getD,a]
 have c:G xs i=xs[i]:=by simp[G,List.getD,hi]
 rw[b,c];exact List.set_set_perm hi a
abbrev E64:TypeId:=32
abbrev uv(x:Int):oF:=.int .u64 x
def zcg{K:KV}{v x i:oF}(h:(Instr.index t x i).run P w=.ok v w')(a:K v w'):idx P t x i K w:=eJ h a
def zi5{K:KV}{n:Nat}{cs:Array Bool}(h:K (ci (n:Int)) w):blt Q .len #[172] E cs #[.slice a n c] K w:=bM underlying172 h
def SD(w:oG)(g n c:Nat)(xs:List Int):Prop:=∃a,blk w g E64 (xs.map uv++a)/\xs.length=n/\n<=c/\n<=4611686018427387904
attribute [local irreducible] bin un conv call bS blt slc aq fld bv idx lkp fJ nl eSt rng nxt ent ext alc box bld cH ld sto bj fK mkS ifc pick rdy wts aT sti cond bA Gives aj iK kH cOp
section
variable  {K:KV}{n:Nat}{xs:List Int}
def SD.drew(h:SD w g n c xs):SD w.drew g n c xs:=h
def SD.len(h:SD w g n c xs):xs.length=n:=by obtain⟨_,_,a,_⟩:=h;exact a
def Zb:∀w,(sizeOf 32).run Q w=.ok 1 w:=λ_=>by kernel_rfl
def iH{k:IntKind}(hi:i<m)(h:K (pA g (0+i*1)) w):bv Q 172 (.slice (some ⟨g,0,none⟩) m c) (.int k (i:Nat)) K w:=by refine gO (s:=1) underlying172 Zb oo oo ?_;rw[oQ];exact h
def ldS(d:SD w g n c xs)(hi:i<n)(h:K (uv (G xs i)) w):ld Q 32 (pA g (0+i*1)) K w:=by obtain⟨a,b,e,_⟩:=d;refine lK b ?_ h;rw[oK,Nat.mul_one,qO (by simp;omega),qC,gE oo];simp[G,List.getD,show i<xs.length by omega]
def KO(f:SD w g n c xs)(hi:i<n)(h:∀S,SD S g n c (xs.set i v)->Oth g w S->K undef S):sto Q 32 (pA g (0+i*1)) (uv v) K w:=by obtain⟨b,d,j,e,k⟩:=f;refine dw Zb d (by simp;omega) rfl ?_;intro S a l;refine h S ⟨b,?_,by simp[j],e,k⟩ l;rw[oK,Nat.mul_one,List.set_append_left _ _ (by simp;omega), <-List.map_set]at a;exact a
def xr{y:Int}(h:K (.bool (decide (x<y))) w):call Q 125 #[uv x,uv y] K w:=by
 refine ao (goK func125) (Ov ?_);have a:∀{z:Int} {K':KV},K' (.bool false) w->call Q 84 #[uv z] K' w:=by
  intro z K' b;refine ao (goK func84) (Dj ?_);refine bo ?_;rw[qE (λc=>c rfl)];exact b
 refine a ?_
 (repeat (first|refine aW ?_|refine cA ?_|refine js ?_|refine eK ?_))
 exact h
def cU{a b d:oG}(h:Oth g a b)(k:Oth g b d):Oth g a d:=⟨k.os.trans h.os,k.tape.trans h.tape,k.output.trans h.output,k.size.trans h.size,λi c=>(k.other i c).trans (h.other i c)⟩
def cQ(h:Oth g w S):Oth g w S.drew:=⟨h.os,h.tape,h.output,h.size,h.other⟩
def mI(w:oG)(g:Nat):Oth g w w:=⟨rfl,rfl,rfl,rfl,λ_ _=>rfl⟩
end
end
section
attribute [local irreducible] bin un conv call bS blt slc aq fld bv idx lkp fJ nl eSt rng nxt ent ext alc box bld cH ld sto bj fK mkS ifc pick rdy wts aT sti cond bA Gives aj iK kH cOp
def zf2{xs:List Int}{k:Nat}(hi:i<xs.length):G (xs.set i v) k=if k=i then v else G xs k:=by
 unfold G;by_cases h:k=i
 .subst h;simp[List.getD,hi]
 .have : ¬i=k:=λe=>h e.symm
  simp[List.getD,h,this]
def Gr{xs:List Int}{k:Nat}(hi:i<xs.length)(a:j<xs.length):G (swp xs i j) k=if k=j then G xs i else if k=i then G xs j else G xs k:=by unfold swp;rw[zf2 (by simpa using a),zf2 hi]
def Srt(xs:List Int)(a b:Nat):Prop:=∀i,a<=i->i+1<b->G xs i<=G xs (i+1)
structure Rng(a b:Nat) (xs ys:List Int):Prop where
 perm:ys.Perm xs
 out:∀k,k<a\/b<=k->G ys k=G xs k
def Rng.refl(a b:Nat)(xs:List Int):Rng a b xs xs:=⟨List.Perm.refl _,λ_ _=>rfl⟩
def Rng.trans{a:Nat}{xs ys zs:List Int}(h:Rng a b xs ys)(k:Rng a b ys zs):Rng a b xs zs:=⟨k.perm.trans h.perm,λi c=>(k.out i c).trans (h.out i c)⟩
def Rng.len{a:Nat}{xs ys:List Int}(h:Rng a b xs ys):ys.length=xs.length:=h.perm.length_eq
def Rng.mono{a:Nat}{xs ys:List Int}(h:Rng a b xs ys)(e:c<=a)(f:b<=d):Rng c d xs ys:=⟨h.perm,λk g=>h.out k oo⟩
def Rng.swp{a:Nat}{xs:List Int}(hi:i<xs.length)(c:j<xs.length)(d:a<=i/\i<b)(e:a<=j/\j<b):Rng a b xs (swp xs i j) :=
 ⟨zeU hi c,λk f=>by rw[Gr hi c,oI oo,oI oo]⟩
def Rng.from{a:Nat}{xs ys:List Int}(h:Rng a b xs ys)(t:b<=xs.length)(r:xs.Nodup):∀k,a<=k->k<b->∃j,a<=j/\j<b/\G ys k=G xs j:=by
 intro k u p;have v:=h.len;have e:G ys k=ys[k]'oo:=by simp[G,List.getD,show k<ys.length by omega]
 have q:G ys k∈xs:=by rw[e];exact h.perm.subset (List.getElem_mem _)
 obtain⟨j,o,c⟩:=List.getElem_of_mem q;have i:G xs j=xs[j]:=by simp[G,List.getD,o]
 by_cases n:a<=j/\j<b
 .exact⟨j,n.1,n.2,by rw[i,c]⟩
 .have s:=h.out j oo;have f:G ys j=ys[j]'oo:=by simp[G,List.getD,show j<ys.length by omega]
  have g:ys.Nodup:=h.perm.nodup_iff.2 r;have l:ys[j]'oo=ys[k]'oo:=by rw[<-f, <-e,s,i,c]
  have m:=List.pairwise_iff_getElem.1 g;rcases Nat.lt_trichotomy j k with d|d|d
  .exact qI l (m j k _ _ d)
  .omega
  .exact qI l.symm (m k j _ _ d)
section
variable  {K:KV}{n:Nat}{xs:List Int}
def zee{a:Nat}(O:SD w g n c xs)(X:a<=b)(hb:b<=n)(h:∀w' ys,SD w' g n c ys->Oth g w w'->Rng a b xs ys->Srt ys a b->K (.tuple #[]) w'):call Q 119 #[.slice (some ⟨g,0,none⟩) n c,ci (a:Nat),ci (b:Nat)] K w:=by
 have R:n<=4611686018427387904:=by obtain⟨_,_,_,_,R⟩:=O;exact R
 refine ao (goK func119) (rh ?_)
 (repeat (first|refine aY oo oo ?_))
 refine pX (Inv:=λi C=>∃(p:Nat) (ys:List Int),i=ci (p:Nat)/\a+1<=p/\(p<=b\/p=a+1)/\SD C g n c ys/\Oth g w C/\Rng a b xs ys/\Srt ys a p)
  (μ:=λi _=>b-(intOf i).toNat) ⟨a+1,xs,by simp,Nat.le_refl _,.inr rfl,O,mI _ _,Rng.refl _ _ _,λi l u=>by omega⟩ ?_
 rintro _ _ w1 m ⟨p,ys,rfl,Y,Z,v,T,U,V⟩ A;by_cases aa:p<b
 rotate_left
 ·(repeat (first|refine aW ?_|refine aB oo ?_))
  exact h w1 ys v T U (λi l u=>V i l oo)
 (repeat (first|refine aW ?_|refine aG oo ?_))
 refine xD (Inv:=λj C=>∃(q:Nat) (e:List Int),j=ci (q:Nat)/\a<=q/\q<=p/\SD C g n c e/\Oth g w C/\Rng a b xs e /\
   (∀i,a<=i->i+1<=p->i+1≠q->G e i<=G e (i+1))/\(a<q->q<p->G e (q-1)<=G e (q+1)))
  (μ:=λj _=>(intOf j).toNat) ⟨p,ys,rfl,by omega,Nat.le_refl _,v,T,U,λi l u W=>V i l oo,λ_ h=>by omega⟩ ?_
 rintro _ _ w2 m2 ⟨q,e,rfl,ab,ad,y,M,N,o,J⟩ H;have f:=y.drew;refine ah (λ_=>dE) ?_;by_cases I:a<q
 .have t:((q:Nat):Int)-1=((q-1:Nat):Int):=by omega
  have B:q<e.length:=by rw[y.len];omega
  refine ck oo <|ah (λ_=>iH oo) <|ah (λ_=>ldS f oo) <|ah (λ_=>co oo oo) ?_;rw[t];refine ah (λ_=>iH oo) <|ah (λ_=>ldS f oo) <|ah (λ_=>xr) <|ah (λ_=>bR oo) ?_;by_cases z:G e q<G e (q-1)
  .refine aG z <|ax (λx=>SD x g n c e) f.drew <|ac (λx r _=>co oo oo) <|ac (λx r _=>co oo oo) ?_;rw[t];refine ac (λx r _=>iH oo) <|ac (λx r _=>ldS r oo) <|ac (λx r _=>iH oo) <|ac (λx r _=>ldS r oo) <|ac (λx r _=>iH oo) <|KO f.drew oo ?_;intro w3 E o3
   refine ax (λ_=>True) trivial <|ac (λx r _=>iH oo) <|KO E oo ?_;intro w4 F o4;refine co oo oo ?_;have s:q-1<e.length:=by omega
   have D:=λk=>Gr (k:=k) B s;refine⟨⟨q-1,swp e q (q-1),by rw[t],by omega,by omega,F,cU (cU (cQ (cQ M)) o3) o4,N.trans (Rng.swp B s oo oo),λi l u W=>?_,λl u=>?_⟩,?_⟩
   .rw[D,D];by_cases L:i=q-1
    .subst L;rw[oJ rfl,oI oo,oJ oo];omega
    by_cases S:i=q
    .subst S;rw[oI L,oJ rfl,oI oo,oI oo];exact J I oo
    by_cases i3:i+1=q-1
    .omega
    rw[oI L,oI S,oI i3,oI oo];exact o i l u oo
   .rw[D,D];rw[oI oo,oI oo,oI oo,oJ oo]
    have:=o (q-1-1) oo oo oo
    rw[show q-1-1+1=q-1 by omega]at this;exact this
   .rw[H];show (intOf (ci ((q:Int)-1))).toNat<_;simp only[intOf];omega
  .refine aB z <|pY ?_
   (repeat (first|refine aY oo oo ?_))
   refine⟨⟨p+1,e,(show Value.int .i64 ((p:Int)+1)=_ by simp),by omega,.inl oo,f,cQ M,N,λi l u=>?_⟩,by rw[A];show b-(intOf (ci ((p:Int)+1))).toNat<_;simp only[intOf];omega⟩;by_cases P:i+1=q
   .have:i=q-1:=by omega
    rw[P,this];omega
   .exact o i l oo P
 .refine dt oo <|ah (λ_=>bG oo) <|aD <|pY ?_
  (repeat (first|refine aY oo oo ?_))
  exact⟨⟨p+1,e,(show Value.int .i64 ((p:Int)+1)=_ by simp),by omega,.inl oo,f,cQ M,N,λi l u=>o i l oo oo⟩,by rw[A];show b-(intOf (ci ((p:Int)+1))).toNat<_;simp only[intOf];omega⟩
end
section
variable  {K:KV}{n:Nat}{xs:List Int}
def zjy{a:Nat}(t:SD w g n c xs)(G:b<=n)(h:∀S ys,SD S g n c ys->Oth g w S->Rng a b xs ys->K (.tuple #[]) S):call Q 123 #[.slice (some ⟨g,0,none⟩) n c,ci (a:Nat),ci (b:Nat)] K w:=by
 have u:n<=4611686018427387904:=by obtain⟨_,_,_,_,u⟩:=t;exact u
 refine ao (goK func123) (yV ?_);refine co oo oo ?_;refine xM (Inv:=λi j z=>∃(p:Nat) (q:Int) (ys:List Int),i=ci (p:Nat)/\j=ci q/\a<=p/\(p:Int)<=q+2+a/\-1<=q/\q<b/\SD z g n c ys/\Oth g w z/\Rng a b xs ys)
  (μ:=λi j _=>(intOf j+1).toNat) ⟨a,(b:Int)-1,xs,rfl,rfl,Nat.le_refl _,by omega,by omega,by omega,t,mI _ _,Rng.refl _ _ _⟩ ?_
 rintro _ _ _ F m ⟨p,q,ys,rfl,rfl,I,A,B,C,e,v,y⟩ s;refine aW ?_;by_cases l:(p:Int)<q
 rotate_left
 .exact aB l (h F ys e v y)
 refine aG l ?_;obtain⟨k,rfl⟩:=Int.eq_ofNat_of_zero_le (show 0<=q by omega);have H:=e.len;refine ax (λx=>SD x g n c ys) e.drew <|ac (λx f _=>iH oo) <|ac (λx f _=>ldS f oo) <|ac (λx f _=>iH oo) <|ac (λx f _=>ldS f oo) <|ac (λx f _=>iH oo) <|KO e.drew oo ?_;intro J o D
 refine ax (λ_=>True) trivial <|ac (λx f _=>iH oo) <|KO o oo ?_;intro L r E;refine aY oo oo <|co oo oo ?_;refine⟨⟨p+1,(k:Int)-1,swp ys p k,by simp,rfl,by omega,by omega,by omega,by omega,r,cU (cU (cQ v) D) E,y.trans (Rng.swp oo oo oo oo)⟩,?_⟩;rw[s];simp only[intOf];omega
end
structure PIs(zs:List Int) (a b i j:Nat):Prop where
 hi:a+1<=i
 hj:a<=j/\j<b
 ij:i<=j+1
 lo:∀k,a<k->k<i->G zs k<G zs a
 up:∀k,j<k->k<b->G zs a<=G zs k
structure PR(ys:List Int) (a b m:Nat):Prop where
 hm:a<=m/\m<b
 lo:∀k,a<=k->k<m->G ys k<G ys m
 up:∀k,m<k->k<b->G ys m<=G ys k
def PIs.done{g:List Int}{a:Nat}(h:PIs g a b i j)(n : ¬i<=j)(r:b<=g.length):PR (swp g j a) a b j:=by
 have p:=h.hi;have m:=h.hj;have q:=h.ij;have f:=λk=>Gr (xs:=g) (i:=j) (j:=a) (k:=k) oo oo;refine⟨m,λk l o=>?_,λk l d=>?_⟩
 .rw[f,f];by_cases e:k=a
  .rw[oJ e,oI oo,oJ rfl];exact h.lo j oo oo
  .rw[oI e,oI oo,oI oo,oJ rfl];exact h.lo k oo oo
 .rw[f,f];rw[oI (c:=k=a) oo,oI (c:=k=j) oo];by_cases e:j=a
  .rw[oJ e,e]
   have:=h.up k oo d
   exact this
  .rw[oI e,oJ rfl];exact h.up k l d
def PIs.swap{c:List Int}{a:Nat}(h:PIs c a b i j)(n:i<=j)(t:b<=c.length)(hi : ¬G c i<G c a)(l:G c j<G c a):PIs (swp c i j) a b (i+1) (j-1)/\i<j:=by
 have q:=h.hi;have r:=h.hj;have s:=h.ij;have p:i≠j:=by rintro rfl;exact hi l
 have d:=λk=>Gr (xs:=c) (i:=i) (j:=j) (k:=k) oo oo;have g:G (swp c i j) a=G c a:=by rw[d,oI oo,oI oo]
 refine⟨⟨by omega,by omega,by omega,λk m o=>?_,λk m f=>?_⟩,by omega⟩
 .rw[g,d,oI oo];by_cases e:k=i
  .rw[oJ e];exact l
  .rw[oI e];exact h.lo k m oo
 .rw[g,d];by_cases e:k=j
  .rw[oJ e];omega
  .rw[oI e,oI oo];exact h.up k oo f
section
variable  {K:KV}{n:Nat}{xs:List Int}
def PU{K2:oF->oF->oF->oF->oF->oF->oG->Prop}(l:SD w g n c xs)(hi:i<n)(d:j<n)(h:∀O,SD O g n c (swp xs i j)->Oth g w O->K2 (pA g (0+j*1)) (uv (G xs j)) (pA g (0+i*1)) (uv (G xs i)) (pA g (0+i*1)) (pA g (0+j*1)) O):aL (λS w =>
   hld S (λk w=>bv Q 172 (.slice (some ⟨g,0,none⟩) n c) (ci (j:Nat)) k w) (λa =>
   hld S (λk w=>ld Q 32 a k w) (λb =>
   hld S (λk w=>bv Q 172 (.slice (some ⟨g,0,none⟩) n c) (ci (i:Nat)) k w) (λd =>
   hld S (λk w=>ld Q 32 d k w) (λe =>
   hld S (λk w=>bv Q 172 (.slice (some ⟨g,0,none⟩) n c) (ci (i:Nat)) k w) (λf =>
   sto Q 32 f b (λ_t w =>
   aL (λS w =>
   hld S (λk w=>bv Q 172 (.slice (some ⟨g,0,none⟩) n c) (ci (j:Nat)) k w) (λc =>
   sto Q 32 c e (λ_t w=>K2 a b d e f c w) w)) w) w)))))) w.drew:=by refine ax (λx=>SD x g n c xs) l.drew <|ac (λx b _=>iH d) <|ac (λx b _=>ldS b d) <|ac (λx b _=>iH hi) <|ac (λx b _=>ldS b hi) <|ac (λx b _=>iH hi) <|KO l.drew hi ?_;intro q e m;refine ax (λ_=>True) trivial <|ac (λx b _=>iH d) <|KO e d ?_;intro p f o;exact h p f (cU (cU (cQ (mI _ _)) m) o)
def zgr{a:Nat}(e0:Z1=.slice (some ⟨g,0,none⟩) n c)(e1:N2=ci (a:Nat))(A:O2=ci (i:Nat))(e11:P2=ci (j:Nat))(F:SD w g n c xs)(hb:b<=n)(q:PIs xs a b i j)(hB:∀e w' (o p:Nat),gd e 10=ci ((o:Int)+1)->gd e 11=ci ((p:Int)-1)->i<=o->p<=j->o<p->SD w' g n c (swp xs o p)->Oth g w w'->PIs (swp xs o p) a b (o+1) (p-1)->P1 e w')(E:∀{j:Nat} {R:oG} {f:Bool},SD R g n c (swp xs j a)->Oth g w R->PIs xs a b (j+1) j->K (.tuple #[ci (j:Nat),.bool f]) R):gU K P1 ((aM Z1 N2 O2 P2 zf)) w:=by
 subst e0 e1 A e11;have X:n<=4611686018427387904:=by obtain⟨_,_,_,_,X⟩:=F;exact X
 have lz:=F.len;refine zR (Inv:=λo y=>∃q:Nat,o=ci (q:Nat)/\i<=q/\PIs xs a b q j/\SD y g n c xs/\Oth g w y) (μ:=λi _=>b-(intOf i).toNat) ⟨i,rfl,Nat.le_refl _,q,F,mI _ _⟩ ?_;rintro _ _ w2 m2 ⟨i,rfl,H,s,t,N⟩ J;have ab:=s.hi;have ad:=s.hj;have V:=s.ij
 have l:∀{w3:oG},SD w3 g n c xs->Oth g w w3->(¬i<=j\/¬G xs i<G xs a)->∀{Z1 N2 O2 P2:oF} {zf:oD},Z1=.slice (some ⟨g,0,none⟩) n c->N2=ci (a:Nat)->O2=ci (i:Nat)->P2=ci (j:Nat)->dh K P1 ((aM Z1 N2 O2 P2 zf)) w3:=by
  intro w3 d3 o3 M
  intros
  rename_i e1 B C D;subst e1 B C D;refine zY <|zS (Inv:=λp y=>∃q:Nat,p=ci (q:Nat)/\q<=j/\PIs xs a b i q/\SD y g n c xs/\Oth g w y) (μ:=λj _=>(intOf j).toNat) ⟨j,rfl,Nat.le_refl _,s,d3,o3⟩ ?_;rintro _ _ w4 m4 ⟨j,rfl,I,r,u,O⟩ L;have ac:=r.hi;have ae:=r.hj;have W:=r.ij
  have m:∀{w5:oG},SD w5 g n c xs->Oth g w w5->(¬i<=j\/G xs j<G xs a)->∀{Z1 N2 O2 P2:oF} {zf:oD},Z1=.slice (some ⟨g,0,none⟩) n c->N2=ci (a:Nat)->O2=ci (i:Nat)->P2=ci (j:Nat)->di K P1 ((aM Z1 N2 O2 P2 zf)) w5:=by
   intro w5 S Y x
   intros
   rename_i e1 B C D;subst e1 B C D;refine zZ <|dE ?_;by_cases aa:j<i
   .refine aG oo <|zX <|PU (i:=j) (j:=a) S oo oo ?_;intro w6 z P
    have:i=j+1:=by omega
    subst this;exact E z (cU Y P) r
   .refine aB oo <|PU (i:=i) (j:=j) S oo oo ?_;intro w6 z P;obtain⟨q6,v⟩:=r.swap oo oo (M.resolve_left oo) (x.resolve_left oo);exact aY oo oo <|co oo oo (hB _ _ i j rfl rfl H I v z (cU Y P) q6)
  refine ah (λ_=>kq) ?_;by_cases c4:i<=j
  .refine ck oo <|ah (λ_=>iH oo) <|ah (λ_=>ldS u.drew oo) <|ah (λ_=>iH oo) <|ah (λ_=>ldS u.drew oo) <|ah (λ_=>xr) <|ah (λ_=>xI) <|ah (λ_=>bR oo) ?_;by_cases h:G xs j<G xs a
   .exact aB oo (m u.drew (cQ O) (.inr h) rfl rfl rfl rfl)
   .refine aG oo <|co oo oo ?_;refine⟨⟨j-1,by show Value.int .i64 _=Value.int .i64 _;congr 1;omega,by omega,⟨r.hi,by omega,by omega,r.lo,λk T U=>?_⟩,u.drew,cQ O⟩,by rw[L];show (intOf (ci ((j:Int)-1))).toNat<_;simp only[intOf];omega⟩;by_cases e:k=j
    .rw[e];omega
    .exact r.up k oo U
  .exact dt oo <|ah (λ_=>bG oo) <|aD (m u.drew (cQ O) (.inl c4) rfl rfl rfl rfl)
 refine ah (λ_=>kq) ?_;by_cases Z:i<=j
 .refine ck oo <|ah (λ_=>iH oo) <|ah (λ_=>ldS t.drew oo) <|ah (λ_=>iH oo) <|ah (λ_=>ldS t.drew oo) <|ah (λ_=>xr) <|ah (λ_=>bR oo) ?_;by_cases h:G xs i<G xs a
  .refine aG h <|aY oo oo ?_;refine⟨⟨i+1,(show Value.int .i64 ((i:Int)+1)=_ by simp),by omega,⟨by omega,s.hj,by omega,λk T U=>?_,s.up⟩,t.drew,cQ N⟩,by rw[J];show b-(intOf (ci ((i:Int)+1))).toNat<_;simp only[intOf];omega⟩;by_cases e:k=i
   .rw[e];exact h
   .exact s.lo k T oo
  .exact aB h (l t.drew (cQ N) (.inr h) rfl rfl rfl rfl)
 .exact dt oo <|ah (λ_=>bG oo) <|aD (l t.drew (cQ N) (.inl Z) rfl rfl rfl rfl)
def zit{a p:Nat}(W:SD w g n c xs)(af:a<=p)(aq:p<b)(hb:b<=n)(h:∀w' ys m f,SD w' g n c ys->Oth g w w'->Rng a b xs ys->PR ys a b m->K (.tuple #[ci (m:Nat),.bool f]) w'):call Q 127 #[.slice (some ⟨g,0,none⟩) n c,ci (a:Nat),ci (b:Nat),ci (p:Nat)] K w:=by
 have hm:n<=4611686018427387904:=by obtain⟨_,_,_,_,hm⟩:=W;exact hm
 have ap:=W.len;refine ao (goK func127) (AP ?_);refine PU (i:=a) (j:=p) W oo oo ?_;intro O P o1;have r1:Rng a b xs (swp xs a p):=Rng.swp oo oo oo oo;obtain⟨zs,ab⟩:∃zs,swp xs a p=zs:=⟨_,rfl⟩
 rw[ab]at P r1;have lz:=P.len;have J:∀{z:List Int} {j:Nat} {wz:oG} {f:Bool},SD wz g n c (swp z j a)->Oth g w wz->Rng a b xs z->PIs z a b (j+1) j->K (.tuple #[ci (j:Nat),.bool f]) wz:=by
  intro z j wz f d o r q;have hl:=r.len;have hj:=q.hj;exact h wz _ j f d o (r.trans (Rng.swp oo oo oo oo)) (q.done oo oo)
 refine aY oo oo <|co oo oo <|zO (Inv:=λi A=>∃q:Nat,i=ci (q:Nat)/\PIs zs a b q (b-1)/\SD A g n c zs/\Oth g O A) (μ:=λi _=>b-(intOf i).toNat) ⟨a+1,by simp,⟨Nat.le_refl _,by omega,by omega,λk L M=>by omega,λk L M=>by omega⟩,P,mI _ _⟩ ?_;rintro _ _ w2 m2 ⟨i,rfl,B,E,o2⟩ X;have aj:=B.hi;have al:=B.hj;have ac:=B.ij
 have v:∀{w3:oG},SD w3 g n c zs->Oth g O w3->(¬i<=b-1\/¬G zs i<G zs a)->∀{D C t u:oF} {zf:oD},D=.slice (some ⟨g,0,none⟩) n c->C=ci (a:Nat)->t=ci (i:Nat)->u=ci ((b:Int)-1)->de K ((aM D C t u zf)) w3:=by
  intro w3 d3 o3 aa
  intros
  rename_i S T U V;subst S T U V;refine zU <|zP (Inv:=λj A=>∃q:Nat,j=ci (q:Nat)/\q<=b-1/\PIs zs a b i q/\SD A g n c zs/\Oth g O A) (μ:=λj _=>(intOf j).toNat) ⟨b-1,by congr 1;omega,Nat.le_refl _,B,d3,o3⟩ ?_;rintro _ _ w4 m4 ⟨j,rfl,an,y,F,o4⟩ Y;have ak:=y.hi;have am:=y.hj;have ad:=y.ij
  have x:∀{w5:oG},SD w5 g n c zs->Oth g O w5->(¬i<=j\/G zs j<G zs a)->∀{D C t u:oF} {zf:oD},D=.slice (some ⟨g,0,none⟩) n c->C=ci (a:Nat)->t=ci (i:Nat)->u=ci (j:Nat)->df K ((aM D C t u zf)) w5:=by
   intro w5 d5 o5 N
   intros
   rename_i S T U V;subst S T U V;refine zW <|dE ?_;by_cases ag:j<i
   .refine aG oo <|PU (i:=j) (j:=a) d5 oo oo ?_;intro w6 R o6
    have:i=j+1:=by omega
    subst this;exact J R (cU (cU o1 o5) o6) r1 y
   .refine aB oo <|PU (i:=i) (j:=j) d5 oo oo ?_;intro w6 R o6;obtain⟨q6,ae⟩:=y.swap oo oo (aa.resolve_left oo) (N.resolve_left oo);have r6:=r1.trans (Rng.swp (xs:=zs) (i:=i) (j:=j) oo oo oo oo);refine zN <|aY oo oo <|co oo oo ?_
    refine zQ (Inv:=λi j A=>∃(i' j':Nat) (z:List Int),i=ci (i':Nat)/\j=ci (j':Nat)/\PIs z a b i' j'/\SD A g n c z/\Oth g w A/\Rng a b xs z)
     (μ:=λi j _=>(intOf j+2-intOf i).toNat) ⟨i+1,j-1,swp zs i j,by simp,by congr 1;omega,q6,R,cU (cU o1 o5) o6,r6⟩ ?_
    rintro _ _ _ w7 m7 ⟨i7,j7,z,rfl,rfl,q7,d7,o7,r7⟩ Z;have ar:=d7.len;refine zgr rfl rfl rfl rfl d7 hb q7 ?_ (λd o q=>J d (cU o7 o) r7 q);intro e w8 i8 j8 H I L M h3 d8 o8 q8
    have:=q7.hi
    have:=q7.hj
    refine⟨⟨i8+1,j8-1,swp z i8 j8,by rw[H];simp,by rw[I];congr 1;omega,q8,d8,cU o7 o8,r7.trans (Rng.swp oo oo oo oo)⟩,?_⟩;show (intOf (gd e 11)+2-intOf (gd e 10)).toNat<_;rw[H,I,Z];simp only[intOf];omega
  refine ah (λ_=>kq) ?_;by_cases c4:i<=j
  .refine ck oo <|ah (λ_=>iH oo) <|ah (λ_=>ldS F.drew oo) <|ah (λ_=>iH oo) <|ah (λ_=>ldS F.drew oo) <|ah (λ_=>xr) <|ah (λ_=>xI) <|ah (λ_=>bR oo) ?_;by_cases s:G zs j<G zs a
   .exact aB oo (x F.drew (cQ o4) (.inr s) rfl rfl rfl rfl)
   .refine aG oo <|co oo oo ?_;refine⟨⟨j-1,by show Value.int .i64 _=Value.int .i64 _;congr 1;omega,by omega,⟨y.hi,by omega,by omega,y.lo,λk L M=>?_⟩,F.drew,cQ o4⟩,by rw[Y];show (intOf (ci ((j:Int)-1))).toNat<_;simp only[intOf];omega⟩;by_cases e:k=j
    .rw[e];omega
    .exact y.up k oo M
  .exact dt oo <|ah (λ_=>bG oo) <|aD (x F.drew (cQ o4) (.inl c4) rfl rfl rfl rfl)
 refine ah (λ_=>kq) ?_;by_cases c2:i<=b-1
 .refine ck oo <|ah (λ_=>iH oo) <|ah (λ_=>ldS E.drew oo) <|ah (λ_=>iH oo) <|ah (λ_=>ldS E.drew oo) <|ah (λ_=>xr) <|ah (λ_=>bR oo) ?_;by_cases s:G zs i<G zs a
  .refine aG s <|aY oo oo ?_;refine⟨⟨i+1,(show Value.int .i64 ((i:Int)+1)=_ by simp),⟨by omega,B.hj,by omega,λk L M=>?_,B.up⟩,E.drew,cQ o2⟩,by rw[X];show b-(intOf (ci ((i:Int)+1))).toNat<_;simp only[intOf];omega⟩;by_cases e:k=i
   .rw[e];exact s
   .exact B.lo k L oo
  .exact aB s (v E.drew (cQ o2) (.inr s) rfl rfl rfl rfl)
 .exact dt oo <|ah (λ_=>bG oo) <|aD (v E.drew (cQ o2) (.inl c2) rfl rfl rfl rfl)
end
def chi(i c:Nat):Prop:=c=2*i+1\/c=2*i+2
def Hp(xs:List Int)(f a hi:Nat):Prop:=∀i c,a<=i->chi i c->c<hi->G xs (f+c)<=G xs (f+i)
structure HI(xs:List Int) (f lo hi r:Nat):Prop where
 own:∀i c,lo<=i->i≠r->chi i c->c<hi->G xs (f+c)<=G xs (f+i)
 far:∀p c,lo<=p->chi p r->chi r c->c<hi->G xs (f+c)<=G xs (f+p)
def HI.start{xs:List Int}{lo:Nat}(h:Hp xs f (lo+1) hi):HI xs f lo hi lo :=
 ⟨λi c b a d e=>h i c oo d e,λp c b a=>by unfold chi at a;omega⟩
def HI.stop{xs:List Int}{d r:Nat}(h:HI xs f d hi r)(j:∀c,chi r c->c<hi->G xs (f+c)<=G xs (f+r)):Hp xs f d hi:=by
 intro i c g a b;by_cases e:i=r
 .rw[e]at a |-; exact j c a b
 .exact h.own i c g e a b
def HI.swap{xs:List Int}{n r:Nat}(h:HI xs f n hi r)(u:n<=r)(x:f+hi<=xs.length)(b:chi r c)(m:c<hi)(v:G xs (f+r)<G xs (f+c))(w:∀c',chi r c'->c'<hi->G xs (f+c')<=G xs (f+c)):HI (swp xs (f+r) (f+c)) f n hi c:=by
 have e:=λk=>Gr (xs:=xs) (i:=f+r) (j:=f+c) (k:=k) (by unfold chi at b;omega) oo;refine⟨λi d l s a g=>?_,λp d l s a g=>?_⟩
 .rw[e,e];by_cases q:i=r
  .subst q;rw[oI (c:=f+i=f+c) oo,oJ rfl];by_cases o:d=c
   .rw[oJ oo];omega
   .rw[oI oo,oI (by unfold chi at a;omega)];exact w d a g
  .rw[oI (c:=f+i=f+c) oo,oI (c:=f+i=f+r) oo,oI (by unfold chi at a b;omega)];by_cases o:d=r
   .rw[oJ oo];subst o;exact h.far i c l a b m
   .rw[oI oo];exact h.own i d l q a g
 .have t:p=r:=by unfold chi at s b;omega
  subst t;rw[e,e];rw[oI (c:=f+p=f+c) (by unfold chi at b;omega),oJ rfl,oI (by unfold chi at a;omega),oI (by unfold chi at a b;omega)];exact h.own c d (by unfold chi at b;omega) (by unfold chi at b;omega) a g
def Hp.top{xs:List Int}(h:Hp xs f 0 hi):∀k,k<hi->G xs (f+k)<=G xs f:=by
 intro k
 induction k using Nat.strongRecOn with
 | _ k ih =>
  intro a;by_cases e:k=0
  .rw[e,qV];exact Int.le_refl _
  .have b:=h ((k-1) / 2) k oo (by unfold chi;omega) a;have c:=ih ((k-1) / 2) oo oo;omega
section
variable  {K:KV}{n:Nat}{xs:List Int}
def LQ{K2:oF->oF->oF->oF->oF->oF->oG->Prop}(l:SD w g n c xs)(hi:i<n)(d:j<n)(h:∀O,SD O g n c (swp xs i j)->Oth g w O->K2 (pA g (0+j*1)) (uv (G xs j)) (pA g (0+i*1)) (uv (G xs i)) (pA g (0+i*1)) (pA g (0+j*1)) O):hld (λx=>SD x g n c xs) (λk w=>bv Q 172 (.slice (some ⟨g,0,none⟩) n c) (ci (j:Nat)) k w) (λa =>
   hld (λx=>SD x g n c xs) (λk w=>ld Q 32 a k w) (λb =>
   hld (λx=>SD x g n c xs) (λk w=>bv Q 172 (.slice (some ⟨g,0,none⟩) n c) (ci (i:Nat)) k w) (λd =>
   hld (λx=>SD x g n c xs) (λk w=>ld Q 32 d k w) (λe =>
   hld (λx=>SD x g n c xs) (λk w=>bv Q 172 (.slice (some ⟨g,0,none⟩) n c) (ci (i:Nat)) k w) (λf =>
   sto Q 32 f b (λ_t w =>
   aL (λS w =>
   hld S (λk w=>bv Q 172 (.slice (some ⟨g,0,none⟩) n c) (ci (j:Nat)) k w) (λc =>
   sto Q 32 c e (λ_t w=>K2 a b d e f c w) w)) w) w))))):=by refine ac (λx b _=>iH d) <|ac (λx b _=>ldS b d) <|ac (λx b _=>iH hi) <|ac (λx b _=>ldS b hi) <|ac (λx b _=>iH hi) <|KO l hi ?_;intro q e m;refine ax (λ_=>True) trivial <|ac (λx b _=>iH d) <|KO e d ?_;intro p f o;exact h p f (cU m o)
theorem FA(a b:Nat):(a:Int)+(b:Int)=((a+b:Nat):Int):=rfl
theorem Bg(a:Nat):(a:Int)+1=((a+1:Nat):Int):=rfl
def zj9(a:Nat):(2:Int)*(a:Int)=((2*a:Nat):Int):=by omega
def xN{a:Nat}(h:0<a):(a:Int)-1=((a-1:Nat):Int):=by omega
def XP{a:Nat}(h:b<=a):(a:Int)-(b:Int)=((a-b:Nat):Int):=by omega
def W9{lo r ch:Nat}(l:Y=.slice (some ⟨g,0,none⟩) n c)(e3:H=ci (f:Nat))(e8:Z=ci (r:Nat))(e9:U=ci (ch:Nat))(h:SD w g n c xs)(s:f+hi<=n)(u:r<hi)(t:chi r ch)(o:ch<hi)(v:∀c',chi r c'->c'<hi->G xs (f+c')<=G xs (f+ch))(a:∀S,¬G xs (f+r)<G xs (f+ch)->SD S g n c xs->Oth g w S->K (.tuple #[]) S)(m:∀e S,gd e 8=ci (ch:Nat)->G xs (f+r)<G xs (f+ch)->SD S g n c (swp xs (f+r) (f+ch))->Oth g w S->P1 e S):dv K P1 ((kE Y J H Z U zf)) w:=by
 subst l e3 e8 e9;have k:n<=4611686018427387904:=by obtain⟨_,_,_,_,k⟩:=h;exact k
 refine Aw <|ax (λx=>SD x g n c xs) h.drew <|ac (λx b _=>aY oo oo) ?_;rw[FA];refine ac (λx b _=>iH oo) <|ac (λx b _=>ldS b oo) <|ac (λx b _=>aY oo oo) ?_;rw[FA];refine ac (λx b _=>iH oo) <|ac (λx b _=>ldS b oo) <|xr <|ax (λ_=>True) trivial <|ac (λx b _=>xI) ?_;by_cases d:G xs (f+r)<G xs (f+ch)
 rotate_left
 .exact aG d (a _ d h.drew (cQ (mI _ _)))
 refine aB oo <|ax (λx=>SD x g n c xs) h.drew.drew <|ac (λx b _=>aY oo oo) <|ac (λx b _=>aY oo oo) <|ac (λx b _=>aY oo oo) ?_;rw[FA,FA];refine ac (λx b _=>iH oo) <|ac (λx b _=>ldS b oo) <|ac (λx b _=>aY oo oo) ?_;rw[FA]
 refine ac (λx b _=>iH oo) <|ac (λx b _=>ldS b oo) <|ac (λx b _=>iH oo) <|KO h.drew.drew oo ?_;intro y i p;refine ax (λ_=>True) trivial <|ac (λx b _=>iH oo) <|KO i oo ?_;intro z j q;exact m _ _ rfl d j (cU (cU (cQ (cQ (mI _ _))) p) q)
def zd1{lo:Nat}(J:SD w g n c xs)(H:f+hi<=n)(I:lo<hi\/lo=0)(S:Hp xs f (lo+1) hi)(h:∀w' ys,SD w' g n c ys->Oth g w w'->Rng f (f+hi) xs ys->Hp ys f lo hi->K (.tuple #[]) w'):call Q 130 #[.slice (some ⟨g,0,none⟩) n c,ci (lo:Nat),ci (hi:Nat),ci (f:Nat)] K w:=by
 have L:n<=4611686018427387904:=by obtain⟨_,_,_,_,L⟩:=J;exact L
 refine ao (goK func130) (BM ?_);refine Av (Inv:=λr M=>∃(p:Nat) (z:List Int),r=ci (p:Nat)/\lo<=p/\(p<hi\/p=0)/\SD M g n c z/\Oth g w M/\Rng f (f+hi) xs z/\HI z f lo hi p)
  (μ:=λr _=>hi-(intOf r).toNat) ⟨lo,xs,rfl,Nat.le_refl _,I,J,mI _ _,Rng.refl _ _ _,HI.start S⟩ ?_
 rintro _ _ X m ⟨r,z,rfl,A,T,l,B,E,F⟩ y;have W:=l.len;refine MY oo oo ?_;rw[zj9];refine aY oo oo ?_;rw[Bg];refine cJ ?_;by_cases R:hi<=2*r+1
 .refine aG oo ?_;exact h _ z l B E (F.stop λc t o=>by unfold chi at t;omega)
 refine aB oo <|ah (λ_=>aY oo oo) ?_;rw[Bg];refine ah (λ_=>aW) ?_;have x:∀w',∀ch,chi r ch->ch<hi->(∀j,chi r j->j<hi->G z (f+j)<=G z (f+ch))->¬G z (f+r)<G z (f+ch)->SD w' g n c z->Oth g w w'->K (.tuple #[]) w':=by
  intro w' ch U C N V O P;exact h _ z O P E (F.stop λc t o=>by have:=N c t o;omega)
 by_cases C:2*r+1+1<hi
 .refine ck oo <|ah (λ_=>aY oo oo) ?_;rw[FA];refine ah (λ_=>iH oo) <|ah (λ_=>ldS l.drew oo) <|ah (λ_=>aY oo oo) ?_;rw[FA];refine ah (λ_=>aY oo oo) ?_;rw[Bg];refine ah (λ_=>iH oo) <|ah (λ_=>ldS l.drew oo) <|ah (λ_=>xr) <|ah (λ_=>bR oo) <|sv ?_
  by_cases o:G z (f+(2*r+1))<G z (f+(2*r+1)+1)
  .refine aG o <|aY oo oo ?_;have s:∀j,chi r j->j<hi->G z (f+j)<=G z (f+(2*r+1+1)):=by
    intro j t v;rcases t with rfl|rfl
    .rw[<-Nat.add_assoc f (2*r+1)];omega
    .exact Int.le_refl _
   refine W9 (f:=f) (lo:=lo) (hi:=hi) (r:=r) (ch:=2*r+1+1) rfl rfl rfl rfl l.drew H oo (.inr rfl) C s (λc a b d=>x c _ (.inr rfl) C s a b (cU (cQ B) d)) ?_;intro e w' u k q D;refine⟨⟨2*r+1+1,_,u,by omega,.inl C,q,cU (cQ B) D,E.trans (Rng.swp oo oo oo oo),F.swap A oo (.inr rfl) C k s⟩,?_⟩
   show hi-(intOf (gd e 8)).toNat<_;rw[u,y];simp only[intOf];omega
  .refine aB o ?_;have s:∀j,chi r j->j<hi->G z (f+j)<=G z (f+(2*r+1)):=by
    intro j t v;rcases t with rfl|rfl
    .exact Int.le_refl _
    .rw[Nat.add_assoc f (2*r+1)]at o
     have:f+(2*r+2)=f+(2*r+1+1):=rfl
     rw[this];omega
   refine W9 (f:=f) (lo:=lo) (hi:=hi) (r:=r) (ch:=2*r+1) rfl rfl rfl rfl l.drew H oo (.inl rfl) oo s (λc a b d=>x c _ (.inl rfl) oo s a b (cU (cQ B) d)) ?_;intro e w' u k q D
   refine⟨⟨2*r+1,_,u,by omega,.inl oo,q,cU (cQ B) D,E.trans (Rng.swp oo oo oo oo),F.swap A oo (.inl rfl) oo k s⟩,?_⟩;show hi-(intOf (gd e 8)).toNat<_;rw[u,y];simp only[intOf];omega
 .refine dt oo <|ah (λ_=>bG oo) <|sv <|aD ?_;have s:∀j,chi r j->j<hi->G z (f+j)<=G z (f+(2*r+1)):=by
   intro j t v;rcases t with rfl|rfl
   .exact Int.le_refl _
   .omega
  refine W9 (f:=f) (lo:=lo) (hi:=hi) (r:=r) (ch:=2*r+1) rfl rfl rfl rfl l.drew H oo (.inl rfl) oo s (λc a b d=>x c _ (.inl rfl) oo s a b (cU (cQ B) d)) ?_;intro e w' u k q D;refine⟨⟨2*r+1,_,u,by omega,.inl oo,q,cU (cQ B) D,E.trans (Rng.swp oo oo oo oo),F.swap A oo (.inl rfl) oo k s⟩,?_⟩
  show hi-(intOf (gd e 8)).toNat<_;rw[u,y];simp only[intOf];omega
structure HS(z:List Int) (a b i:Nat):Prop where
 heap:Hp z a 0 i
 srt:Srt z (a+i) b
 sep:∀k m,k<i->a+i<=m->m<b->G z (a+k)<=G z m
def zhS{a:Nat}(T:SD w g n c xs)(aa:a<b)(hb:b<=n)(hn:xs.Nodup)(h:∀w' ys,SD w' g n c ys->Oth g w w'->Rng a b xs ys->Srt ys a b->K (.tuple #[]) w'):call Q 120 #[.slice (some ⟨g,0,none⟩) n c,ci (a:Nat),ci (b:Nat)] K w:=by
 have U:n<=4611686018427387904:=by obtain⟨_,_,_,_,U⟩:=T;exact U
 refine ao (goK func120) (BL ?_);refine co oo oo ?_;rw[XP oo];refine co oo oo ?_;rw[xN oo];refine Uu oo oo oo ?_;refine As (Inv:=λi D=>∃(p:Nat) (z:List Int),i=ci ((p:Int)-1)/\(p<=b-a)/\SD D g n c z/\Oth g w D/\Rng a b xs z/\Hp z a p (b-a))
  (μ:=λi _=>(intOf i+1).toNat) ⟨(b-a-1) / 2+1,xs,by congr 1;omega,by omega,T,mI _ _,Rng.refl _ _ _,λi c u o E=>by unfold chi at o;omega⟩ ?_
 rintro _ _ w1 m ⟨p,z,rfl,ae,v,V,X,s1⟩ O;have lz:=v.len;refine cJ ?_;by_cases r:0<p
 .refine aG oo ?_;rw[xN r];refine zd1 v (f:=a) (lo:=p-1) (hi:=b-a) oo oo (by rw[show p-1+1=p by omega];exact s1) ?_;intro w2 y J o2 Y s2;rw[show a+(b-a)=b by omega]at Y;refine co oo oo ?_;refine⟨⟨p-1,y,rfl,by omega,J,cU V o2,X.trans Y,s2⟩,?_⟩;rw[O];simp only[intOf];omega
 refine aB oo <|Au ?_;have F:p=0:=by omega
 subst F;refine co oo oo ?_;refine At (Inv:=λi D=>∃(p:Nat) (z:List Int),i=ci ((p:Int)-1)/\(p<=b-a)/\SD D g n c z/\Oth g w D/\Rng a b xs z/\HS z a b p)
  (μ:=λi _=>(intOf i+1).toNat) ⟨b-a,z,rfl,Nat.le_refl _,v,V,X,s1,λi u o=>by omega,λk m u o E=>by omega⟩ ?_
 rintro _ _ w3 m3 ⟨p,s,rfl,af,q,W,S,B⟩ P;have ag:=q.len;refine cJ ?_;by_cases r:0<p
 rotate_left
 .refine aB oo ?_;have F:p=0:=by omega
  subst F;exact h _ s q W S B.srt
 refine aG oo ?_;rw[xN r];refine ax (λx=>SD x g n c s) q.drew <|ac (λx a _=>aY oo oo) <|ac (λx a _=>aY oo oo) ?_;rw[FA];refine LQ q.drew (i:=a) (j:=a+(p-1)) oo oo ?_;intro w4 L o4;have H:=λk=>Gr (xs:=s) (i:=a) (j:=a+(p-1)) (k:=k) oo oo;refine zd1 L (f:=a) (lo:=0) (hi:=p-1) oo (.inr rfl) ?_ ?_
 .intro i c u o E;rw[H,H,oI oo,oI (by unfold chi at o;omega),oI (by unfold chi at o;omega),oI oo];exact B.heap i c oo o oo
 intro w5 y M o5 Z s5;refine co oo oo ?_;have R:s.Nodup:=S.perm.nodup_iff.2 hn;have r4:Rng a (a+p) s (swp s a (a+(p-1))):=Rng.swp oo oo oo oo;have A:=r4.trans (Z.mono (c:=a) (d:=a+p) oo oo);have C:∀k,k<p-1->G y (a+k)<=G s a:=by
  intro k hk;obtain⟨j,ab,ad,N⟩:=A.from oo R (a+k) oo oo;rw[N]
  have:=B.heap.top (j-a) oo
  rw[show a+(j-a)=j by omega]at this;exact this
 have l:∀m,a+p<=m->G y m=G s m:=λm u=>A.out m oo;have t:G y (a+(p-1))=G s a:=by rw[Z.out _ oo,H,oJ rfl]
 refine⟨⟨p-1,y,rfl,by omega,M,cU (cU (cQ W) o4) o5,S.trans (A.mono oo oo),⟨s5,λi u o=>?_,λk m u o E=>?_⟩⟩,?_⟩
 .by_cases e:i=a+(p-1)
  .rw[e,t,l _ oo]
   have:=B.sep 0 (a+(p-1)+1) oo oo oo
   exact this
  .rw[l _ oo,l _ oo];exact B.srt i oo o
 .by_cases e:m=a+(p-1)
  .rw[e,t];exact C k u
  .rw[l m oo];have h5:=C k u;have h6:=B.sep 0 m oo oo E;rw[qV]at h6;omega
 .rw[P,xN r];simp only[intOf];omega
end
def Low(a b:Nat)(xs:List Int):Prop:=∀i k,i<a->a<=k->k<b->G xs i<G xs k
def Low.rng{a:Nat}{xs ys:List Int}(h:Low a b xs)(r:Rng a b xs ys)(f:b<=xs.length)(g:xs.Nodup):Low a b ys:=by intro i k c d e;obtain⟨j,l,m,n⟩:=r.from f g k d e;rw[r.out i (.inl c),n];exact h i j c l m
section
variable  {K:KV}{n:Nat}{xs z:List Int}
def YW{a:Nat}(I:Z1=.slice (some ⟨g,0,none⟩) n c)(e1:Z=ci (a:Nat))(J:O2=ci (b:Nat))(e7:P2=ci (i:Nat))(e8:Q2=ci (s:Nat))(p:SD w g n c z)(C:Oth g w0 w)(D:Rng a b xs z)(E:Srt z a i)(M:a<i)(N:i<b)(U:b<=n)(S:s<5)(o:∀e w' z,gd e 7=ci (i:Nat)->gd e 8=ci ((s:Int)+1)->SD w' g n c z->Oth g w0 w'->Rng a b xs z->Srt z a i->P1 e w'):bh K P1 ((aJ Z1 Z O2 P2 Q2 zf)) w:=by
 subst I e1 J e7 e8;have B:n<=4611686018427387904:=by obtain⟨_,_,_,_,B⟩:=p;exact B
 refine uw <|co oo oo <|cJ ?_;by_cases m:(2:Int)<=(b:Int)-i
 rotate_left
 .exact aB m <|iB <|aY oo oo (o _ _ _ rfl rfl p C D E)
 refine aG m <|aY oo oo ?_;rw[Bg];refine ur (Inv:=λj F=>∃(q:Nat) (z:List Int),j=ci (q:Nat)/\i+1<=q/\q<=b/\SD F g n c z/\Oth g w0 F/\Rng a b xs z/\Srt z a i) (μ:=λj _=>b-(intOf j).toNat)
  ⟨i+1,z,rfl,Nat.le_refl _,by omega,p,C,D,E⟩ ?_
 rintro _ _ X W ⟨q,l,rfl,O,P,h,u,v,y⟩ t;have V:=h.len;refine aW ?_;by_cases R:q<b
 rotate_left
 .exact aB oo <|iB <|aY oo oo (o _ _ _ rfl rfl h u v y)
 refine aG oo <|ax (λx=>SD x g n c l) h.drew <|ac (λx f _=>iH oo) <|ac (λx f _=>ldS f oo) <|ac (λx f _=>co oo oo) ?_;rw[xN oo];refine ac (λx f _=>iH oo) <|ac (λx f _=>ldS f oo) <|xr <|ax (λ_=>True) trivial <|ac (λx f _=>xI) ?_;by_cases r:G l q<G l (q-1)
 rotate_left
 .exact aG r <|iB <|aY oo oo (o _ _ _ rfl rfl h.drew (cQ u) v y)
 refine aB oo <|ax (λx=>SD x g n c l) h.drew.drew <|ac (λx f _=>co oo oo) <|ac (λx f _=>co oo oo) ?_;rw[xN oo];refine LQ h.drew.drew (i:=q) (j:=q-1) oo oo ?_;intro Y H T;refine aY oo oo ?_;have A:=λk=>Gr (xs:=l) (i:=q) (j:=q-1) (k:=k) oo oo
 refine⟨⟨q+1,_,rfl,by omega,by omega,H,cU (cQ (cQ u)) T,v.trans (Rng.swp oo oo oo oo),λk L m=>?_⟩,?_⟩
 .rw[A,A,oI oo,oI oo,oI oo,oI oo];exact y k L m
 .rw[t,Bg];simp only[intOf];omega
def ziy{a:Nat}(W:Z1=.slice (some ⟨g,0,none⟩) n c)(e1:N2=ci (a:Nat))(X:O2=ci (b:Nat))(e7:P2=ci (i:Nat))(e8:Q2=ci (s:Nat))(I:SD w g n c z)(R:Oth g w0 w)(S:Rng a b xs z)(hs:Srt z a (i-1))(m:a<i)(o:i<b)(H:b<=n)(r:s<5)(v:Low a b xs)(Y:xs.Nodup)(F:∀e w' z,gd e 7=ci (i:Nat)->gd e 8=ci ((s:Int)+1)->SD w' g n c z->Oth g w0 w'->Rng a b xs z->Srt z a i->P1 e w'):dH K P1 ((aJ Z1 N2 O2 P2 Q2 zf)) w:=by
 subst W e1 X e7 e8;have P:n<=4611686018427387904:=by obtain⟨_,_,_,_,P⟩:=I;exact P
 refine uj <|co oo oo <|cJ <|uk ?_;by_cases u:(2:Int)<=(i:Int)-a
 rotate_left
 .exact aB u (YW rfl rfl rfl rfl rfl I R S (λk l D=>by omega) m o H r F)
 refine aG u <|co oo oo ?_;rw[xN oo];refine uo (Inv:=λj U=>∃(q:Nat) (z:List Int),j=ci (q:Nat)/\a<=q/\q<=i-1/\SD U g n c z/\Oth g w0 U/\Rng a b xs z /\
   (∀k,a<=k->k+1<=i-1->k+1≠q->G z k<=G z (k+1))/\(a<q->q<i-1->G z (q-1)<=G z (q+1))) (μ:=λj _=>(intOf j).toNat)
  ⟨i-1,z,rfl,by omega,Nat.le_refl _,I,R,S,λk l u D=>hs k l oo,λ_ h=>by omega⟩ ?_
 rintro _ _ w1 m1 ⟨q,B,rfl,Z,aa,t,O,A,E,x1⟩ L;have lz:=t.len;have f:=A.len;have y:=v.rng A oo Y;refine cJ ?_;by_cases p:0<q
 rotate_left
 .exact aB oo (YW rfl rfl rfl rfl rfl t O A (λk l D=>E k l oo oo) m o H r F)
 refine aG oo <|ax (λx=>SD x g n c B) t.drew <|ac (λx f _=>iH oo) <|ac (λx f _=>ldS f oo) <|ac (λx f _=>co oo oo) ?_;rw[xN p];refine ac (λx f _=>iH oo) <|ac (λx f _=>ldS f oo) <|xr <|ax (λ_=>True) trivial <|ac (λx f _=>xI) ?_;by_cases J:G B q<G B (q-1)
 rotate_left
 .refine aG J ?_;refine YW rfl rfl rfl rfl rfl t.drew (cQ O) A (λk l D=>?_) m o H r F;by_cases e:k+1=q
  .rw[e,show k=q-1 by omega];omega
  .exact E k l oo e
 refine aB oo ?_;have M:a<q:=by
  rcases Nat.lt_or_ge a q with h|h
  .exact h
  .have:=y (q-1) q oo oo oo
   omega
 refine ax (λx=>SD x g n c B) t.drew.drew <|ac (λx f _=>co oo oo) <|ac (λx f _=>co oo oo) ?_;rw[xN p];refine LQ t.drew.drew (i:=q) (j:=q-1) oo oo ?_;intro w4 V o4;refine co oo oo ?_;rw[xN p];have C:=λk=>Gr (xs:=B) (i:=q) (j:=q-1) (k:=k) oo oo
 refine⟨⟨q-1,_,rfl,by omega,by omega,V,cU (cQ (cQ O)) o4,A.trans (Rng.swp oo oo oo oo),λk l u D=>?_,λl u=>?_⟩,?_⟩
 .rw[C,C];by_cases N:k=q-1
  .subst N;rw[oJ rfl,oI oo,oJ oo];omega
  by_cases T:k=q
  .subst T;rw[oI N,oJ rfl,oI oo,oI oo];exact x1 M oo
  by_cases i3:k+1=q-1
  .omega
  rw[oI N,oI T,oI i3,oI oo];exact E k l u oo
 .rw[C,C];rw[oI oo,oI oo,oI oo,oJ oo]
  have:=E (q-1-1) oo oo oo
  rw[show q-1-1+1=q-1 by omega]at this;exact this
 .rw[L];simp only[intOf];omega
def zjv{a:Nat}(N:SD w g n c xs)(U:a<b)(V:b<=n)(r:Low a b xs)(W:xs.Nodup)(h:∀w' ys f,SD w' g n c ys->Oth g w w'->Rng a b xs ys->(f=true->Srt ys a b)->K (.bool f) w'):call Q 124 #[.slice (some ⟨g,0,none⟩) n c,ci (a:Nat),ci (b:Nat)] K w:=by
 have O:n<=4611686018427387904:=by obtain⟨_,_,_,_,O⟩:=N;exact O
 refine ao (goK func124) (vh ?_);refine aY oo oo ?_;rw[Bg];refine ul (Inv:=λi j v=>∃(p s:Nat) (z:List Int),i=ci (p:Nat)/\j=ci (s:Nat)/\a+1<=p/\p<=b/\SD v g n c z/\Oth g w v/\Rng a b xs z/\Srt z a p)
  (μ:=λi j _=>5-(intOf j).toNat) ⟨a+1,0,xs,rfl,rfl,Nat.le_refl _,by omega,N,mI _ _,Rng.refl _ _ _,λk y M=>by omega⟩ ?_
 rintro _ _ _ w1 m ⟨p,s,z,rfl,rfl,t,u,o,P,B,s1⟩ D;have lz:=o.len;refine aW ?_;by_cases H:s<5
 rotate_left
 .exact aB oo <|ut (h _ z false o P B (λe=>by cases e))
 refine aG oo <|ui ?_;refine um (Inv:=λi v=>∃(p:Nat),i=ci (p:Nat)/\a+1<=p/\p<=b/\SD v g n c z/\Oth g w v/\Srt z a p)
  (μ:=λi _=>b-(intOf i).toNat) ⟨p,rfl,t,u,o,P,s1⟩ ?_
 rintro _ _ w2 m2 ⟨p,rfl,t,u,l,A,I⟩ E;refine ah (λ_=>aW) ?_;by_cases F:p<b
 rotate_left
 .refine dt oo <|ah (λ_=>bG oo) <|aD <|mG <|aU <|aG oo ?_;refine h _ z true l.drew (cQ A) B (λ_=>?_)
  have:p=b:=by omega
  rw[<-this];exact I
 refine ck oo <|ah (λ_=>iH oo) <|ah (λ_=>ldS l.drew oo) <|ah (λ_=>co oo oo) ?_;rw[xN oo];refine ah (λ_=>iH oo) <|ah (λ_=>ldS l.drew oo) <|ah (λ_=>xr) <|ah (λ_=>xI) <|ah (λ_=>bR oo) ?_;by_cases C:G z p<G z (p-1)
 rotate_left
 .refine aG C <|aY oo oo ?_;refine⟨⟨p+1,rfl,by omega,by omega,l.drew,cQ A,λk y M=>?_⟩,by rw[E,Bg];simp only[intOf];omega⟩;by_cases e:k+1=p
  .rw[e,show k=p-1 by omega];omega
  .exact I k y oo
 refine aB oo <|mG <|aU <|aB oo <|co oo oo <|aW ?_;by_cases q:(b:Int)-a<50
 .exact aG q (h _ z false l.drew (cQ A) B (λe=>by cases e))
 refine aB q <|ax (λx=>SD x g n c z) l.drew.drew <|ac (λx X _=>co oo oo) <|ac (λx X _=>co oo oo) ?_;rw[xN oo];refine LQ l.drew.drew (i:=p) (j:=p-1) oo oo ?_;intro w4 R Y;have L:=λk=>Gr (xs:=z) (i:=p) (j:=p-1) (k:=k) oo oo
 refine ziy (s:=s) rfl rfl rfl rfl rfl R (cU (cQ (cQ A)) Y) (B.trans (Rng.swp oo oo oo oo)) (λk y M=>?_) oo F V H r W ?_
 .rw[L,L,oI oo,oI oo,oI oo,oI oo];exact I k y oo
 intro e w5 z5 T J S Z r5 s5;refine⟨⟨p,s+1,z5,T,by rw[J,Bg],by omega,by omega,S,Z,r5,s5⟩,?_⟩;show 5-(intOf (gd e 8)).toNat<_;rw[J,D,Bg];simp only[intOf];omega
end
structure Ots(g:Nat) (w w':oG):Prop where
 os:w'.os=w.os
 tape:w'.tape=w.tape
 output:w'.output=w.output
 size:w.heap.size<=w'.heap.size
 other:∀k,k<w.heap.size->k≠g->w'.heap[k]? = w.heap[k]?
def Ots.refl(w:oG)(g:Nat):Ots g w w:=⟨rfl,rfl,rfl,Nat.le_refl _,λ_ _ _=>rfl⟩
def Ots.of_oth(h:Oth g w S):Ots g w S:=⟨h.os,h.tape,h.output,by have:=h.size;omega,λk _ a=>h.other k a⟩
def Ots.of_below(h:Below w.heap.size w S):Ots g w S:=⟨h.os,h.tape,h.output,h.size,λk a _=>h.block k a⟩
def Ots.trans{a b c:oG}(h:Ots g a b)(k:Ots g b c):Ots g a c :=
 ⟨k.os.trans h.os,k.tape.trans h.tape,k.output.trans h.output,qR h.size k.size,λi e d=>(k.other i (by have:=h.size;omega) d).trans (h.other i e d)⟩
def Ots.drew(h:Ots g w S):Ots g w S.drew:=⟨h.os,h.tape,h.output,h.size,h.other⟩
def Ots.new{p:Nat}{a b c:oG}(h:Ots g a b)(k:Oth p b c)(f:a.heap.size<=p):Ots g a c :=
 ⟨k.os.trans h.os,k.tape.trans h.tape,k.output.trans h.output,by have:=h.size;have:=k.size;omega,λi d e=>(k.other i oo).trans (h.other i d e)⟩
def Ots.below{B:Nat}(h:Ots g w S)(a:B<=g)(c:B<=w.heap.size):Below B w S:=⟨h.os,h.tape,h.output,h.size,λk b=>h.other k oo oo⟩
def SD.oth{n p:Nat}{xs:List Int}(h:SD w g n c xs)(o:Oth p w S)(b:p≠g):SD S g n c xs:=by obtain⟨a,d,f⟩:=h;exact⟨a,o.blk d (λe=>b e.symm),f⟩
def SD.below{n:Nat}{xs:List Int}(h:SD w g n c xs)(o:Below w.heap.size w S):SD S g n c xs:=by obtain⟨a,b,d⟩:=h;exact⟨a,ae o b b.lt,d⟩
def SD.lt{n:Nat}{xs:List Int}(h:SD w g n c xs):g<w.heap.size:=by obtain⟨a,b,d⟩:=h;exact b.lt
def zjD(l:List UInt8):Bool:=(List.range 256).all λi=>i==0 || decide (2 ^ (l.getD i 0).toNat<=2*i)
section
variable   {K:KV} 
def zg5(f:P.underlying t=some .string){l:List UInt8}(c:l.length=256)(a:zjD l=true){k:IntKind}(g:1<=i)(hi:i<256)(h:∀r:Nat,r<64->2 ^ r<=2*i->K (.int .u8 (r:Int)) w):idx P t (.string (Al l)) (.int k (i:Nat)) K w:=by
 have b:2 ^ (l.getD i 0).toNat<=2*i:=by
  have:=(jR.1 a) i (jQ.2 hi)
  simp only[Bool.or_eq_true,beq_iff_eq,oP]at this;rcases this with h|h
  .omega
  .exact h
 have d:(l.getD i 0).toNat<64:=by
  rcases Nat.lt_or_ge (l.getD i 0).toNat 64 with h|h
  .exact h
  .have:2 ^ 64<=2 ^ (l.getD i 0).toNat:=Nat.pow_le_pow_right oo h
   omega
 refine zcg (w':=w) (v:=.int .u8 ((l.getD i 0).toNat:Int)) ?_ (h _ d b);have j:(Al l).size=256:=by simp[Al,ByteArray.size,c]
 have e:(Al l)[i]? = some (l.getD i 0):=by
  rw[getElem?_pos (Al l) i oo]
  congr 1
  simp[Al,ByteArray.getElem_eq_getElem_data,List.getD,show i<l.length by omega]
 simp[Instr.index,asIntOf,jY f,e]
end
def zhe(c:m<18446744073709551616):∃r:Nat,rC .and .u64 x (m:Nat)=(r:Int)/\r<=m:=by
 refine⟨(BitVec.ofInt 64 x &&& BitVec.ofInt 64 (m:Int)).toNat,?_,?_⟩
 .unfold rC;have b:IntKind.u64.bits=64:=rfl;show IntKind.u64.wrap ((BitVec.ofInt 64 x &&& BitVec.ofInt 64 (m:Int)).toNat:Int)=_;rw[gu]
  have:=(BitVec.ofInt 64 x &&& BitVec.ofInt 64 (m:Int)).isLt
  omega
 .rw[BitVec.toNat_and,BitVec.ofInt_natCast,BitVec.toNat_ofNat,Nat.mod_eq_of_lt (a:=m) oo];exact Nat.and_le_right
section
variable  {K:KV}{n:Nat}{xs:List Int}
def zi6(c:1<=n)(e:n<256)(h:∀r:Nat,r<64->2 ^ r<=2*n->K (ci (r:Int)) w):call Q 82 #[.int .u64 (n:Nat)] K w:=by
 refine ao (goK func82) (IB ?_)
 (repeat (first|refine aD ?_))
 refine ao (goK func106) (Fh ?_)
 (repeat (first|refine Cu ?_|refine Co ?_|refine Cw ?_|refine Cq ?_|refine Cy ?_|refine Cs ?_|refine cJ ?_|refine aB oo ?_))
 refine dP underlying32 underlying5 ?_;rw[Qv,show ((n:Nat):Int)%256=(n:Nat)by omega];refine zg5 underlying9 rfl (by decide +kernel) c e ?_;intro b d a;refine dP underlying5 underlying3 ?_;rw[eY oo oo]
 (repeat (first|refine aY oo oo ?_))
 have:=h b d a
 rwa[Int.zero_add]
def zig(c:1<=n)(f:n<256)(h:∀m:Nat,1<=m->m<=2*n->K (.int .u64 (m:Int)) w):call Q 113 #[ci (n:Nat)] K w:=by
 refine ao (goK func113) (IS ?_);refine dP underlying3 underlying188 ?_;rw[gu,show ((n:Nat):Int)%18446744073709551616=(n:Nat)by omega];refine zi6 c f ?_;intro r i a;refine Dr oo ?_;have g:0<2 ^ r:=Nat.two_pow_pos r;have e:IntKind.u64.wrap (1*2 ^ (min ((r:Int).toNat) IntKind.u64.bits))=((2 ^ r:Nat):Int):=by
  have d:IntKind.u64.bits=64:=rfl;rw[d,show min ((r:Int).toNat) 64=r by omega,Int.one_mul,gu];have b:(2:Int) ^ r=((2 ^ r:Nat):Int):=by simp
  rw[b];omega
 rw[e];exact h _ g a
def zh7{p:Nat}(e:blk w p 232 [.int .u64 x])(h:∀S y,blk S p 232 [.int .u64 y]->Oth p w S->K (.int .u64 y) S):call Q 114 #[pA p 0] K w:=by
 have f:∀w,(sizeOf 232).run Q w=.ok 1 w:=λ_=>by kernel_rfl
 have b:∀w,(isAgg 232).run Q w=.ok false w:=λ_=>by kernel_rfl
 refine ao (goK func114) (Jw ?_);refine ah (λ_=>au) <|ah (λ_=>ld1 b e rfl) <|ah (λ_=>au) <|ah (λ_=>ld1 b e rfl) <|ah (λ_=>Dr oo) <|ah (λ_=>Qc) <|ah (λ_=>au) <|dw f e.drew oB rfl ?_;intro m c i
 refine ah (λ_=>au) <|ah (λ_=>ld1 b c rfl) <|ah (λ_=>au) <|ah (λ_=>ld1 b c rfl) <|ah (λ_=>He oo) <|ah (λ_=>Qc) <|ah (λ_=>au) <|dw f c.drew oB rfl ?_;intro n d j;refine ah (λ_=>au) <|ah (λ_=>ld1 b d rfl) <|ah (λ_=>au) <|ah (λ_=>ld1 b d rfl) <|ah (λ_=>Dr oo) <|ah (λ_=>Qc) <|ah (λ_=>au) <|dw f d.drew oB rfl ?_
 intro l g k;exact au <|ld1 b g rfl (h l _ g (cU (cU (cQ (mI _ _)) (cU i (cQ (mI _ _)))) (cU j (cU (cQ (mI _ _)) k))))
def zho{a:Nat}(F:SD w g n c xs)(B:a<=b)(hb:b<=n)(hn:n<256)(h:∀w' ys,SD w' g n c ys->Ots g w w'->Rng a b xs ys->K (.tuple #[]) w'):call Q 121 #[.slice (some ⟨g,0,none⟩) n c,ci (a:Nat),ci (b:Nat)] K w:=by
 refine ao (goK func121) (yl ?_);refine co oo oo ?_;rw[XP B];refine cJ ?_;by_cases h8:8<=b-a
 rotate_left
 .exact aB oo (h _ xs F (Ots.refl _ _) (Rng.refl _ _ _))
 refine aG oo <|dP underlying3 underlying232 <|cD (z:=.int .u64 0) kr ?_;intro w1 C P s1;have G:=F.below P;have aa:=F.lt;refine dw kf C (by simp[Value.cells]) rfl ?_;intro w2 d S;have H:=G.oth S oo;have d:blk w2 w.heap.size 232 [.int .u64 (IntKind.u64.wrap ((b-a:Nat):Int))]:=d;refine zig oo oo ?_
 intro m ab ad;refine Uu oo oo oo <|MY oo oo <|aY oo oo <|co oo oo ?_;have t2:Ots g w w2:=(Ots.of_below P).new S oA;refine xA (Inv:=λi M=>∃(q:Nat) (x:Int) (z:List Int),i=ci (q:Nat)/\(a<=q)/\SD M g n c z/\blk M w.heap.size 232 [.int .u64 x]/\Ots g w M/\Rng a b xs z) (μ:=λi _=>b-(intOf i).toNat)
  ⟨a+(b-a) / 4*2-1,_,xs,by congr 1;omega,by omega,H,d,t2,Rng.refl _ _ _⟩ ?_
 rintro _ _ w3 m3 ⟨q,x,z,rfl,hq,f,D,W,V⟩ J;have lz:=f.len;refine Uu oo oo oo <|MY oo oo <|aY oo oo <|aY oo oo <|kq ?_;by_cases p:(q:Int)<=(a:Int)+((b-a:Nat):Int) / 4*2+1
 rotate_left
 .exact aB p (h _ z f W V)
 refine aG p <|zh7 D ?_;intro w4 y E T;have l:=f.oth T oo;have t4:=W.new T oA;refine nT ?_;rw[gu,show ((m:Int)-1)%18446744073709551616=((m-1:Nat):Int)by omega];refine US ?_;obtain⟨r,L,ae⟩:=zhe (x:=y) (m:=m-1) oo;rw[L];refine dP underlying188 underlying3 ?_;rw[eY oo oo];refine cJ <|xz ?_
 have R:∀(o:Nat) {B1:oE->oG->Prop} {O N jv ll kz X U:oF} {zf:oD},o<b-a->O=.slice (some ⟨g,0,none⟩) n c->N=ci (a:Nat)->X=ci (q:Nat)->U=ci (o:Nat) ->
   (∀e w',gd e 9=ci ((q+1:Nat):Int)->SD w' g n c (swp z q (a+o))->Oth g w4 w'->B1 e w')->cK K B1 ((ir O N jv ll kz X U zf)) w4:=by
  intro o
  intros
  rename_i ho Y Z s v hB;subst Y Z s v;refine xC <|ax (λx=>SD x g n c z) l.drew <|ac (λx a _=>aY oo oo) <|ac (λx a _=>aY oo oo) ?_;rw[FA];refine LQ l.drew (i:=q) (j:=a+o) oo oo ?_;intro w5 u t;refine xB <|aY oo oo ?_;rw[Bg];exact hB _ _ rfl u (cU (cQ (mI _ _)) t)
 have k:∀(o:Nat),o<b-a->∀e w',gd e 9=ci ((q+1:Nat):Int)->SD w' g n c (swp z q (a+o))->Oth g w4 w'->(∃(q:Nat) (x:Int) (z:List Int),gd e 9=ci (q:Nat)/\(a<=q)/\SD w' g n c z/\blk w' w.heap.size 232 [.int .u64 x]/\Ots g w w'/\Rng a b xs z)/\b-(intOf (gd e 9)).toNat<m3:=by
  intro o ho e w5 s u t;refine⟨⟨q+1,y,_,s,by omega,u,t.blk E oo,t4.trans (Ots.of_oth t),V.trans (Rng.swp oo oo oo oo)⟩,?_⟩;rw[s,J];simp only[intOf];omega
 by_cases I:b-a<=r
 .refine aG oo <|co oo oo ?_;rw[XP I];exact R (r-(b-a)) oo rfl rfl rfl rfl (k _ oo)
 .exact aB oo (R r oo rfl rfl rfl rfl (k _ oo))
abbrev I64:TypeId:=3
def Sy{p:Nat}{s:Int}(f:SD w g n c xs)(k:blk w p I64 [ci s])(m:p≠g)(hi:i<n)(o:j<n)(h:∀S x y s',(x=i\/x=j)->(y=i\/y=j)->SD S g n c xs->blk S p I64 [ci s']->Oth p w S->K (.tuple #[ci (x:Nat),ci (y:Nat)]) S):call Q 133 #[.slice (some ⟨g,0,none⟩) n c,ci (i:Nat),ci (j:Nat),pA p 0] K w:=by
 refine ao (goK func133) (CK ?_);refine ax (λx=>SD x g n c xs) f.drew <|ac (λx d _=>iH o) <|ac (λx d _=>ldS d o) <|ac (λx d _=>iH hi) <|ac (λx d _=>ldS d hi) <|xr ?_;by_cases b:G xs j<G xs i
 .refine aG b <|au <|lK (v:=ci s) k.drew rfl <|ze <|au <|dw kf k.drew oB rfl ?_;intro r l q;have e:=cU (cQ (mI w p)) q;exact h _ j i _ (.inr rfl) (.inl rfl) (f.oth e m) l e
 .exact aB b (h _ i j s (.inl rfl) (.inr rfl) f.drew k.drew (cQ (mI _ _)))
def YG{p k:Nat}{s:Int}(f:SD w g n c xs)(o:blk w p I64 [ci s])(a:p≠g)(hi:i<n)(l:j<n)(m:k<n)(h:∀w' x s',(x=i\/x=j\/x=k)->SD w' g n c xs->blk w' p I64 [ci s']->Oth p w w'->K (ci (x:Nat)) w'):call Q 132 #[.slice (some ⟨g,0,none⟩) n c,ci (i:Nat),ci (j:Nat),ci (k:Nat),pA p 0] K w:=by refine ao (goK func132) (CJ ?_);refine Sy f o a hi l ?_;intro J N R H q u b C z;refine bK <|bJ <|Sy b C a oo m ?_;intro L O S I r v d D A;refine bK <|bJ <|Sy d D a oo oo ?_;intro M P G F t y e E B;exact bK <|bJ (h _ G F oo e E (cU (cU z A) B))
def YE{p:Nat}{s:Int}(d:SD w g n c xs)(e:blk w p I64 [ci s])(a:p≠g)(l:1<=i)(hi:i+1<n)(m:n<256)(h:∀S x s',i-1<=x->x<=i+1->SD S g n c xs->blk S p I64 [ci s']->Oth p w S->K (ci (x:Nat)) S):call Q 131 #[.slice (some ⟨g,0,none⟩) n c,ci (i:Nat),pA p 0] K w:=by refine ao (goK func131) (xK ?_);refine co oo oo ?_;rw[xN oo];refine aY oo oo ?_;rw[Bg];refine YG d e a oo oo oo ?_;intro q x k o b j f;exact h _ x k oo oo b j f
def zhw{a:Nat}(P:SD w g n c xs)(X:a+8<=b)(hb:b<=n)(A:n<256)(h:∀w' (p:Nat) (u:Int),a<=p->p<b->SD w' g n c xs->Ots g w w'->K (.tuple #[ci (p:Nat),ci u]) w'):call Q 122 #[.slice (some ⟨g,0,none⟩) n c,ci (a:Nat),ci (b:Nat)] K w:=by
 refine ao (goK func122) (zL ?_);refine co oo oo ?_;rw[XP oo];refine cD (z:=ci 0) kr ?_;intro w1 d k s1;have f:=P.below k;have Y:=P.lt;have d:blk w1 w.heap.size I64 [ci 0]:=d;obtain⟨l,Z⟩:∃l,b-a=l:=⟨_,rfl⟩
 rw[Z];obtain⟨q,hq⟩:∃q,l / 4=q:=⟨_,rfl⟩
 have B:((l:Nat):Int) / 4=(q:Nat):=by omega
 have G:∀{K':KV} {t:TypeId} {L M:Bool},K' (ci (q:Nat)) w1->bin Q .quo t L M (ci (l:Nat)) (ci 4) K' w1:=by
  intro K' t L M W;refine Uu oo oo oo ?_;rw[B];exact W
 refine G <|MY oo oo ?_;rw[show ((q:Nat):Int)*1=((q*1:Nat):Int)by omega];refine aY oo oo ?_;rw[FA];refine G <|MY oo oo ?_;rw[show ((q:Nat):Int)*2=((q*2:Nat):Int)by omega];refine aY oo oo ?_;rw[FA];refine G <|MY oo oo ?_;rw[show ((q:Nat):Int)*3=((q*3:Nat):Int)by omega];refine aY oo oo ?_;rw[FA]
 refine yn <|cJ <|yp <|aG oo <|cJ <|yr ?_;have O:∀{w2:oG} {F:Int} (x y z:Nat) {I J i j N:oF} {zf:oD},a<=x/\x<b->a<=y/\y<b->a<=z/\z<b->SD w2 g n c xs->blk w2 w.heap.size I64 [ci F]->Ots g w w2 ->
   I=.slice (some ⟨g,0,none⟩) n c->i=ci (x:Nat)->j=ci (y:Nat)->N=ci (z:Nat)->J=pA w.heap.size 0->dB K ((eP I J i j N zf)) w2:=by
  intro w2 F x y z
  intros
  rename_i hx hy hz m D t2 T o r s U;subst T o r s U;refine yx <|YG m D oo oo oo oo ?_;intro w3 v R hv e E C;have H:=t2.new C oA;refine yv <|lK (v:=ci R) E rfl <|aU ?_;refine Ow (λ_=>h _ v _ oo oo e H) (λ_=>?_);refine aU ?_
  exact Ow (λ_=>h _ v _ oo oo e H) (λ_=>h _ v _ oo oo e H)
 by_cases V:50<=l
 .refine aG oo <|YE f d oo oo oo A ?_;intro w2 x F aa ab m D o2;refine YE m D oo oo oo A ?_;intro w3 y R ac ad e E C;refine YE e E oo oo oo A ?_;intro w4 z s4 ae af S p4 o4
  exact O x y z oo oo oo S p4 ((((Ots.of_below k).new o2 oA).new C oA).new o4 oA) rfl rfl rfl rfl rfl
 .exact aB oo (O _ _ _ oo oo oo f d (Ots.of_below k) rfl rfl rfl rfl rfl)
end
section
open Go.ChangeMaps
section
variable   {K:KV} 
def zg4(a:P.underlying t=some .string){s:ByteArray}{k:IntKind}(hi:i<s.size)(h:∀b:Nat,b<256->K (.int .u8 (b:Int)) w):idx P t (.string s) (.int k (i:Nat)) K w:=by refine zcg (w':=w) (v:=.int .u8 (s[i].toNat:Int)) ?_ (h _ (UInt8.toNat_lt _));have e:s[i]? = some s[i]:=getElem?_pos s i hi;simp[Instr.index,asIntOf,jY a,e]
end
section
variable  {K:KV}{n:Nat}{xs:List Int}
def zcl(c:n<256)(h:∀r:Nat,r<256->K (ci (r:Int)) w):call Q 82 #[.int .u64 (n:Nat)] K w:=by
 refine ao (goK func82) (IB ?_)
 (repeat (first|refine aD ?_))
 refine ao (goK func106) (Fh ?_)
 (repeat (first|refine Cu ?_|refine Co ?_|refine Cw ?_|refine Cq ?_|refine Cy ?_|refine Cs ?_|refine cJ ?_|refine aB oo ?_))
 refine dP underlying32 underlying5 ?_;rw[Qv,show ((n:Nat):Int)%256=(n:Nat)by omega];refine zg4 underlying9 (by exact c) ?_;intro b a;refine dP underlying5 underlying3 ?_;rw[eY oo oo]
 (repeat (first|refine aY oo oo ?_))
 have:=h b a
 rwa[Int.zero_add]
end
end
def zjK{xs:List Int}(g:xs.Nodup){k:Nat}(hi:i<xs.length)(a:k<xs.length)(h:i≠k):G xs i≠G xs k:=by
 have d:G xs i=xs[i]:=by simp[G,List.getD,hi]
 have f:G xs k=xs[k]:=by simp[G,List.getD,a]
 rw[d,f];have c:=List.pairwise_iff_getElem.1 g;rcases Nat.lt_or_ge i k with b|b
 .exact c i k hi a b
 .exact λe=>c k i a hi oo e.symm
def Srt.join{ys:List Int}{a:Nat}(g:Srt ys a m)(h:Srt ys (m+1) b)(l:∀k,a<=k->k<m->G ys k<=G ys m)(n:∀k,m<k->k<b->G ys m<=G ys k):Srt ys a b:=by
 intro i c j;by_cases d:i+1<m
 .exact g i c d
 by_cases e:i+1=m
 .rw[e];exact l i c oo
 by_cases f:i=m
 .rw[f];exact n (m+1) oo oo
 .exact h i oo j
structure NX(a b:Nat) (z:List Int) (a2 b2:Nat) (z2:List Int):Prop where
 le:a2<=b2
 ha:a<=a2
 hb:b2<=b
 lt:b2-a2<b-a
 rng:Rng a b z z2
 low:Low a2 b2 z2
 fin:∀ys,Rng a2 b2 z2 ys->Srt ys a2 b2->Rng a b z ys/\Srt ys a b
section
variable {a:Nat}{z z2 z3:List Int}
def PR.lowL(q:PR z2 a b m)(e:Low a b z2):Low a m z2:=λi k c d f=>e i k c d (by have:=q.hm;omega)
def PR.lowR(q:PR z2 a b m)(f:Low a b z2)(g:z2.Nodup)(l:b<=z2.length):Low (m+1) b z2:=by
 intro i k h j c;have n:=q.hm;by_cases d:i<a
 .exact f i k d oo c
 have o:=q.up k oo c;by_cases e:i=m
 .subst e
  have:=zjK g (i:=i) (k:=k) oo oo oo
  omega
 .have:=q.lo i oo oo
  omega
def zgp(r:Rng a b z z2)(q:PR z2 a b m)(A:Low a b z)(w:z.Nodup)(y:b<=z.length)(g:Rng a m z2 z3)(s3:Srt z3 a m):NX a b z (m+1) b z3:=by
 have D:=q.hm;have h:z2.Nodup:=r.perm.nodup_iff.2 w;have B:=r.len;have C:=g.len;have n:z3.Nodup:=g.perm.nodup_iff.2 h;have o:∀k,a<=k->k<m->G z3 k<G z2 m:=by
  intro k f e;obtain⟨j,x,u,v⟩:=g.from oo h k f e;rw[v];exact q.lo j x u
 have t:G z3 m=G z2 m:=g.out m oo;have p:=A.rng r y w;have s:=p.rng (g.mono (c:=a) (d:=b) oo oo) oo h;refine⟨by omega,by omega,by omega,by omega,r.trans (g.mono oo oo),?_,λF l E=>⟨(r.trans (g.mono oo oo)).trans (l.mono oo oo),Srt.join (m:=m) ?_ E ?_ ?_⟩⟩
 .refine PR.lowR ⟨D,λk f e=>by rw[t];exact o k f e,λk f e=>?_⟩ s n oo;rw[t,g.out k oo];exact q.up k f e
 .intro i f e;rw[l.out i oo,l.out (i+1) oo];exact s3 i f e
 .intro k f e;rw[l.out k oo,l.out m oo,t]
  have:=o k f e;omega
 .intro k f e;obtain⟨j,x,u,v⟩:=l.from oo n k oo e;rw[l.out m oo,t,v,g.out j oo];exact q.up j oo u
def zez(r:Rng a b z z2)(q:PR z2 a b m)(y:Low a b z)(v:z.Nodup)(x:b<=z.length)(e:Rng (m+1) b z2 z3)(s3:Srt z3 (m+1) b):NX a b z a m z3:=by
 have E:=q.hm;have g:z2.Nodup:=r.perm.nodup_iff.2 v;have A:=r.len;have B:=e.len;have p:z3.Nodup:=e.perm.nodup_iff.2 g;have u:G z3 m=G z2 m:=e.out m oo;have n:=y.rng r x v;have o:=n.rng (e.mono (c:=a) (d:=b) oo oo) oo g
 refine⟨by omega,by omega,by omega,by omega,r.trans (e.mono oo oo),λi k l f D=>o i k l f oo,λF h C=>⟨(r.trans (e.mono oo oo)).trans (h.mono oo oo),Srt.join (m:=m) C ?_ ?_ ?_⟩⟩
 .intro i l f;rw[h.out i oo,h.out (i+1) oo];exact s3 i l f
 .intro k l f;obtain⟨j,w,s,t⟩:=h.from oo p k l f;rw[h.out m oo,u,t,e.out j oo]
  have:=q.lo j w s;omega
 .intro k l f;rw[h.out k oo,h.out m oo,u];obtain⟨j,w,s,t⟩:=e.from oo g k oo f;rw[t];exact q.up j oo s
end
def Xv(d g n c:Nat):Prop:=∀{a b:Nat} {f:Int} {z:List Int} {w:oG} {K:KV},b-a<d->SD w g n c z->a<=b->b<=n->z.Nodup->Low a b z->(∀e ys,SD e g n c ys->Ots g w e->Rng a b z ys->Srt ys a b->K (.tuple #[]) e) ->
 call Q 111 #[.slice (some ⟨g,0,none⟩) n c,ci (a:Nat),ci (b:Nat),ci f] K w
def zaI(g n c:Nat)(S:oG)(a b:Nat)(z:List Int)(B1:oE->oG->Prop):Prop:=∀(e:oE) (d:oG) (f h:Nat) (j:Int) (k l:Bool) (i:List Int),
 gd e 1=ci (f:Nat)->gd e 2=ci (h:Nat)->gd e 3=ci j->gd e 8=.bool k->gd e 9=.bool l->SD d g n c i->Ots g S d->NX a b z f h i->B1 e d
section
variable  {K:KV}{n:Nat}{xs z:List Int}
def zcF{a p:Nat}(F:Z1=.slice (some ⟨g,0,none⟩) n c)(e1:N2=ci (a:Nat))(H:O2=ci (b:Nat))(e3:P2=ci x)(e8:Q2=.bool cx)(e9:R2=.bool cy)(s:T2=ci ((b-a:Nat):Int))(e11:U2=ci (p:Nat))(u:SD w g n c z)(T:Ots g w0 w)(J:Rng a b xs z)(y:a<=p)(B:p<b)(hb:b<=n)(e:Low a b xs)(A:xs.Nodup)(j:Xv (b-a) g n c)(R:zaI g n c w0 a b xs P1):dY K P1 ((fR Z1 N2 O2 P2 Q2 R2 T2 U2 zf)) w:=by
 subst F e1 H e3 e8 e9 s e11;have S:n<=4611686018427387904:=by obtain⟨_,_,_,_,S⟩:=u;exact S
 have lz:=u.len;have ab:=J.len;have C:=e.rng J oo A;refine Bc <|ah (λ_=>dE) ?_;have q:∀{w2:oG} {K2:KV},SD w2 g n c z->(∀D h m f,SD D g n c h->Oth g w2 D->Rng a b xs h->PR h a b m->K2 (.tuple #[ci (m:Nat),.bool f]) D) ->
   call Q 127 #[.slice (some ⟨g,0,none⟩) n c,ci (a:Nat),ci (b:Nat),ci (p:Nat)] K2 w2:=by
  intro w2 K2 V W;exact zit V y B hb (λD h m f X Y Z a=>W D h m f X Y (J.trans Z) a)
 have k:∀{m:Nat} {f:Bool} {h:List Int} {w3:oG} {Z1 N2 O2 P2 T2 U P:oF} {zf:oD},Z1=.slice (some ⟨g,0,none⟩) n c->N2=ci (a:Nat)->O2=ci (b:Nat)->P2=ci x->P=.bool f ->
   T2=ci ((b-a:Nat):Int)->U=ci (m:Nat)->SD w3 g n c h->Ots g w0 w3->Rng a b xs h->PR h a b m->im K P1 ((iq Z1 N2 O2 P2 T2 U P zf)) w3:=by
  intro m f h w3
  intros
  rename_i F e1 H e3 e9 s G r v o i;subst F e1 H e3 e9 s G;have I:=i.hm;have t:h.Nodup:=o.perm.nodup_iff.2 A;have l:=e.rng o oo A;have ly:=r.len;refine AX <|co oo oo <|co oo oo <|Uu oo oo oo <|aW ?_;refine Ow (λ_=>?_) (λ_=>?_)
  .refine cJ <|j oo r I.1 oo t (i.lowL l) ?_;intro w4 O E L M N;exact aY oo oo (R _ _ (m+1) b x _ f O rfl rfl rfl rfl rfl E (v.trans L) (zgp o i e A oo M N))
  .refine cJ <|aY oo oo ?_;rw[Bg];refine j oo r oo oo t (i.lowR l t oo) ?_;intro w4 O E L M N;exact R _ _ a m x _ f O rfl rfl rfl rfl rfl E (v.trans L) (zez o i e A oo M N)
 by_cases ha:0<a
 .refine ck oo <|ah (λ_=>co oo oo) ?_;rw[xN ha];refine ah (λ_=>iH oo) <|ah (λ_=>ldS u.drew oo) <|ah (λ_=>iH oo) <|ah (λ_=>ldS u.drew oo) <|ah (λ_=>xr) <|ah (λ_=>xI) <|ah (λ_=>bR oo) ?_;have aa:=C (a-1) p oo y B;refine aB oo <|q u.drew ?_;intro w3 h m f r v o i
  exact bK <|bJ (k rfl rfl rfl rfl rfl rfl rfl r (T.drew.trans (Ots.of_oth v)) o i)
 .refine dt oo <|ah (λ_=>bG oo) <|aD <|q u.drew ?_;intro w3 h m f r v o i;exact bK <|bJ (k rfl rfl rfl rfl rfl rfl rfl r (T.drew.trans (Ots.of_oth v)) o i)
def zcE{a p:Nat}(r:Z1=.slice (some ⟨g,0,none⟩) n c)(e1:Z=ci (a:Nat))(u:U=ci (b:Nat))(e3:Y=ci x)(e8:Q2=.bool cx)(e9:R2=.bool cy)(h:T2=ci ((b-a:Nat):Int))(e11:U2=ci (p:Nat))(s:V2=ci v)(B:SD w g n c z)(D:Ots g O w)(i:Rng a b xs z)(j:a<=p)(k:p<b)(A:b<=n)(d:Low a b xs)(o:xs.Nodup)(e:Xv (b-a) g n c)(F:zaI g n c O a b xs P1)(hF:∀S ys,SD S g n c ys->Ots g O S->Rng a b xs ys->Srt ys a b->K (.tuple #[]) S):dX K P1 ((fQ Z1 Z U Y Q2 R2 T2 U2 V2 zf)) w:=by
 subst r e1 u e3 e8 e9 h e11 s;have L:=B.len;have I:=i.len;have l:=d.rng i oo o;have C:z.Nodup:=i.perm.nodup_iff.2 o;have q:∀{t:Bool} {Z1 Z U Y Q2 R2 T2 U2 m:oF} {zf:oD},Z1=.slice (some ⟨g,0,none⟩) n c->Z=ci (a:Nat)->U=ci (b:Nat)->Y=ci x->Q2=.bool cx->R2=.bool cy ->
   T2=ci ((b-a:Nat):Int)->U2=ci (p:Nat)->m=.bool t->il K P1 ((ip Z1 Z U Y Q2 R2 T2 U2 m zf)) w:=by
  intro t
  intros
  rename_i r e1 u e3 e8 e9 h e11 y;subst r e1 u e3 e8 e9 h e11 y;refine AV ?_;cases t
  .exact aD (zcF rfl rfl rfl rfl rfl rfl rfl rfl B D i j k A d o e F)
  .refine bc <|zjv B oo A l C ?_;intro M ys f E G H J;cases f
   .exact aD (zcF rfl rfl rfl rfl rfl rfl rfl rfl E (D.trans (Ots.of_oth G)) (i.trans H) j k A d o e F)
   .exact bc (hF _ ys E (D.trans (Ots.of_oth G)) (i.trans H) (J rfl))
 refine Ba ?_;cases cx
 .exact js <|cA <|js <|cA (q rfl rfl rfl rfl rfl rfl rfl rfl rfl)
 .refine my <|dD ?_;cases cy
  .exact js <|cA (q rfl rfl rfl rfl rfl rfl rfl rfl rfl)
  .exact my <|aU <|dD (q rfl rfl rfl rfl rfl rfl rfl rfl rfl)
def zas{a:Nat}(v:Z1=.slice (some ⟨g,0,none⟩) n c)(e1:H=ci (a:Nat))(y:Z=ci (b:Nat))(e3:U=ci x)(e8:Y=.bool cx)(e9:J=.bool cy)(h:T2=ci ((b-a:Nat):Int))(B:SD w g n c z)(q:Ots g O w)(r:Rng a b xs z)(A:a+12<b)(f:b<=n)(i:n<256)(d:Low a b xs)(o:xs.Nodup)(e:Xv (b-a) g n c)(m:zaI g n c O a b xs P1)(hF:∀S ys,SD S g n c ys->Ots g O S->Rng a b xs ys->Srt ys a b->K (.tuple #[]) S):dW K P1 ((fP Z1 H Z U Y J T2 zf)) w:=by
 subst v e1 y e3 e8 e9 h;refine B8 <|zhw B oo f i ?_;intro E p u j k l s;refine bK <|bJ <|aU <|AT ?_;refine Ow (λ_=>?_) (λ_=>?_)
 .refine zjy l f ?_;intro F ys t C D;refine co oo oo <|co oo oo <|co oo oo ?_;rw[show ((b:Int)-1-((p:Int)-(a:Int)))=((b-1-(p-a):Nat):Int)by omega];exact zcE rfl rfl rfl rfl rfl rfl rfl rfl rfl t ((q.trans s).trans (Ots.of_oth C)) (r.trans D) oo oo f d o e m hF
 .exact zcE rfl rfl rfl rfl rfl rfl rfl rfl rfl l (q.trans s) r j k f d o e m hF
def zix(E:n<256):∀d,Xv d g n c:=by
 intro d
 induction d with
 | zero=>intro a b F z w K h;omega
 | succ d ih =>
  intro a b F W w K ab hd S hb hn L h;have lx:=hd.len;refine ao (goK func111) (tV ?_);refine sT (Inv:=λx y l Y I d=>∃(i j:Nat) (F:Int) (O R:Bool) (z:List Int),x=ci (i:Nat)/\y=ci (j:Nat)/\l=ci F/\Y=.bool O/\I=.bool R /\
    a<=i/\i<=j/\j<=b/\SD d g n c z/\Ots g w d/\z.Nodup/\Low i j z/\∀f,Rng i j z f->Srt f i j->Rng a b W f/\Srt f a b)
   (μ:=λx y l Y I _=>(intOf y).toNat-(intOf x).toNat) ⟨a,b,F,true,true,W,rfl,rfl,rfl,rfl,rfl,Nat.le_refl _,S,Nat.le_refl _,hd,Ots.refl _ _,hn,L,λf a J=>⟨a,J⟩⟩ ?_
  rintro _ _ _ _ _ _ w1 m ⟨i,j,F,O,R,z,rfl,rfl,rfl,rfl,rfl,h1,J,h3,o,P,t,A,k⟩ T;have lz:=o.len;refine co oo oo ?_;rw[XP J];refine kq ?_;by_cases aa:j-i<=12
  .refine aG oo <|zee o J oo ?_;intro B f q u G N;obtain⟨C,D⟩:=k f G N;exact h _ f q (P.trans (Ots.of_oth u)) C D
  refine aB oo <|aU ?_;refine Ow (λ_=>?_) (λ_=>?_)
  .refine zhS o oo oo t ?_;intro B f q u G N;obtain⟨C,D⟩:=k f G N;exact h _ f q (P.trans (Ots.of_oth u)) C D
  have hF:∀w' f,SD w' g n c f->Ots g w w'->Rng i j z f->Srt f i j->K (.tuple #[]) w':=by
   intro B f q u G N;obtain⟨C,D⟩:=k f G N;exact h _ f q u C D
  have v:Xv (j-i) g n c:=by
   intro X I M z2 B K2 q1 q2 q3 q4 q5 q6 q7;exact ih oo q2 q3 q4 q5 q6 q7
  have hB:zaI g n c w i j z (λp B=>(∃(i j:Nat) (F:Int) (O R:Bool) (z:List Int),gd p 1=ci (i:Nat)/\gd p 2=ci (j:Nat)/\gd p 3=ci F/\gd p 8=.bool O/\gd p 9=.bool R /\
    a<=i/\i<=j/\j<=b/\SD B g n c z/\Ots g w B/\z.Nodup/\Low i j z/\∀f,Rng i j z f->Srt f i j->Rng a b W f/\Srt f a b)/\(intOf (gd p 2)).toNat-(intOf (gd p 1)).toNat<m):=by
   intro e B X I M U V z2 Z p e3 e8 e9 q u H
   have:=H.ha
   have:=H.hb
   have:=H.lt
   refine⟨⟨X,I,M,U,V,z2,Z,p,e3,e8,e9,by omega,H.le,by omega,q,u,H.rng.perm.nodup_iff.2 t,H.low,λf r s=>?_⟩,?_⟩
   .obtain⟨C,D⟩:=H.fin f r s;exact k f C D
   .rw[Z,p,T];simp only[intOf];omega
  refine bH <|AR ?_;cases O
  .refine bc <|zho o J oo E ?_;intro B f q u G;exact nT (zas rfl rfl rfl rfl rfl rfl rfl q (P.trans u) G oo oo E A t v hB hF)
  .exact aD (zas rfl rfl rfl rfl rfl rfl rfl o P (Rng.refl _ _ _) oo oo E A t v hB hF)
def zgQ(e:SD w g n c xs)(b:n<256)(f:xs.Nodup)(h:∀S ys,SD S g n c ys->Ots g w S->ys.Perm xs->Srt ys 0 n->K (.tuple #[]) S):call Q 96 #[.slice (some ⟨g,0,none⟩) n c] K w:=by refine ao (goK func96) (vX ?_);refine zi5 <|dP underlying3 underlying188 ?_;rw[gu,show ((n:Nat):Int)%18446744073709551616=(n:Nat)by omega];refine zcl b ?_;intro r p;refine zix b (n+1) (a:=0) oo e oo oA f (λi k h=>by omega) ?_;intro o ys d j l m;exact h o ys d j l.perm m
end
def ziG{ys:List Int}(g:Srt ys 0 ys.length)(m:ys.Nodup):ys.Pairwise (· < ·):=by
 rw[List.pairwise_iff_getElem];have a:∀d i (h:i+d+1<ys.length),ys[i]'oo<ys[i+d+1]:=by
  intro d
  induction d with
  | zero =>
   intro i h;have f:=g i oo oo;have b:G ys i=ys[i]'oo:=by simp[G,List.getD,show i<ys.length by omega]
   have c:G ys (i+1)=ys[i+1]'oo:=by simp[G,List.getD,show i+1<ys.length by omega]
   rw[b,c]at f;have n:ys[i]'oo≠ys[i+1]'oo:=(List.pairwise_iff_getElem.1 m) i (i+1) oo oo oo;show ys[i]'oo<ys[i+1]'oo;omega
  | succ d ih =>
   intro i h;have f:=ih i oo;have k:=g (i+d+1) oo oo;have b:G ys (i+d+1)=ys[i+d+1]'oo:=by simp[G,List.getD,show i+d+1<ys.length by omega]
   have c:G ys (i+d+1+1)=ys[i+d+1+1]'oo:=by simp[G,List.getD,show i+d+1+1<ys.length by omega]
   rw[b,c]at k;show ys[i]'oo<ys[i+d+1+1]'oo;omega
 intro i j o p l
 have:=a (j-i-1) i oo
 have e:i+(j-i-1)+1=j:=by omega
 simpa[e]using this
section
variable  {K:KV}{t tp:Nat} 
def zed{d:oF}(h:K (.tuple #[]) w):call Q 119 #[d,ci 0,ci 0] K w:=by
 refine ao (goK func119) (rh ?_)
 (repeat (first|refine aY oo oo ?_))
 refine pX (Inv:=λi b=>i=ci 1/\b=w) (μ:=λi _=>0) ⟨rfl,rfl⟩ ?_;rintro _ _ c m ⟨rfl,rfl⟩ a
 (repeat (first|refine aW ?_|refine aD ?_))
 exact h
def zgP(h:K (.tuple #[]) w):call Q 96 #[.slice none 0 0] K w:=by
 refine ao (goK func96) (vX ?_);refine zi5 <|dP underlying3 underlying188 ?_;rw[gu,show ((0:Nat):Int)%18446744073709551616=(0:Nat)by omega];refine zcl (n:=0) oo ?_;intro r e;refine ao (goK func111) (tV ?_);refine sT (Inv:=λa b _ _ _ d=>a=ci 0/\b=ci 0/\d=w) (μ:=λa b _ _ _ _=>0) ⟨rfl,rfl,rfl⟩ ?_;rintro _ _ _ _ _ _ f m ⟨rfl,rfl,rfl⟩ c
 (repeat (first|refine kq ?_|refine co oo oo ?_|refine bc ?_))
 exact zed h
def zel{v:oF}(h:K (.bool true) w):call Q 80 #[v] K w :=
 ao (goK func80) (Od h)
def IdR(w:oG)(B:Nat)(a:Option Addr)(c:Nat)(ids:List Int):Prop:=(ids=[]/\a=none/\c=0)\/∃g rest,a=some ⟨g,0,none⟩/\B<=g/\ids.length<=c/\blk w g 32 (ids.map u6++rest)
def zat(ht:TreeM w t tp T)(hn:T.length<256)(h:∀w' a c (ids:List Int),ids.Perm (T.map (·.1))->ids.Pairwise (· < ·)->IdR w' w.heap.size a c ids->Below w.heap.size w w'->K (.slice a ids.length c) w'):call Q 61 #[pB t] K w:=by
 obtain⟨M,hM,hp⟩:=ht.mp;have ak:=ht.lt;refine ao (goK func61) (QZ (ao (goK func79) (Q9 (Vf (aD (au (DP (lK (v:=.map (some tp)) ht.bt rfl (PJ underlying135 hM ?_)))))))));intro z ae b4 s4;have Z:w.heap.size≠tp:=by omega
 have al:M.length=T.length:=hp.length_eq;refine Nn (Inv:=λl A=>∃(done:List Int) (a:Option Addr) (c:Nat),l=.slice a done.length c/\IT u6 u6 A w.heap.size tp M done/\Below w.heap.size w A/\z.heap.size<=A.heap.size /\
   OV A z.heap.size 32 a done.length c (done.map u6))
  (μ:=λl A=>jm A tp w.heap.size) ⟨[],none,0,rfl,ae,b4,Nat.le_refl _,OV.nil _ _ _⟩ ?_
 rintro l _ w5 m ⟨done,a,c,rfl,I,P,am,r⟩ hm;obtain⟨O,n2,n3⟩:=I.nodup;have aj:done.length<=M.length:=by
  have:=wG O n3;simpa using this
 refine Po I Z ?_ ?_
 .intro B;have f:done.Perm (T.map (·.1)):=((List.perm_ext_iff_of_nodup O n2).2 λx=>⟨n3 x,B x⟩).trans (hp.map _);refine te rfl (aD (No ?_));rcases r.2 with⟨H,hz⟩|⟨g,ah,R,H,hg,hh,Y,ai,F,G⟩
  .simp only[Value.slice.injEq]at H;obtain⟨rfl,aq,rfl⟩:=H;have V:done=[]:=List.eq_nil_of_length_eq_zero hz;subst V;exact zgP (h w5 none 0 [] f List.Pairwise.nil (.inl ⟨rfl,rfl,rfl⟩) P)
  simp only[Value.slice.injEq]at H;obtain⟨rfl,_,rfl⟩:=H;have ab:SD w5 g done.length c done:=by
   refine⟨R.toList.drop done.length,?_,rfl,Y,by omega⟩;rw[Nat.mul_one]at G;rw[show done.map uv=done.map u6 from rfl, <-G,List.take_append_drop];exact hh
  refine zgQ ab oo O ?_;intro w6 ys W L u E;have j:Below w.heap.size w w6:=P.trans (L.below oo oo);have ad:ys.length=done.length:=u.length_eq;have ac:IdR w6 w.heap.size (some ⟨g,0,none⟩) c ys:=by
   obtain⟨N,k1,k2,k3,k4⟩:=W;exact .inr ⟨g,N,rfl,by omega,by omega,k1⟩
  rw[<-ad]at E |-;exact h w6 _ c ys (u.trans f) (ziG E (u.nodup_iff.2 O)) ac j
 .intro x v w6 ap an J S L X;have j:Below w.heap.size w w6:=aK P L oA;have s6:=L.size;have C:OV w6 z.heap.size 32 a done.length c (done.map u6):=dl r λk p=>L.other k (by have:=(OV.block r k p).1;omega);refine te rfl (bc (OF S (bK (cB rfl (zel (bc ?_))))))
  refine qb (vs:=[u6 x]) underlying172 (s:=1) kr kr oo rfl oB oB oB (by simp[u6,Value.cells]) λw7 o n s7=>?_;have o:blk w7 w6.heap.size 32 [u6 x]:=by simpa[Value.cells,u6]using o
  have D:OV w7 z.heap.size 32 a done.length c (done.map u6):=dl C λk p=>n.block k (OV.block C k p).2;obtain⟨i,hi,hz,F,U⟩:=info_parts (show (Tryz.prog.info? 32).map (λi=>(i.zero,i.size,i.bytes))=some (some (u6 0),1,8)by kernel_rfl)
  refine ZM (base:=z.heap.size) (s:=1) (ys:=[u6 x]) underlying172 hi hz F U rfl oo D o rfl rfl (by simp[u6,Value.oneCell']) oo oo oo ?_;intro a' c' w8 aa d;have b:∀k,k<w6.heap.size->(∀q,(Value.slice a done.length c).ownBlock=some q->q≠k)->w8.heap[k]? = w6.heap[k]? := by
   intro k p y;rw[d.block k oo (λe=>y k e.symm rfl),n.block k p]
  have y:∀q,(Value.slice a done.length c).ownBlock=some q->z.heap.size<=q:=λq e=>(OV.block D q e).1;have ag:=J.lt;have af:IT u6 u6 w8 w.heap.size tp M (done++[x]):=J.kept (b _ oo λq e=>by have:=y q e;omega) (b _ oo λq e=>by have:=y q e;omega)
  have b8:Below w.heap.size w w8:=⟨d.os.trans (n.os.trans j.os),d.tape.trans (n.tape.trans j.tape),d.output.trans (n.output.trans j.output),by have:=d.size;have:=n.size;have:=j.size;omega,λk p=>by
   have:=j.size
   rw[b k oo λq e=>by have:=y q e;omega,j.block k p]⟩
  refine⟨⟨done++[x],a',c',by simp,af,b8,by have:=d.size;have:=n.size;omega,?_⟩,?_⟩
  .rw[jJ,oT];exact aa
  .rw[hm]
   have:jm w8 tp w.heap.size=jm w6 tp w.heap.size:=xg (b _ oo λq e=>by have:=y q e;omega) (b _ oo λq e=>by have:=y q e;omega)
   omega
end
def BJ{K:KV}(h:box Q 172 H (λa=>K (.func (.func 326) #[] #[a])) w):Gives Q 315 #[H] w K:=aw func315 kr (mpK h)
def jn(Y:YB)(a:Nat)(K:KV):KE:=xi Q Y a (cd f326 [1,0]) (rk f326 K) (xx xf (rk f326 K) 0) (rk f326 K)
def Aq{Y:YB}{K:KV}(h:ld Q 172 H (λa=>lN 172 a λc=>bT .sub 3 c (ci 1) λd=>jn Y b K [Z,H,uu,d,a,c,d,uu,uu,uu,uu,uu,uu,uu,uu,uu,uu,uu,uu]) w):Fy Q Y b 326 [Z,H] w K:=zdh (goK func326) func326 kr (mpK h)
def yU{Y:YB}{K:KV}{t15:oF}(i:Ei Y)(Inv:oF->oG->Prop)(μ:oF->oG->Nat)(f:Inv P2 w)(j:∀(a:oF) (l:oD) (w:oG) (m:Nat),Inv a w->m=μ a w ->
  bT .geq 3 a (ci 0) (λJ w=>cond J (ld Q 172 N2 (λZ=>bv Q 172 Z a λc=>ld Q 32 c λU=>Tt Q Y b Z1 #[a,U] λC=>un Q .not C λb w=>cond b (K (.tuple #[]) w) (bT .sub 3 a (ci 1) (λH w=>(Inv H w)/\((μ H w)<m)) w)) w) (K (.tuple #[]) w)) w):jn Y b K [Z1,N2,O2,P2,Q2,R2,T2,U2,J,X2,H,O3,P3,Z,T3,t15,U,C,W3] w:=by refine Ue i (cd f326 [1,0,0]) (zr [(3,1),(7,12)]) kr (vP [3] Inv) (vQ [3] μ) f ?_;intro e k g;have h:=j _ (gd e) k _ g rfl;exact mpK h
attribute [irreducible] jn
def BK{K:KV}(h:call Q 327 #[Z,H] (λa=>bT .geq 3 a (ci 0) K) w):Gives Q 316 #[Z,H] w K:=aw func316 kr (mpK h)
def vm(s0 v1 t7 t8:oF)(zf:oD):=s0::v1::zT zf 2 5 (t7::t8::zT zf 9 10 ([]))
def vo(zf:oD):=zT zf 0 19 ([])
def eB(K:KV):KE:=kZ f327 [1,1] K
def lP(K:KV):KE:=aj Q (cd f327 [1,0,1,0]) (eB K) (xx xf (eB K) 0) (rk f327 K)
section
variable {K:KV}{s0 v1 t7 t8:oF}  
def De{K:KV}(h:lN 172 H (λa=>lP K (vm H Z a (ci 0) (zV (zV zu 4 [ci 0]) 6 [H]))) w):Gives Q 327 #[H,Z] w K:=aw func327 kr (mpK h)
def BY(Inv:oF->oG->Prop)(μ:oF->oG->Nat)(f:Inv t8 w)(i:∀(a:oF) (e:oD) (w:oG) (m:Nat),Inv a w->m=μ a w ->
  lS a t7 (λb w=>cond b (bv Q 172 s0 a (λb=>ld Q 32 b λb=>bF .eql 32 v1 b λb w=>cond b (K a w) (nC a (λa w=>(Inv a w)/\((μ a w)<m)) w)) w) (eB K (vo (zV (zV e 0 [s0,v1]) 7 [t7,a,b])) w)) w):lP K (vm s0 v1 t7 t8 zf) w:=by refine aZ (cd f327 (b1 52)) (zr [(4,2),(8,11)]) kr (vP [8] Inv) (vQ [8] μ) f ?_;intro d j g;have h:=i _ (zM zf (gd d) (zr [(4,2),(8,11)])) j _ g rfl;revert h;generalize (eB K)=qc0;exact mpF
def BZ(h:K (ci (-1)) w):eB K (vo zf) w:=mpK h
end
attribute [irreducible] eB lP
end
end Go.Proofs.YtgohpbmmcgenpaaGreatDoor
