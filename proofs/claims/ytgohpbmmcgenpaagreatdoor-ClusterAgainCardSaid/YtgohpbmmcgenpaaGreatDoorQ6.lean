import Derived.Test.YtgohpbmmcgenpaaGreatDoorQ5
import Derived.Test.YtgohpbmmcgenpaaGreatDoorQ1
import Derived.Test.YtgohpbmmcgenpaaGreatDoorQ4
import Derived.Test.YtgohpbmmcgenpaaGreatDoorQ2
import Derived.Test.YtgohpbmmcgenpaaGreatDoorChecked
namespace Go.Proofs.YtgohpbmmcgenpaaGreatDoor
set_option maxRecDepth 100000
set_option linter.defProp false
set_option maxHeartbeats 4000000
open Go.Proofs.Tryz
open Go.RowKit
variable {w w' w0 w2 S O:oG}{zf:Nat->oF}{b c o i g m s j z f d c2 D ba hi:Nat}{a av a2:Option Addr}{x v r N:Int}{E t e:TypeId}{A:List Int}{B1 U0:KE}{vs:oE}{P:Program}{α κ:Type}{T:List (Int×Int)}{Z1 N2 O2 P2 Q2 R2 T2 U2 V2 X2 N3 O3 P3 Q3 T3 U3 V3 W3 X3 N4 O4 P4 Q4 T4 U4 V4 Y4 Z4 j5 B5 N5 O5 P5 Q5 R5 T5 U5 V5 Z5 M6 N6 O6 P6 Q6 R6 T6 U6 V6 K7 M7 N7 O7 P7 Q7 H Z U Y J C:oF}
section
attribute [local irreducible] bin un conv call bS blt slc aq fld bv idx lkp fJ nl eSt rng nxt ent ext alc box bld cH ld sto bj fK mkS ifc pick rdy wts aT sti cond bA Gives aj iK kH cOp
section
variable  {K:KV}{B:Nat}  {ids:List Int} 
def IdR.at(h:IdR w B a c ids)(hi:i<ids.length)(e:K (u6 ids[i]) w):bv Q 172 (.slice a ids.length c) (ci (i:Nat)) (λp=>ld Q 32 p K) w:=by
 rcases h with⟨rfl,_⟩|⟨g,b,rfl,j,f,d⟩
 .simp at hi
 refine gO underlying172 (s:=1) kf oo oo ?_;rw[oQ,Nat.mul_one,oK];refine lK (v:=u6 ids[i]) d ?_ e;rw[qO (by simpa using hi),qC,gE hi];rfl
def IdR.kept(h:IdR w B a c ids)(j:∀k o,B<=k->w.heap[k]? = some o->S.heap[k]? = w.heap[k]?):IdR S B a c ids:=by
 rcases h with h|⟨g,b,f,d,i,e⟩
 .exact .inl h
 .exact .inr ⟨g,b,f,d,i,by have:=j g _ d e;unfold blk at *; rw[this];exact e⟩
def IdR.below(h:IdR w B a c ids)(b:Below w.heap.size w S):IdR S B a c ids :=
 h.kept λk o _ d=>b.block k (qM.1 d).1
def IdR.own{n:Nat}(h:w.ownsRow B 32 1 (.slice a n c) n (ids.map u6))(q:ids.length=n):IdR w B a c ids:=by
 rcases h.2 with⟨b,r⟩|⟨g,f,e,b,k,l,m,j,o,d⟩
 .simp only[Value.slice.injEq]at b;exact .inl ⟨List.eq_nil_of_length_eq_zero oo,b.1,b.2.2⟩
 .simp only[Value.slice.injEq]at b;obtain⟨i,_,p⟩:=b;refine .inr ⟨g,e.toList.drop n,i,k,by omega,?_⟩;rw[Nat.mul_one]at d;rw[<-d,List.take_append_drop];exact l
def zeG(h:IdR w B a c ids)(u:ids.length<1000000)(l:∀i:Int,(0<=i↔x∈ids)->K (ci i) w):call Q 327 #[.slice a ids.length c,u6 x] K w:=by
 refine ao (goK func327) (De (bM underlying172 ?_));refine BY (Inv:=λi r=>∃k:Nat,i=iv (k:Nat)/\r=w/\k<=ids.length/\∀j (f:j<ids.length),j<k->ids[j]≠x) (μ:=λi _=>ids.length-(intOf i).toNat) ⟨0,rfl,rfl,qG _,λj _ f=>by omega⟩ ?_;rintro _ s _ m ⟨k,rfl,rfl,o,b⟩ p;refine aW ?_;by_cases d:k<ids.length
 .refine aG oo (h.at d (aU ?_));by_cases g:x=ids[k]
  .exact aG g (l _ ⟨λ_=>g ▸ List.getElem_mem d,λ_=>by omega⟩)
  .refine aB g (aY oo oo ?_);refine⟨⟨k+1,ivS,rfl,d,λj f n=>?_⟩,by rw[p];show ids.length-((k:Int)+1).toNat<ids.length-(k:Int).toNat;omega⟩;by_cases e:j=k
   .subst e;exact λe=>g e.symm
   .exact b j f oo
 .refine aB oo (BZ (l _ ⟨λt=>by omega,λq=>?_⟩));obtain⟨j,f,e⟩:=List.getElem_of_mem q;exact qI e (b j f oo)
def ZB(h:IdR w B a c ids)(e:ids.length<1000000)(d:K (.bool (decide (x∈ids))) w):call Q 316 #[.slice a ids.length c,u6 x] K w:=by refine ao (goK func316) (BK (zeG h e λi b=>cJ ?_));rw[show decide (i≥0)=decide (x∈ids)from decide_eq_decide.2 b];exact d
def zgs(h:∀S,blk S w.heap.size 172 [.slice a ids.length c]->Below w.heap.size w S->S.heap.size=w.heap.size+1->K (.func (.func 326) #[] #[pB w.heap.size]) S):call Q 315 #[.slice a ids.length c] K w:=by refine ao (goK func315) (BJ (bU λf d b e=>?_));exact h f (by simpa[Value.cells]using d) b e
def zgt{Y:YB}{l:Nat}(u:Ei Y)(G:ids.length<1000000)(Inv:Nat->oG->Prop)(d:oG->Prop)(s:Inv 0 w)(q:∀j w,Inv j w->blk w b 172 [.slice a ids.length c]/\IdR w B a c ids)(C:∀j k x w K,k+j+1=ids.length->ids[k]? = some x->Inv j w->(∀S,Inv (j+1) S->K (.bool true) S)->(∀S,d S->K (.bool false) S)->Y [iv (k:Nat),u6 x] K w)(y:∀S,Inv ids.length S->K (.tuple #[]) S)(A:∀S,d S->K (.tuple #[]) S):Fy Q Y l 326 [.func (.yield l) #[] #[],pB b] w K:=by
 refine Aq (lK (v:=.slice a ids.length c) (q 0 w s).1 rfl (bM underlying172 (co oo oo ?_)));refine yU u (Inv:=λi D=>∃j:Nat,i=ci ((ids.length:Int)-1-(j:Nat))/\j<=ids.length/\Inv j D) (μ:=λi _=>(intOf i+1).toNat) ⟨0,by simp,qG _,s⟩ ?_;rintro _ E n m ⟨j,rfl,F,h⟩ g;refine cJ ?_;by_cases p:j<ids.length
 .obtain⟨k,z⟩:∃k:Nat,k+j+1=ids.length:=⟨ids.length-j-1,by omega⟩
  have t:(ids.length:Int)-1-(j:Nat)=(k:Nat):=by omega
  rw[t]at g |-;have f:k<ids.length:=by omega
  refine aG oo (lK (v:=.slice a ids.length c) (q j n h).1 rfl ((q j n h).2.at f ?_));refine .inl ⟨rfl,C j k ids[k] n _ z (gE f) h (λS o => bH (aD (co oo oo ?_))) (λS r => bH (bc (A S r)))⟩;refine⟨⟨j+1,qH (Value.int .i64) (by push_cast;omega),p,o⟩,by rw[g];show ((k:Int)-1+1).toNat<((k:Int)+1).toNat;omega⟩
 .have e:j=ids.length:=by omega
  subst e;exact aB oo (y n h)
end
section
variable {S:List (Int×Int)}{rk:Int->Nat}
def zar(c:TK T rk):∀(f:Nat) (id:Int),(dO T f id).length<=upT T rk id
 | 0,_=>qG _
 | f+1,id=>by
  cases a:eh T id with
  | false=>simp[dO,a]
  | true =>
   have d:=zar c f (fV T id);have b:=Np c (qs a);have b:upT T rk (fV T id)<upT T rk id:=b;simp only[dO,a,if_true,oZ];omega
def zgZ(e:(T.map (·.1)).Nodup):∀x∈T,∀y∈T,x.1=y.1->x=y:=by
 intro x f y g h;obtain⟨i,b,rfl⟩:=List.getElem_of_mem f;obtain⟨j,c,rfl⟩:=List.getElem_of_mem g;have d:=List.pairwise_iff_getElem.1 e;rcases Nat.lt_trichotomy i j with a|a|a
 .exact qI (by rw[List.getElem_map,List.getElem_map];exact h) (d i j (by simpa using b) (by simpa using c) a)
 .subst a;rfl
 .exact qI (by rw[List.getElem_map,List.getElem_map];exact h.symm) (d j i (by simpa using c) (by simpa using b) a)
def insA_fst{L:List (Int×Int)}{z:Int×Int}:((vJ L i z).map (·.1)).Perm (z.1::L.map (·.1)):=by unfold vJ;rw[jJ,jK];refine List.perm_middle.trans ?_;rw[<-jJ,List.take_append_drop]
structure RI(T S:List (Int×Int)) (l q:List Int):Prop where
 tk:∃rk,TK S rk
 ids:(S.map (·.1)).Perm l
 nd:l.Nodup
 par:∀n∈q,n∈l/\fV S n=fV T n
def RI.nil:RI T [] [] []:=⟨⟨_,TK.nil⟩,.refl _,List.nodup_nil,by simp⟩
def RI.has{l q:List Int}(h:RI T S l q){n:Int}:eh S n=true↔n∈l:=by rw[ky, <-h.ids.mem_iff,qT]
def RI.len{l q:List Int}(h:RI T S l q):S.length=l.length:=by have:=h.ids.length_eq;simpa using this
def RI.add{l q:List Int}(h:RI T S l q){n:Int}(u:n≠0)(B:n∉l)(E:x=0\/x∈l)(H:l.length<32)(A:x=0\/l.length<4):(nN S n x).2=0/\RI T (nN S n x).1 (n::l) q/\(x=fV T n->RI T (nN S n x).1 (n::l) (n::q)):=by
 obtain⟨J,r⟩:=h.tk;have C:=h.len;have g:eh S n=false:=by
  cases w:eh S n with
  | false=>rfl
  | true=>exact qI (h.has.1 w) B
 have G:eh S 0=false:=by
  cases w:eh S 0 with
  | false=>rfl
  | true=>obtain⟨y,F,e⟩:=ky.1 w;exact qI e (r.nz y F)
 have o:x=0\/eh S x=true:=E.imp id λp=>h.has.2 p;have v : ¬(32<=S.length\/4<=(fy S x).length):=by
  have I:=LS r x;have D:=zar r (S.length+1) x;rintro(p|p)
  .omega
  .unfold fy at p;rcases A with rfl|A
   .rw[dO,G]at p;simp at p
   .omega
 have e:nN S n x=(vJ S (Vu (λy=>decide (n<y.1)) S S.length) (n,x),0):=by
  unfold nN;rw[oI u,g,oI oB,oI (by rintro⟨a,b⟩;rcases o with c|c;exact a c;rw[c]at b;cases b),oI v]
 generalize Vu (λy=>decide (n<y.1)) S S.length=i at e;have d:((vJ S i (n,x)).map (·.1)).Perm (n::l):=insA_fst.trans (h.ids.cons n);have j:(n::l).Nodup:=jF.2 ⟨B,h.nd⟩;have t:=zgZ (d.nodup_iff.2 j);have f:∀m∈q,m∈n::l/\fV (vJ S i (n,x)) m=fV T m:=λm s=>by
  obtain⟨a,b⟩:=h.par m s;refine⟨oH _ a,?_⟩;rw[<-b];exact LG t (BC.2 (.inr (qs (h.has.2 a))))
 have k:fV (vJ S i (n,x)) n=x:=LG t (BC.2 (.inl rfl));rw[e];refine⟨rfl,⟨⟨_,r.add u g o i⟩,d,j,f⟩,λz=>⟨⟨_,r.add u g o i⟩,d,j,λm s=>?_⟩⟩;rcases oO.1 s with rfl|s
 .exact⟨oL ..,k.trans z⟩
 .exact f m s
def WE(a:∀n,eh S n=eh T n):∀(f:Nat) (id:Int),(∀n∈dO T f id,fV S n=fV T n)->dO S f id=dO T f id
 | 0,_,_=>rfl
 | f+1,id,h=>by
  cases b:eh T id with
  | false=>simp[dO,a,b]
  | true =>
   have e:dO T (f+1) id=id::dO T f (fV T id):=by simp[dO,b]
   rw[e]at h |-;have c:=h id oB;simp only[dO,a,b,if_true,c];rw[WE a f (fV T id) λn d=>h n (by simp[d])]
def RI.err{l:List Int}{id:Int}(h:RI T S l (fy T x))(c:l.Perm (T.map (·.1))):(nN S id x).2=(nN T id x).2:=by
 have b:∀n,eh S n=eh T n:=λn=>by
  rw[Bool.eq_iff_iff,h.has,c.mem_iff,ky,qT]
 have a:S.length=T.length:=by rw[h.len,c.length_eq,oY]
 have e:fy S x=fy T x:=by
  unfold fy;rw[a];exact WE b _ _ λn d=>(h.par n d).2
 unfold nN;rw[b,b,a,e];split
 .rfl
 split
 .rfl
 split
 .rfl
 split<;>rfl
def WD(d:TK T rk):∀(f:Nat) (id:Int),upT T rk id<=f->∀i n,(dO T f id)[i]? = some n->n≠0/\eh T n=true/\((i+1=(dO T f id).length/\fV T n=0)\/(dO T f id)[i+1]? = some (fV T n))
 | 0,_,_,i,n,h=>by simp[dO]at h
 | f+1,id,hu,i,n,h=>by
  cases b:eh T id with
  | false=>simp[dO,b]at h
  | true =>
   have e:dO T (f+1) id=id::dO T f (fV T id):=by simp[dO,b]
   rw[e]at h |-;have p:upT T rk (fV T id)<upT T rk id:=Np d (qs b);cases i with
   | zero =>
    simp at h;subst h;refine⟨d.nz _ (qs b),b,?_⟩;cases a:eh T (fV T id)with
    | false =>
     left;refine⟨?_,?_⟩
     .cases f<;>simp[dO,a]
     .rcases d.up _ (qs b)with k|⟨y,q,j,_⟩
      .exact k
      .rw[ky.2 ⟨y,q,j⟩]at a;cases a
    | true =>
     right;obtain⟨g,rfl⟩:∃g,f=g+1:=⟨f-1,by
      have:0<upT T rk (fV T id):=by unfold upT;rw[a];exact Nat.succ_pos _
      omega⟩
     simp[dO,a]
   | succ i =>
    simp only[qK]at h |-;obtain⟨l,m,c⟩:=WD d f (fV T id) oo i n h;refine⟨l,m,?_⟩;rcases c with⟨c,o⟩|c
    .exact .inl ⟨by simp;omega,o⟩
    .exact .inr c
def Nb(g:TK T rk):∀(f:Nat) (id:Int),(dO T f id).Pairwise λa b=>upT T rk b<upT T rk a
 | 0,_=>List.Pairwise.nil
 | f+1,id=>by
  cases h:eh T id with
  | false=>simp[dO,h]
  | true =>
   have e:dO T (f+1) id=id::dO T f (fV T id):=by simp[dO,h]
   rw[e,List.pairwise_cons];refine⟨?_,Nb g f _⟩;have k:upT T rk (fV T id)<upT T rk id:=Np g (qs h);have i:∀(f:Nat) (j:Int),∀b∈dO T f j,upT T rk b<=upT T rk j:=by
    intro f
    induction f with
    | zero=>intro j b c;simp[dO]at c
    | succ f ih =>
     intro j b c;cases d:eh T j with
     | false=>simp[dO,d]at c
     | true =>
      simp only[dO,d,if_true,oO]at c;rcases c with rfl|c
      .exact Nat.le_refl _
      .have:=ih _ _ c
       have l:upT T rk (fV T j)<upT T rk j:=Np g (qs d);omega
   intro b c
   have:=i f _ b c
   omega
end
def Qt{V:List Int}(a:V.length=6):jy Q 3 34 (vCs V)=true:=by
 obtain⟨_,_,_,_,_,_,rfl⟩:=Za a
 kernel_rfl
section
variable  {K:KV}
def zh3{B:List Int}(I:A.length=6)(T:B.length=6)(L:blk w b 34 (vCs A++vCs B))(h:∀w',Below w.heap.size w w'->K (.agg (vCs (jV A B)).toArray) w'):call Q 117 #[.slice (some ⟨b,0,none⟩) 2 2,.func (.func 118) #[] #[]] K w:=by
 have lA:=bE (V:=A);have lB:=bE (V:=B);refine ao (goK func117) (Wl ?_);refine bU λW D S s1=>?_;have D:=cZ D
 have d:=ae S L L.lt;refine IU λw2 U F s2=>?_;have c:=ae F d d.lt;have e:=ae F D D.lt;refine bM underlying238 (aU (aB dc ?_))
 refine gO underlying238 (s:=6) kf dc dc <|ldA (n:=6) (vs:=vCs A) underlying34 rfl kr c (by show ((vCs A++vCs B).drop 0).take 6=_;rw[oX,qJ oo,tL oo]) oo ?_;refine IU λw3 ho y s3=>?_;have O:=ae y U U.lt;refine Fx rfl I ho λw4 l u=>?_
 have X:Below w.heap.size w w4:=aK ((S.trans (F.mono oo)).trans (y.mono oo)) u oo;have M:=u.blk (ae y c c.lt) (by have:=L.lt;omega);have f:=u.blk (ae y e e.lt) oo;have o:=u.blk O oo;have s4:=u.size
 refine Xr (q:=1) (s:=6) underlying238 kf oo oo <|bM underlying238 <|Tc (Inv:=λi E=>(i=ci 0/\E=w4)\/(i=ci 1/\Below w.heap.size w E/\blk E w2.heap.size 34 (vCs (jV A B))/\blk E W.heap.size 34 (vCs [0,0,0,0,0,0]))) (μ:=λi _=>6-(intOf i).toNat) (.inl ⟨rfl,rfl⟩) ?_;rintro _ dd w5 m hI hm;rcases hI with⟨rfl,rfl⟩|⟨rfl,Y,N,P⟩
 .refine aW (aG dc ?_);refine gO underlying238 (s:=6) kf dc dc <|ldA (n:=6) (vs:=vCs B) underlying34 rfl kr M (by show ((vCs A++vCs B).drop 6).take 6=_;rw[List.drop_append_of_le_length oo,oS oo,oV,tL oo]) oo ?_;refine IU λw6 hv z s6=>?_
  refine Fx rfl T hv λw7 r x=>?_;have a:=x.blk (ae z l l.lt) oo;have g:=x.blk (ae z f f.lt) oo;have p:=x.blk (ae z o o.lt) oo;have Z:Below w.heap.size w w7:=aK (X.trans (z.mono oo)) x oo;have s7:=x.size
  refine Wf (G:=jV A B) tq (λk b c H d J => cB rfl (zfY I T b (ae H g g.lt) (ae H a a.lt) (ae H r r.lt) (J _ ⟨rfl,rfl,rfl,Nat.le_refl _,λ_ _=>rfl⟩))) λw9 C=>?_;refine Fx I tq (ae C a a.lt) λaa j t=>aY dc dc ?_
  have:=C.size
  refine⟨.inr ⟨rfl,aK (Z.trans (C.mono oo)) t oo,j,t.blk (ae C p p.lt) oo⟩,by rw[hm];decide⟩
 .refine aW (aB dc (Td ?_));refine tT tq N (Fx rfl tq P λw6 R o6=>?_);exact uO (v:=.agg (vCs (jV A B)).toArray) (λ_=>tT tq R) (h _ (aK Y o6 oo))
def zaE{B:List Int}(g:A.length=6)(i:B.length=6)(e:blk w b 34 (vCs A++vCs B))(h:∀S,Below w.heap.size w S->K (.agg (vCs (jV A B)).toArray) S):call Q 109 #[.slice (some ⟨b,0,none⟩) 2 2] K w:=by refine ao (goK func109) (Wg ?_);exact IU λl f c k=>zh3 g i (ae c e e.lt) λm d=>Fx rfl tq (ae d f f.lt) λn a j=>uO (v:=.agg (vCs (jV A B)).toArray) (λ_=>tT tq a) (h _ (aK (c.trans (d.mono oo)) j oo))
def zaF{B:List Int}(g:A.length=6)(a:B.length=6)(h:∀S,Below w.heap.size w S->K (.bool (leV A B)) S):call Q 89 #[.agg (vCs A).toArray,.agg (vCs B).toArray] K w:=by
 refine ao (goK func89) (Wh ?_);refine yX g λD t C F=>yX a λz l o G=>?_;have b:=ae o t t.lt;refine ax (λx=>blk x w.heap.size 34 (vCs A)/\blk x D.heap.size 34 (vCs B)) ⟨b.drew,l.drew⟩ <|ac (λx i _=>tT g i.1) <|ac (λx i _=>tT a i.2) <|ac (λx i _=>tT a i.2) ?_
 refine qb [.agg (vCs A).toArray,.agg (vCs B).toArray] underlying238 (s:=6) kr kr oo rfl oB dc rfl (by
  intro v y;simp only[oO,oR,or_false]at y;rcases y with rfl|rfl
  .have:=qH List.length (sA g);rw[bE,g]at this;simpa using this
  .have:=qH List.length (sA a);rw[bE,a]at this;simpa using this) λE n j H=>?_
 have n:blk E z.drew.heap.size 34 (vCs A++vCs B):=by
  have e:([Value.agg (vCs A).toArray,.agg (vCs B).toArray].flatMap λv=>v.cells.toList)=vCs A++vCs B:=by
   simp only[jI,List.flatMap_nil,oW,sA g,sA a]
  rwa[e]at n
 have d:=ae j b b.lt;have c:=ae j l l.lt;refine aI ⟨d,c⟩ ?_;refine zaE g a n λI k=>?_;refine aI ⟨ae k d d.lt,ae k c c.lt⟩ ?_;refine ac (v:=.bool (leV A B)) (λx i K f=>UT 3 oo kr kr (Qt tq) (Qt a) λr u=>by
  have:r=leV A B:=by rw[zh2,zjm a]at u;exact Bool.eq_iff_iff.2 u
  rw[this];exact f) ?_
 have p:Below w.heap.size w z.drew:=(C.trans (o.mono oo)).drew;have m:=p.size;have q:=p.trans (j.mono m);exact h _ (q.trans (k.mono q.size))
theorem EV.V_len{e:EV}:e.V.length=6:=rfl
def zfU{e:EV}(a:blk w b 49 (evC e))(h:K (.agg (vCs e.V).toArray) w):ld Q 34 (pA b 2) K w :=
 ldA (n:=6) (vs:=vCs e.V) underlying34 rfl kr a rfl rfl h
end
section
variable  {K:KV}
def Bj{e:EV}(h:∀S,blk S w.heap.size 49 (evC e)->Below w.heap.size w S->S.heap.size=w.heap.size+1->K (pA w.heap.size 0) S):box Q 49 (.agg (evC e).toArray) K w :=
 bU λS a b s=>h S (by simpa[Value.cells]using a) b s
def dN{e:EV}(a:blk w b 49 (evC e))(h:K (.agg (evC e).toArray) w):ld Q 49 (pA b 0) K w :=
 ldA (n:=14) (vs:=evC e) underlying49 rfl kr a rfl rfl h
def Qp{V:List Int}{e:EV}(i:V.length=6)(h:∀S,Below w.heap.size w S->K (.bool (tQ V e)) S):call Q 77 #[.agg (vCs V).toArray,.agg (evC e).toArray] K w:=by
 refine ao (goK func77) (Xe ?_);refine yX i λy l m q=>Bj λz g k r=>?_;have a:=ae k l l.lt;refine dN g (Fi λA c=>?_);have f:=ae c a a.lt;have b:=ae c g g.lt;have d:=(m.trans (k.mono oo)).trans (c.mono oo);cases j:dI e with
 | false =>
  refine js (cA ?_)
  have:=h _ d
  unfold tQ at this;rwa[j,qZ]at this
 | true =>
  refine my (tT i f (fS (lK (v:=iv e.o) b rfl (pC (lK (v:=u6 e.s) b rfl (ziO i λt n=>dD ?_))))))
  have:=h _ (d.trans (n.mono d.size))
  obtain⟨u,x,q,r⟩:=jb j;unfold tQ at this;rw[j,qY]at this;have p:bO e.o=true:=by unfold bO;simp;omega
  show K (Value.bool (bO e.o&&(decide (e.s>0)&&decide (V.getD (e.o-1).toNat 0≥e.s)))) t;rwa[p,qY,show decide (e.s>0)=true from qF oo,qY]
def SC{V:List Int}{e:EV}(i:V.length=6)(E:∀k,k<6->0<=V.getD k 0)(h:∀S,Below w.heap.size w S->K (.bool (fW V e)) S):call Q 78 #[.agg (vCs V).toArray,.agg (evC e).toArray] K w:=by
 refine ao (goK func78) (VO ?_);refine yX i λu c y H=>Bj λD f q I=>?_;have d:=(ae q c c.lt).drew;have f:=f.drew;have t:Below w.heap.size w D.drew:=(y.trans (q.mono oo)).drew;refine ax (λx=>blk x u.heap.size 49 (evC e)) f <|ac (λx b _=>dN b) ?_;refine Fi λJ j=>?_;have l:=ae j d d.lt;have m:=ae j f f.lt;have g:=t.trans (j.mono t.size)
 refine ax (λx=>blk x w.heap.size 34 (vCs V)/\blk x u.heap.size 49 (evC e)) ⟨l,m⟩ ?_;have p:asB (.bool false)≠some true:=by simp[asB]
 cases n:dI e with
 | false =>
  have:=h _ g
  unfold fW at this;rw[n,qZ]at this
  iterate 9 refine Ys p ?_
  refine ac (λx b _=>cA) ?_
  iterate 3 refine Ys p ?_
  refine xGn p ?_;exact ax (λ_=>True) trivial (ac (λx b _=>cA) this)
 | true =>
  obtain⟨F,G,B,C⟩:=jb n;obtain⟨k,A⟩:∃k:Nat,k=(e.o-1).toNat:=⟨_,rfl⟩
  have r:fW V e=(decide (V.getD k 0=e.s-1)&&leV e.V V):=by
   unfold fW leV;rw[n,qY, <-A]
   congr 1
   exact decide_eq_decide.2 oo
  refine qp rfl (λx b _=>fS) <|qp rfl (λx b _=>lK (v:=iv e.o) b.2 rfl) <|qp (x:=iv (k:Nat)) rfl (λx b K a=>nT (by rw[eY oo oo,show (e.o-1)=(k:Nat)by omega];exact a)) <|qp rfl (λx b _=>ixV rfl oo) <|qp (x:=u6 (V.getD k 0)) rfl (λx b _=>lK b.1 (by rw[oK];exact BX i oo)) <|qp rfl (λx b _=>pC) <|qp rfl (λx b _=>lK (v:=u6 e.s) b.2 rfl) <|qp (x:=u6 (e.s-1)) rfl (λx b K a=>nT (by rw[gu,show (e.s-1)%18446744073709551616=e.s-1 by omega];exact a)) <|qp rfl (λx b _=>aU) <|ac (λx b _=>dD) ?_
  by_cases c:V.getD k 0=e.s-1
  .refine qp (Xn c) (λx b _=>Bv) <|qp (Xn c) (λx b _=>zfU b.2) <|qp (Xn c) (λx b _=>tT i b.1) ?_;refine Zp (Xn c) (zaF EV.V_len i λL z=>?_)
   have:=h _ (g.trans (z.mono g.size))
   rw[r,qF c,qY]at this;exact ax (λ_=>True) trivial (ac (λx b _=>bR c) this)
  .have:=h _ g
   rw[r,qE c,qZ]at this
   iterate 3 refine Ys (zf4 c) ?_
   exact xGn (zf4 c) (ax (λ_=>True) trivial (ac (λx b _=>bG c) this))
end
def Nx(l4 t19 t20:oF)(zf:oD):=zT zf 0 4 (l4::zT zf 5 14 (t19::t20::zT zf 21 9 ([])))
def Ny(l4:oF)(zf:oD):=zT zf 0 4 (l4::zT zf 5 25 ([]))
def pP(K:KV):KE:=kZ f27 [1,1,1,1] K
def Bm(K:KV):KE:=aj Q (cd f27 (b1 122)) (pP K) (xx xf (pP K) 0) (rk f27 K)
section
variable {K:KV}{l4 t19 t20:oF}  
def Xb{K:KV}(h:bT .lss 3 H (ci 1) (λb w=>aT b false (λb=>bT .gtr 3 H (ci 6) (λa=>b [H,a]) w) (λk=>k [uu,uu] w) λa=>pick b cT (gd a 1) λc w=>cond c (K (.tuple #[.pointer none,ci 1]) w) (call Q 45 #[] (λd=>fK Q 135 none λe=>fK Q 136 none λf=>fK Q 137 none λg=>fK Q 138 none λh=>bld Q 141 #[(3,d),(4,e),(5,f),(7,g),(8,h)] λi=>box Q 141 i λj=>Bm K (Nx j H (ci 0) (zV (zV (zV zu 0 [H]) 2 [.pointer none,ci 0]) 6 [H,b,b,gd a 0,gd a 1,c,d,e,f,g,h,i,j]))) w)) w):Gives Q 27 #[H] w K:=aw func27 kr (mpK h)
def Ub(Inv:oF->oG->Prop)(μ:oF->oG->Nat)(f:Inv t20 w)(i:∀(a:oF) (e:oD) (w:oG) (m:Nat),Inv a w->m=μ a w ->
  lS a t19 (λb w=>cond b (bj l4 (λb=>aq Q 141 b 0 λb=>bv Q 31 b a λb=>sto Q 4 b cT λ_=>nC a λa w=>(Inv a w)/\((μ a w)<m)) w) (pP K (Ny l4 (zV e 19 [t19,a,b])) w)) w):Bm K (Nx l4 t19 t20 zf) w:=by refine aZ (cd f27 (b1 244)) (zr [(5,1),(20,9)]) kr (vP [20] Inv) (vQ [20] μ) f ?_;intro d j g;have h:=i _ (zM zf (gd d) (zr [(5,1),(20,9)])) j _ g rfl;revert h;generalize (pP K)=qc0;exact mpF
def Uc(h:K (.tuple #[l4,ci 0]) w):pP K (Ny l4 zf) w:=mpK h
end
attribute [irreducible] pP Bm
def rR(K:KV)(D:Nat):KE:=aj Q (cd f300 [1,1,1,1]) (Ce Q Tryz.f300.results.toList K D) xf (Ce Q Tryz.f300.results.toList K D)
def dC(K:KV)(D:Nat):KE:=aj Q (cd f300 (b1 63)) (Ce Q Tryz.f300.results.toList K D) xf (Ce Q Tryz.f300.results.toList K D)
def pE(K:KV)(D:Nat):KE:=aj Q (cd f300 (b1 250)) (dC K D) (xx xf (dC K D) 2) (Ce Q Tryz.f300.results.toList K D)
def fU(K:KV)(D:Nat)(B1:KE):KE:=aj Q (cd f300 (b1 4007)) B1 (xx xf (dC K D) 2) (Ce Q Tryz.f300.results.toList K D)
def lX(K:KV)(D:Nat)(B1:KE):KE:=aj Q (cd f300 (b1 4006)) (fU K D B1) (xx xf (dC K D) 2) (Ce Q Tryz.f300.results.toList K D)
def Jo{K:KV}{t15:oF}(h:ld Q 107 C (λH=>bj H λZ=>aq Q 141 Z 3 λU=>ld Q 133 U λY=>call Q 61 #[Y] λJ=>lN 172 J λa=>pE K D (Z1::N2::O2::C::Q2::R2::T2::U2::V2::X2::N3::O3::P3::Q3::T3::t15::U3::V3::W3::X3::N4::O4::P4::Q4::T4::U4::V4::Y4::Z4::j5::B5::N5::O5::H::Z::U::Y::J::a::(ci 0)::M6::N6::O6::P6::Q6::R6::T6::U6::V6::K7::M7::N7::O7::P7::Q7::[])) w):rR K D (Z1::N2::O2::C::Q2::R2::T2::U2::V2::X2::N3::O3::P3::Q3::T3::t15::U3::V3::W3::X3::N4::O4::P4::Q4::T4::U4::V4::Y4::Z4::j5::B5::N5::O5::H::Z::U::Y::J::V5::Z5::M6::N6::O6::P6::Q6::R6::T6::U6::V6::K7::M7::N7::O7::P7::Q7::[]) w:=mpK h
def FK{K:KV}{t15:oF}(Inv:oF->oG->Prop)(μ:oF->oG->Nat)(g:Inv Z5 w)(j:∀(b:oF) (a:oD) (w:oG) (m:Nat),Inv b w->m=μ b w ->
  lS b Z (λH w=>cond H (lX K D (λd S=>(Inv (gd d 39) S)/\((μ (gd d 39) S)<m)) (Z1::Y::O2::P2::Q2::R2::T2::U2::V2::X2::J::O3::(a 12)::Q3::T3::t15::U3::V3::W3::X3::C::O4::P4::Q4::T4::U4::V4::Y4::Z4::j5::U::N5::O5::P5::Q5::R5::T5::U5::Z::b::H::(a 41)::(a 42)::(a 43)::(a 44)::(a 45)::(a 46)::(a 47)::(a 48)::(a 49)::(a 50)::N7::O7::P7::Q7::[]) w) (dC K D (Z1::Y::O2::P2::Q2::R2::T2::U2::V2::X2::J::O3::(a 12)::Q3::T3::t15::U3::V3::W3::X3::C::O4::P4::Q4::T4::U4::V4::Y4::Z4::j5::U::N5::O5::P5::Q5::R5::T5::U5::Z::b::H::(a 41)::(a 42)::(a 43)::(a 44)::(a 45)::(a 46)::(a 47)::(a 48)::(a 49)::(a 50)::N7::O7::P7::Q7::[]) w)) w):pE K D (Z1::Y::O2::P2::Q2::R2::T2::U2::V2::X2::J::O3::P3::Q3::T3::t15::U3::V3::W3::X3::C::O4::P4::Q4::T4::U4::V4::Y4::Z4::j5::U::N5::O5::P5::Q5::R5::T5::U5::Z::Z5::H::N6::O6::P6::Q6::R6::T6::U6::V6::K7::M7::N7::O7::P7::Q7::[]) w:=by refine aZ (cd f300 (b1 500)) (zr [(12,1),(39,12)]) kr (vP [39] Inv) (vQ [39] μ) g ?_;intro e f i;have h:=j _ (gd e) f _ i rfl;refine Eq.mp (qH (λc=>aj Q c _ _ _ _ f) (by kernel_rfl:(rep [1,1,0] (cd f300 (b1 4006)) (cd f300 (b1 500)))=(cd f300 (b1 500)))) ?_;revert h;delta lX fU;generalize (cd f300 (b1 4006))=xc0;generalize (dC K D)=qc0;exact mpF
def FJ{K:KV}{t15:oF}(h:bv Q 172 U5 Z5 (λU=>ld Q 32 U λH=>call Q 316 #[Z,H] λY=>un Q .not Y λJ w=>cond J (ld Q 133 U2 (λC=>call Q 302 #[C,H,cu 0] λa=>fU K D B1 (Z1::N2::O2::P2::Q2::R2::T2::U2::Z::X2::N3::O3::H::Q3::T3::t15::U3::V3::W3::X3::N4::O4::P4::Q4::T4::U4::V4::Y4::Z4::j5::B5::N5::O5::P5::Q5::R5::T5::U5::V5::Z5::M6::U::H::Z::H::Y::J::C::H::a::M7::N7::O7::P7::Q7::[])) w) (fU K D B1 (Z1::N2::O2::P2::Q2::R2::T2::U2::Z::X2::N3::O3::H::Q3::T3::t15::U3::V3::W3::X3::N4::O4::P4::Q4::T4::U4::V4::Y4::Z4::j5::B5::N5::O5::P5::Q5::R5::T5::U5::V5::Z5::M6::U::H::Z::H::Y::J::C::V6::K7::M7::N7::O7::P7::Q7::[]) w)) w):lX K D B1 (Z1::N2::O2::P2::Q2::R2::T2::U2::Z::X2::N3::O3::P3::Q3::T3::t15::U3::V3::W3::X3::N4::O4::P4::Q4::T4::U4::V4::Y4::Z4::j5::B5::N5::O5::P5::Q5::R5::T5::U5::V5::Z5::M6::U::H::P6::Q6::Y::J::C::V6::K7::M7::N7::O7::P7::Q7::[]) w:=by delta lX;revert h;generalize (fU K D B1)=qc0;generalize (dC K D)=qc1;exact mpF
def FL{K:KV}{t15:oF}(h:ld Q 133 J (λH=>call Q 302 #[H,U,Y] λZ w=>(dM D w)/\(K Z (w.putObj D (Obj.deferred none)))) w):dC K D (Z1::U::Y::P2::Q2::R2::T2::J::V2::X2::N3::O3::P3::Q3::T3::t15::U3::V3::W3::X3::N4::O4::P4::Q4::T4::U4::V4::Y4::Z4::j5::C::N5::O5::P5::Q5::R5::T5::U5::V5::Z5::M6::N6::O6::P6::Q6::R6::T6::U6::V6::K7::M7::H::O7::P7::Z::[]) w:=mpK h
def xq{K:KV}{t15:oF}(h:nC Z5 (λH=>B1 (Z1::J::O2::P2::Q2::R2::T2::U2::V2::X2::C::O3::P3::Q3::T3::t15::U3::V3::W3::X3::N4::O4::P4::Q4::T4::U4::V4::Y4::Z4::j5::Z::N5::O5::P5::Q5::R5::T5::U5::V5::H::Y::N6::O6::P6::Q6::R6::T6::U6::V6::U::H::N7::O7::P7::Q7::[])) w):fU K D B1 (Z1::J::O2::P2::Q2::R2::T2::U2::V2::X2::C::O3::P3::Q3::T3::t15::U3::V3::W3::X3::N4::O4::P4::Q4::T4::U4::V4::Y4::Z4::j5::Z::N5::O5::P5::Q5::R5::T5::U5::V5::Z5::Y::N6::O6::P6::Q6::R6::T6::U6::V6::U::H::N7::O7::P7::Q7::[]) w:=by delta fU;revert h;generalize (dC K D)=qc0;exact mpF
attribute [irreducible] dC pE fU lX
noncomputable def ni :Func:={Tryz.f300 with body:=some (zhh (cd f300 (b1 122)))}
def BT(NB:KE)(XB:Nat->KE)(RB:KE):KE:=aj Q (cd ni []) NB XB RB
def Jp{XB:Nat->KE}{t15:oF}(h:B1 (Z1::C::O2::P2::Q2::R2::T2::U2::V2::X2::H::O3::P3::Q3::T3::t15::U3::V3::W3::X3::N4::O4::P4::H::T4::U4::V4::Y4::Z4::j5::Z::N5::O5::P5::Q5::R5::T5::U5::V5::Z5::Y::N6::O6::P6::Q6::R6::T6::U6::V6::U::J::N7::O7::P7::Q7::[]) w):BT B1 XB U0 (Z1::C::O2::P2::Q2::R2::T2::U2::V2::X2::N3::O3::P3::Q3::T3::t15::U3::V3::W3::X3::N4::O4::P4::H::T4::U4::V4::Y4::Z4::j5::Z::N5::O5::P5::Q5::R5::T5::U5::V5::Z5::Y::N6::O6::P6::Q6::R6::T6::U6::V6::U::J::N7::O7::P7::Q7::[]) w:=mpK h
noncomputable def nj :Func:={Tryz.f300 with body:=some (zhk (cd f300 (b1 122)))}
def BU(NB:KE)(XB:Nat->KE)(RB:KE):KE:=aj Q (cd nj []) NB XB RB
def Jq{XB:Nat->KE}{t15:oF}(h:aL (λS w=>hL S 133 U2 λU=>hL S 107 P2 λY=>hN S Y λJ=>hF S 141 J 4 λC=>hL S 135 C λa=>hld S (lkp Q 135 a H false) λZ=>call Q 302 #[U,H,Z] (λb=>B1 (Z1::N2::O2::P2::Q2::R2::T2::U2::V2::X2::H::O3::P3::Q3::T3::t15::U3::V3::W3::X3::N4::O4::P4::Q4::U::H::Y::J::C::a::H::Z::b::P5::Q5::R5::T5::U5::V5::Z5::M6::N6::O6::P6::Q6::R6::T6::U6::V6::K7::M7::N7::O7::P7::Q7::[])) w) w.drew):BU B1 XB U0 (Z1::N2::O2::P2::Q2::R2::T2::U2::V2::X2::H::O3::P3::Q3::T3::t15::U3::V3::W3::X3::N4::O4::P4::Q4::U::U4::Y::J::C::j5::B5::Z::O5::P5::Q5::R5::T5::U5::V5::Z5::M6::N6::O6::P6::Q6::R6::T6::U6::V6::K7::M7::N7::O7::P7::Q7::[]) w:=mpK h
def Lp{K:KV}(h:box Q 107 Z (λa=>call Q 45 #[] λb=>alc Q 133 λc=>sto Q 133 c b λ_=>ld Q 107 a λd=>bj d λe=>aq Q 141 e 3 λf=>ld Q 133 f λg=>call Q 246 #[g,H] λh=>call Q 315 #[h] λi=>rfS Q (cd f300 (b1 122)) (rR K) (λi D e w=>(i=0)/\(rR K D e w)) (Ce Q Tryz.f300.results.toList K) (Z::U::H::a::uu::uu::(ci 0)::c::h::uu::uu::uu::uu::b::d::e::f::g::H::h::h::i::uu::uu::uu::uu::uu::uu::uu::uu::uu::uu::uu::uu::uu::uu::uu::uu::uu::uu::uu::uu::uu::uu::uu::uu::uu::uu::uu::uu::uu::uu::uu::uu::uu::[])) w):Gives Q 300 #[Z,U,H] w K:=zc2 func300 kr (Eq.mp kr h)
def KG{K:KV}(h:box Q 107 Z (λc=>box Q 49 H λf w=>aL (λS w=>hF S 49 f 0 λa=>hL S 3 a λb=>hF S 49 f 1 λa=>hL S 32 a λd=>hF S 49 f 0 λa=>hL S 3 a λa=>hld (λ_=>True) (bT .sub 3 a (ci 1)) λe=>(call Q 299 #[b,d] (λb=>bw S λS w=>(alc Q 32 (λa=>bw S λS=>alc Q 3 λg=>bw S λS=>sto Q 32 a b λ_=>bw S λ_=>sto Q 3 g e λ_ w=>sL 107 c (λb=>sL 3 g λd=>sN b λb=>sF 141 b 6 λb=>sI 139 b d λb=>sL 3 b λd=>sti (bT .geq 3 d (ci 5)) λd w=>aT d false (λc=>sF 49 f 6 (λa=>sL 2 a λb=>sti (bT .gtr 2 b (ci 140737488355328)) λd=>c [a,b,d]) w) (λk=>k [uu,uu,uu] w) λb=>sti (pick d cT (gd b 2)) λb w=>cond b (K (.tuple #[Value.nilFunc,ci 6]) w) (ld Q 107 c (λb=>ld Q 32 a λd=>aq Q 49 f 4 λe=>ld Q 32 e λe=>call Q 300 #[b,d,e] λb=>bT .neq 28 b (ci 0) λd w=>cond d (K (.tuple #[Value.nilFunc,b]) w) (K (.tuple #[.func (.func 301) #[] #[c,a,f,g],ci 0]) w)) w)) w.drew) w)/\(alc Q 3 (λg=>bw S λS=>alc Q 32 λa=>bw S λS=>sto Q 32 a b λ_=>bw S λ_=>sto Q 3 g e λ_ w=>sL 107 c (λb=>sL 3 g λd=>sN b λb=>sF 141 b 6 λb=>sI 139 b d λb=>sL 3 b λd=>sti (bT .geq 3 d (ci 5)) λd w=>aT d false (λc=>sF 49 f 6 (λa=>sL 2 a λb=>sti (bT .gtr 2 b (ci 140737488355328)) λd=>c [a,b,d]) w) (λk=>k [uu,uu,uu] w) λb=>sti (pick d cT (gd b 2)) λb w=>cond b (K (.tuple #[Value.nilFunc,ci 6]) w) (ld Q 107 c (λb=>ld Q 32 a λd=>aq Q 49 f 4 λe=>ld Q 32 e λe=>call Q 300 #[b,d,e] λb=>bT .neq 28 b (ci 0) λd w=>cond d (K (.tuple #[Value.nilFunc,b]) w) (K (.tuple #[.func (.func 301) #[] #[c,a,f,g],ci 0]) w)) w)) w.drew) w)) w)/\((alc Q 32 (λa=>bw S λS w=>(call Q 299 #[b,d] (λb=>bw S λS=>alc Q 3 λg=>bw S λS=>sto Q 32 a b λ_=>bw S λ_=>sto Q 3 g e λ_ w=>sL 107 c (λb=>sL 3 g λd=>sN b λb=>sF 141 b 6 λb=>sI 139 b d λb=>sL 3 b λd=>sti (bT .geq 3 d (ci 5)) λd w=>aT d false (λc=>sF 49 f 6 (λa=>sL 2 a λb=>sti (bT .gtr 2 b (ci 140737488355328)) λd=>c [a,b,d]) w) (λk=>k [uu,uu,uu] w) λb=>sti (pick d cT (gd b 2)) λb w=>cond b (K (.tuple #[Value.nilFunc,ci 6]) w) (ld Q 107 c (λb=>ld Q 32 a λd=>aq Q 49 f 4 λe=>ld Q 32 e λe=>call Q 300 #[b,d,e] λb=>bT .neq 28 b (ci 0) λd w=>cond d (K (.tuple #[Value.nilFunc,b]) w) (K (.tuple #[.func (.func 301) #[] #[c,a,f,g],ci 0]) w)) w)) w.drew) w)/\(alc Q 3 (λg=>bw S λS=>call Q 299 #[b,d] λb=>bw S λS=>sto Q 32 a b λ_=>bw S λ_=>sto Q 3 g e λ_ w=>sL 107 c (λb=>sL 3 g λd=>sN b λb=>sF 141 b 6 λb=>sI 139 b d λb=>sL 3 b λd=>sti (bT .geq 3 d (ci 5)) λd w=>aT d false (λc=>sF 49 f 6 (λa=>sL 2 a λb=>sti (bT .gtr 2 b (ci 140737488355328)) λd=>c [a,b,d]) w) (λk=>k [uu,uu,uu] w) λb=>sti (pick d cT (gd b 2)) λb w=>cond b (K (.tuple #[Value.nilFunc,ci 6]) w) (ld Q 107 c (λb=>ld Q 32 a λd=>aq Q 49 f 4 λe=>ld Q 32 e λe=>call Q 300 #[b,d,e] λb=>bT .neq 28 b (ci 0) λd w=>cond d (K (.tuple #[Value.nilFunc,b]) w) (K (.tuple #[.func (.func 301) #[] #[c,a,f,g],ci 0]) w)) w)) w.drew) w)) w)/\(alc Q 3 (λg=>bw S λS w=>(call Q 299 #[b,d] (λb=>bw S λS=>alc Q 32 λa=>bw S λS=>sto Q 32 a b λ_=>bw S λ_=>sto Q 3 g e λ_ w=>sL 107 c (λb=>sL 3 g λd=>sN b λb=>sF 141 b 6 λb=>sI 139 b d λb=>sL 3 b λd=>sti (bT .geq 3 d (ci 5)) λd w=>aT d false (λc=>sF 49 f 6 (λa=>sL 2 a λb=>sti (bT .gtr 2 b (ci 140737488355328)) λd=>c [a,b,d]) w) (λk=>k [uu,uu,uu] w) λb=>sti (pick d cT (gd b 2)) λb w=>cond b (K (.tuple #[Value.nilFunc,ci 6]) w) (ld Q 107 c (λb=>ld Q 32 a λd=>aq Q 49 f 4 λe=>ld Q 32 e λe=>call Q 300 #[b,d,e] λb=>bT .neq 28 b (ci 0) λd w=>cond d (K (.tuple #[Value.nilFunc,b]) w) (K (.tuple #[.func (.func 301) #[] #[c,a,f,g],ci 0]) w)) w)) w.drew) w)/\(alc Q 32 (λa=>bw S λS=>call Q 299 #[b,d] λb=>bw S λS=>sto Q 32 a b λ_=>bw S λ_=>sto Q 3 g e λ_ w=>sL 107 c (λb=>sL 3 g λd=>sN b λb=>sF 141 b 6 λb=>sI 139 b d λb=>sL 3 b λd=>sti (bT .geq 3 d (ci 5)) λd w=>aT d false (λc=>sF 49 f 6 (λa=>sL 2 a λb=>sti (bT .gtr 2 b (ci 140737488355328)) λd=>c [a,b,d]) w) (λk=>k [uu,uu,uu] w) λb=>sti (pick d cT (gd b 2)) λb w=>cond b (K (.tuple #[Value.nilFunc,ci 6]) w) (ld Q 107 c (λb=>ld Q 32 a λd=>aq Q 49 f 4 λe=>ld Q 32 e λe=>call Q 300 #[b,d,e] λb=>bT .neq 28 b (ci 0) λd w=>cond d (K (.tuple #[Value.nilFunc,b]) w) (K (.tuple #[.func (.func 301) #[] #[c,a,f,g],ci 0]) w)) w)) w.drew) w)) w))) w.drew) w):Gives Q 292 #[Z,H] w K:=aw func292 kr (mpK h)
def yL(t0 t1 t2 t3:oF)(zf:oD):=t0::t1::t2::t3::zT zf 4 38 ([])
def lW(K:KV):KE:=aj Q (cd f301 [1,1,1]) (rk f301 K) xf (rk f301 K)
section
variable {K:KV}{t0 t1 t2 t3:oF}  
def Iw{K:KV}(h:aL (λS w=>hL S 107 H λb=>hN S b λc=>hF S 141 c 3 λd=>hL S 133 d λe=>hL S 32 Z λf=>hF S 49 U 4 λg=>hL S 32 g λh=>call Q 302 #[e,f,h] (λi w=>aL (λS w=>hL S 107 H λj=>hN S j λk=>hF S 141 k 4 λl=>hL S 135 l λm=>hL S 32 Z λn=>hF S 49 U 4 λo=>hL S 32 o λp=>fJ Q 135 m n p (λ_ w=>sL 107 H (λr=>sL 3 Y λs=>sN r λa=>sF 141 a 6 λt=>sI 139 t s λu=>sL 3 u λv=>sti (bT .add 3 v (ci 1)) λw=>sN r λx=>sF 141 x 6 λy=>sI 139 y s λz=>sto Q 3 z w λ_=>lW K (yL H Z U Y (zV zu 5 [b,c,d,e,f,g,h,i,j,k,l,m,n,o,p,r,s,a,t,u,v,w,x,y,z]))) w.drew) w) w.drew) w) w.drew):Gives Q 301 #[H,Z,U,Y] w K:=by refine aw func301 kr <|Eq.mp (qH (λc=>aj Q c _ _ _ _ w) (by kernel_rfl:(rep [1,1,1] (cd f301 [1,1,1]) (cd f301 []))=(cd f301 []))) ?_;revert h;delta lW;generalize (cd f301 [1,1,1])=xc0;exact mpF
def FI(h:bld Q 56 #[] (λa=>alc Q 56 λc=>sto Q 56 c a λ_=>ld Q 3 t3 λa=>aq Q 49 t2 6 λb=>ld Q 2 b λb=>aq Q 56 c 0 λd=>bv Q 53 d a λa=>sto Q 2 a b λ_ w=>aL (λS w=>hL S 107 t0 λa=>hN S a λa=>hF S 141 a 5 λa=>hL S 136 a λb=>hL S 32 t1 λa=>hL S 56 c λc=>fJ Q 136 b a c (λ_=>K (.tuple #[])) w) w.drew) w):lW K (yL t0 t1 t2 t3 zf) w:=mpK h
end
attribute [irreducible] lW
def qe(l2 e3 r6:oF)(zf:oD):=zf 0::zf 1::l2::e3::zf 4::zf 5::r6::zT zf 7 32 ([])
def iz(K:KV):KE:=kZ f293 [1,1,1,1] K
def mB(K:KV):KE:=aj Q (cd f293 (b1 61)) (iz K) xf (rk f293 K)
section
variable {K:KV}{l2 e3 r6:oF}  
def Jn{K:KV}(h:box Q 107 Z (λb=>box Q 49 H λc w=>aL (λS w=>hL S 107 b λd=>hN S d λe=>hF S 141 e 5 λf=>hL S 136 f λg=>hF S 49 c 4 λh=>hL S 32 h λi=>hld S (lkp Q 136 g i true) λj=>hld S (ext Q j 0) λk=>hld S (ext Q j 1) λl=>alc Q 56 (λm=>bw S λS=>sto Q 56 m k λ_=>bw S λ_=>un Q .not l λn w=>cond n (K (.tuple #[Value.nilFunc,ci 9]) w) (sF 49 c 0 (λo=>sL 3 o λp=>sti (bT .sub 3 p (ci 1)) λa=>sF 56 m 0 λr=>sI 53 r a λs=>sL 2 s λt=>sF 49 c 6 λu=>sL 2 u λv=>sti (bF .add 2 t v) λw=>sF 56 m 0 λx=>sI 53 x a λy=>sto Q 2 y w λ_=>mB K (qe b c m (zV (zV (zV zu 0 [Z,H]) 4 [Value.nilFunc,ci 0]) 7 [l,j,d,e,f,g,h,i,j,k,l,l,n,o,p,a,r,s,t,u,v,w,x,y]))) w.drew)) w) w.drew) w):Gives Q 293 #[Z,H] w K:=by refine aw func293 kr <|Eq.mp (qH (λc=>aj Q c _ _ _ _ w) (by kernel_rfl:(rep (b1 61) (cd f293 (b1 61)) (cd f293 []))=(cd f293 []))) ?_;revert h;delta mB iz;generalize (cd f293 (b1 61))=xc0;exact mpF
def GE(h:aq Q 49 e3 0 (λa=>ld Q 3 a λb=>bT .sub 3 b (ci 1) λc=>aq Q 56 r6 0 λd=>bv Q 53 d c λe=>ld Q 2 e λf=>bT .gtr 2 f (ci 140737488355328) λg w=>cond g (K (.tuple #[Value.nilFunc,ci 6]) w) (iz K (qe l2 e3 r6 (zV zf 31 [a,b,c,d,e,f,g])) w)) w):mB K (qe l2 e3 r6 zf) w:=by delta mB;revert h;generalize (iz K)=qc0;exact mpF
def GF(h:K (.tuple #[.func (.func 303) #[] #[r6,l2,e3],ci 0]) w):iz K (qe l2 e3 r6 zf) w:=mpK h
end
attribute [irreducible] iz mB
def GC{K:KV}(h:aL (λS w=>hL S 107 H λa=>hN S a λa=>hF S 141 a 5 λa=>hL S 136 a λa=>hF S 49 Z 4 λb=>hL S 32 b λb=>hL S 56 U λc=>fJ Q 136 a b c (λ_=>K (.tuple #[])) w) w.drew):Gives Q 303 #[U,H,Z] w K:=aw func303 kr (mpK h)
def AE(JV l3 xp t19 t20 t21:oF)(zf:oD):=zf 0::zf 1::JV::l3::zT zf 4 4 (xp::zT zf 9 10 (t19::t20::t21::zT zf 22 22 ([])))
def AG(l3 xp:oF)(zf:oD):=zT zf 0 3 (l3::zT zf 4 4 (xp::zT zf 9 35 ([])))
def gQ(K:KV):KE:=kZ f304 [1,1,1] K
def mW(K:KV):KE:=aj Q (cd f304 (b1 58)) (gQ K) (xx xf (gQ K) 0) (rk f304 K)
section
variable {K:KV}{JV l3 xp t19 t20 t21:oF}  
def KA{K:KV}(h:box Q 107 Z (λa=>fK Q 136 none λb=>alc Q 136 λc=>sto Q 136 c b λ_=>ld Q 107 a λd=>bj d λe=>aq Q 141 e 3 λf=>ld Q 133 f λg=>call Q 246 #[g,H] λh=>lN 172 h λi=>mW K (AE U a c h i (ci 0) (zV (zV (zV zu 0 [Z,H]) 6 [Value.nilFunc,ci 0]) 13 [b,d,e,f,g,H]))) w):Gives Q 304 #[Z,H,U] w K:=aw func304 kr (mpK h)
def Il(Inv:oF->oG->Prop)(μ:oF->oG->Nat)(j:Inv t21 w)(l:∀(a:oF) (i:oD) (w:oG) (m:Nat),Inv a w->m=μ a w ->
  lS a t20 (λc w=>cond c (bv Q 172 t19 a (λb=>ld Q 32 b λc=>ld Q 107 l3 λb=>bj b λb=>aq Q 141 b 5 λb=>ld Q 136 b λb=>lkp Q 136 b c false λb=>bS Q JV #[b] λb=>ext Q b 0 λd=>ext Q b 1 λe=>alc Q 56 λb=>sto Q 56 b d λ_=>bT .neq 28 e (ci 0) λd w=>cond d (K (.tuple #[Value.nilFunc,e]) w) (ld Q 136 xp (λe=>ld Q 56 b λb=>fJ Q 136 e c b λ_=>nC a λa w=>(Inv a w)/\((μ a w)<m)) w)) w) (gQ K (AG l3 xp (zV (zV i 2 [JV]) 19 [t19,t20,a,c])) w)) w):mW K (AE JV l3 xp t19 t20 t21 zf) w:=by refine aZ (cd f304 (b1 116)) (zr [(6,2),(10,3),(21,22)]) kr (vP [21] Inv) (vQ [21] μ) j ?_;intro g n k;have h:=l _ (zM zf (gd g) (zr [(6,2),(10,3),(21,22)])) n _ k rfl;revert h;generalize (gQ K)=qc0;exact mpF
def Im(h:K (.tuple #[.func (.func 317) #[] #[xp,l3],ci 0]) w):gQ K (AG l3 xp zf) w:=mpK h
end
attribute [irreducible] gQ mW
def yJ(t1 t5:oF)(zf:oD):=zf 0::t1::zT zf 2 3 (t5::zT zf 6 11 ([]))
def pD(K:KV):KE:=aj Q (cd f317 [1,0]) (rk f317 K) (xx xf (rk f317 K) 0) (rk f317 K)
section
variable {K:KV}{t1 t5:oF}  
def Ik{K:KV}(h:ld Q 136 H (λa=>rng Q 136 a λb=>pD K (yJ Z b (zV (zV zu 0 [H]) 4 [a]))) w):Gives Q 317 #[H,Z] w K:=aw func317 kr (mpK h)
def FH(Inv:oG->Prop)(μ:oG->Nat)(e:Inv w)(g:∀(j:oD) (w:oG) (m:Nat),Inv w->m=μ w ->
  nxt Q t5 false 0 (λa=>ext Q a 0 λa w=>cond a (ent Q t5 (λa=>ext Q a 0 λc=>ext Q a 1 λa=>alc Q 56 λb=>sto Q 56 b a λ_ w=>aL (λS w=>hL S 107 t1 λa=>hN S a λa=>hF S 141 a 5 λa=>hL S 136 a λa=>hL S 56 b λb=>fJ Q 136 a c b (λ_ w=>(Inv w)/\((μ w)<m)) w) w.drew) w) (K (.tuple #[]) w)) w):pD K (yJ t1 t5 zf) w:=by refine aZ (cd f317 [1,0,0]) (zr [(2,2),(6,11)]) kr (λd a=>Inv a) (λd a=>μ a) e ?_;intro c i f;have h:=g (zM zf (gd c) (zr [(2,2),(6,11)])) i _ f rfl;exact mpK h
end
attribute [irreducible] pD
def AL(l2 e3 q6 do7 f8:oF)(zf:oD):=zf 0::zf 1::l2::e3::zf 4::zf 5::q6::do7::f8::zT zf 9 31 ([])
def nk(K:KV):KE:=aj Q (cd f294 (b1 63)) (rk f294 K) xf (rk f294 K)
section
variable {K:KV}{l2 e3 q6 do7 f8:oF}  
def KI{K:KV}(h:box Q 107 Z (λc=>box Q 49 H λd=>aq Q 49 d 0 λe=>ld Q 3 e λf=>aq Q 49 d 7 λg=>ld Q 32 g λh=>bld Q 175 #[(0,f),(1,h)] λi=>alc Q 175 λj=>sto Q 175 j i λ_ w=>sL 107 c (λk=>sN k λl=>sF 141 l 8 λm=>sL 138 m λn=>sL 175 j λo=>sti (lkp Q 138 n o false) λp w=>cond p (K (.tuple #[Value.nilFunc,ci 14]) w) (aL (λS w=>hL S 107 c λr=>hN S r λs=>hF S 141 s 3 λa=>hL S 133 a λt=>hF S 49 d 4 λu=>hL S 32 u λv=>call Q 159 #[t,v] (λx=>aL λS w=>hld S (un Q .not x) λy=>cond y (K (.tuple #[Value.nilFunc,ci 9]) w) (ld Q 107 c (λw=>aq Q 49 d 4 λz=>ld Q 32 z λb=>call Q 304 #[w,b,.func (.func 305) #[] #[d]] λA=>ext Q A 0 λB=>ext Q A 1 λC=>alc Q 195 λD=>sto Q 195 D B λ_=>nk K (AL c d j D C (zV (zV (zV zu 0 [Z,H]) 4 [Value.nilFunc,ci 0]) 9 [e,f,g,h,i,k,l,m,n,o,p,r,s,a,t,u,v,x,y,A,w,z,b,.func (.func 305) #[] #[d],A,B,C]))) w)) w) w.drew)) w.drew) w):Gives Q 294 #[Z,H] w K:=by refine aw func294 kr <|Eq.mp (qH (λc=>aj Q c _ _ _ _ w) (by kernel_rfl:(rep (b1 63) (cd f294 (b1 63)) (cd f294 []))=(cd f294 []))) ?_;revert h;delta nk;generalize (cd f294 (b1 63))=xc0;exact mpF
def yM(h:bT .neq 28 f8 (ci 0) (λa w=>cond a (K (.tuple #[Value.nilFunc,f8]) w) (K (.tuple #[.func (.func 307) #[] #[do7,l2,q6,e3],ci 0]) w)) w):nk K (AL l2 e3 q6 do7 f8 zf) w:=mpK h
end
attribute [irreducible] nk
def Iz{K:KV}(h:box Q 56 Z (λa=>alc Q 56 λb=>ld Q 56 a λa=>aq Q 49 H 0 λc=>ld Q 3 c λc=>aq Q 49 H 6 λd=>ld Q 2 d λd=>call Q 306 #[a,c,d] λa=>ext Q a 0 λc=>ext Q a 1 λa=>sto Q 56 b c λ_=>bA Q [(some 56,b),(none,a)] K) w):Gives Q 305 #[Z,H] w K:=aw func305 kr (mpK h)
def IA{K:KV}(h:ld Q 195 Y (λa=>bS Q a #[] λ_ w=>aL (λS w=>hL S 107 Z λa=>hN S a λa=>hF S 141 a 8 λa=>hL S 138 a λa=>hL S 175 U λb=>fJ Q 138 a b cT (λ_ w=>aL (λS w=>hL S 107 Z λa=>hN S a λa=>hF S 141 a 7 λa=>hL S 137 a λb=>hL S 175 U λc=>hF S 49 H 0 λa=>hL S 3 a λd=>hF S 49 H 7 λa=>hL S 32 a λe=>hF S 49 H 4 λa=>hL S 32 a λf=>hF S 49 H 6 λa=>hL S 2 a λa=>hld S (bld Q 61 #[(0,d),(1,e),(2,f),(3,a)]) λa=>fJ Q 137 b c a (λ_=>K (.tuple #[])) w) w.drew) w) w.drew) w):Gives Q 307 #[Y,Z,U,H] w K:=aw func307 kr (mpK h)
def ve(l2 e3 q6 of7 g8 is9:oF)(zf:oD):=zf 0::zf 1::l2::e3::zf 4::zf 5::q6::of7::g8::is9::zT zf 10 46 ([])
def l9(K:KV):KE:=aj Q (cd f295 [1,1,1,1]) (rk f295 K) xf (rk f295 K)
section
variable {K:KV}{l2 e3 q6 of7 g8 is9:oF}  
def KC{K:KV}(h:box Q 107 Z (λc=>box Q 49 H λd w=>aL (λS w=>hF S 49 d 0 λe=>hL S 3 e λf=>hF S 49 d 7 λg=>hL S 32 g λh=>hld S (bld Q 175 #[(0,f),(1,h)]) λi=>hF S 49 d 0 λj=>hL S 3 j λk=>hF S 49 d 8 λl=>hL S 32 l λm=>hld S (bld Q 175 #[(0,k),(1,m)]) λn=>(alc Q 175 (λo=>bw S λS=>alc Q 175 λp=>bw S λS=>sto Q 175 o i λ_=>bw S λ_=>sto Q 175 p n λ_ w=>sL 107 c (λa=>sN a λr=>sF 141 r 8 λs=>sL 138 s λt=>sL 175 o λu=>sti (lkp Q 138 t u false) λv w=>cond v (K (.tuple #[Value.nilFunc,ci 14]) w) (aL (λS w=>hL S 107 c λx=>hN S x λy=>hF S 141 y 7 λb=>hL S 137 b λz=>hL S 175 p λA=>hld S (lkp Q 137 z A true) λB=>hld S (ext Q B 0) λC=>hld S (ext Q B 1) λD=>alc Q 61 (λw=>bw S λS=>sto Q 61 w C λ_=>bw S λ_=>l9 K (ve c d o p w D (zV (zV (zV zu 0 [Z,H]) 4 [Value.nilFunc,ci 0]) 12 [e,f,g,h,i,j,k,l,m,n,a,r,s,t,u,v,B,x,y,b,z,A,B,C,D]))) w) w.drew)) w.drew) w)/\(alc Q 175 (λo=>bw S λS=>alc Q 175 λp=>bw S λS=>sto Q 175 p i λ_=>bw S λ_=>sto Q 175 o n λ_ w=>sL 107 c (λa=>sN a λr=>sF 141 r 8 λs=>sL 138 s λt=>sL 175 p λu=>sti (lkp Q 138 t u false) λv w=>cond v (K (.tuple #[Value.nilFunc,ci 14]) w) (aL (λS w=>hL S 107 c λx=>hN S x λy=>hF S 141 y 7 λb=>hL S 137 b λz=>hL S 175 o λA=>hld S (lkp Q 137 z A true) λB=>hld S (ext Q B 0) λC=>hld S (ext Q B 1) λD=>alc Q 61 (λw=>bw S λS=>sto Q 61 w C λ_=>bw S λ_=>l9 K (ve c d p o w D (zV (zV (zV zu 0 [Z,H]) 4 [Value.nilFunc,ci 0]) 12 [e,f,g,h,i,j,k,l,m,n,a,r,s,t,u,v,B,x,y,b,z,A,B,C,D]))) w) w.drew)) w.drew) w)) w.drew) w):Gives Q 295 #[Z,H] w K:=by refine aw func295 kr <|Eq.mp (qH (λc=>aj Q c _ _ _ _ w) (by kernel_rfl:(rep [1,1,1,1] (cd f295 [1,1,1,1]) (cd f295 []))=(cd f295 []))) ?_;revert h;delta l9;generalize (cd f295 [1,1,1,1])=xc0;exact mpF
def Iu(h:un Q .not is9 (λa w=>aT a false (λe=>aq Q 61 g8 4 (λa=>ld Q 32 a λb=>bT .neq 32 b (cu 0) λc=>e [a,b,c]) w) (λk=>k [uu,uu,uu] w) λd=>pick a cT (gd d 2) λa w=>cond a (K (.tuple #[Value.nilFunc,ci 12]) w) (ld Q 107 l2 (λf=>aq Q 61 g8 2 λg=>ld Q 32 g λi=>call Q 304 #[f,i,.func (.func 308) #[] #[e3,g8]] λb=>ext Q b 0 λd=>ext Q b 1 λc=>alc Q 195 λa=>sto Q 195 a d λ_=>bT .neq 28 c (ci 0) λj w=>cond j (K (.tuple #[Value.nilFunc,c]) w) (K (.tuple #[.func (.func 310) #[] #[a,l2,q6,e3,g8,of7],ci 0]) w)) w)) w):l9 K (ve l2 e3 q6 of7 g8 is9 zf) w:=mpK h
end
attribute [irreducible] l9
def Ir{K:KV}(h:box Q 56 U (λa=>alc Q 56 λb=>ld Q 56 a λa=>aq Q 49 H 0 λc=>ld Q 3 c λc=>aq Q 61 Z 3 λd=>ld Q 2 d λd=>call Q 309 #[a,c,d] λa=>ext Q a 0 λc=>ext Q a 1 λa=>sto Q 56 b c λ_=>bA Q [(some 56,b),(none,a)] K) w):Gives Q 308 #[U,H,Z] w K:=aw func308 kr (mpK h)
def Is{K:KV}(h:ld Q 195 C (λa=>bS Q a #[] λ_ w=>aL (λS w=>hL S 107 H λa=>hN S a λa=>hF S 141 a 8 λa=>hL S 138 a λa=>hL S 175 U λb=>fJ Q 138 a b cT (λ_=>aq Q 49 Y 7 λa=>ld Q 32 a λa=>aq Q 61 Z 4 λb=>sto Q 32 b a λ_ w=>aL (λS w=>hL S 107 H λa=>hN S a λa=>hF S 141 a 7 λa=>hL S 137 a λa=>hL S 175 J λb=>hL S 61 Z λc=>fJ Q 137 a b c (λ_=>K (.tuple #[])) w) w.drew) w) w.drew) w):Gives Q 310 #[C,H,U,Y,Z,J] w K:=aw func310 kr (mpK h)
def AJ(l2 e3 r6 f8:oF)(zf:oD):=zf 0::zf 1::l2::e3::zf 4::zf 5::r6::zf 7::f8::zT zf 9 38 ([])
def nh(K:KV):KE:=aj Q (cd f296 [1,1,1,1]) (rk f296 K) xf (rk f296 K)
section
variable {K:KV}{l2 e3 r6 f8:oF}  
def KH{K:KV}(h:box Q 107 Z (λc=>box Q 49 H λd w=>aL (λS w=>hL S 107 c λe=>hN S e λf=>hF S 141 f 5 λg=>hL S 136 g λh=>hF S 49 d 4 λi=>hL S 32 i λj=>hld S (lkp Q 136 h j true) λk=>hld S (ext Q k 0) λl=>hld S (ext Q k 1) λm=>alc Q 56 (λn=>bw S λS=>sto Q 56 n l λ_=>bw S λ_=>un Q .not m λo w=>cond o (K (.tuple #[Value.nilFunc,ci 9]) w) (sL 107 c (λp=>sF 49 d 5 λr=>sL 3 r λs=>sti (bT .sub 3 s (ci 1)) λt=>sN p λu=>sF 141 u 0 λv=>sI 31 v t λx=>sL 4 x λy=>sti (un Q .not y) λa w=>cond a (K (.tuple #[Value.nilFunc,ci 10]) w) (ld Q 56 n (λw=>aq Q 49 d 0 λz=>ld Q 3 z λA=>aq Q 49 d 5 λB=>ld Q 3 B λC=>aq Q 49 d 6 λD=>ld Q 2 D λb=>call Q 311 #[w,A,C,b] λE=>ext Q E 0 λF=>ext Q E 1 λG=>sto Q 56 n F λ_=>nh K (AJ c d n G (zV (zV (zV (zV zu 0 [Z,H]) 4 [Value.nilFunc,ci 0]) 7 [m]) 9 [k,e,f,g,h,i,j,k,l,m,o,m,o,a,p,r,s,t,u,v,x,y,a,E,w,z,A,B,C,D,b,E,F,G]))) w)) w.drew)) w) w.drew) w):Gives Q 296 #[Z,H] w K:=by refine aw func296 kr <|Eq.mp (qH (λc=>aj Q c _ _ _ _ w) (by kernel_rfl:(rep [1,1,1,1] (cd f296 [1,1,1,1]) (cd f296 []))=(cd f296 []))) ?_;revert h;delta nh;generalize (cd f296 [1,1,1,1])=xc0;exact mpF
def Iy(h:bT .neq 28 f8 (ci 0) (λa w=>cond a (K (.tuple #[Value.nilFunc,f8]) w) (K (.tuple #[.func (.func 312) #[] #[r6,l2,e3],ci 0]) w)) w):nh K (AJ l2 e3 r6 f8 zf) w:=mpK h
end
attribute [irreducible] nh
def Ix{K:KV}(h:aL (λS w=>hL S 107 H λa=>hN S a λa=>hF S 141 a 5 λa=>hL S 136 a λa=>hF S 49 Z 4 λb=>hL S 32 b λb=>hL S 56 U λc=>fJ Q 136 a b c (λ_=>K (.tuple #[])) w) w.drew):Gives Q 312 #[U,H,Z] w K:=aw func312 kr (mpK h)
def KF{K:KV}(h:box Q 107 Z (λa=>box Q 49 H λb=>K (.tuple #[.func (.func 313) #[] #[a,b],ci 0])) w):Gives Q 297 #[Z,H] w K:=aw func297 kr (mpK h)
def Iv{K:KV}(h:sL 107 Z (λa=>sF 49 H 5 λb=>sL 3 b λb=>sti (bT .sub 3 b (ci 1)) λb=>sN a λa=>sF 141 a 0 λa=>sI 31 a b λa=>sto Q 4 a cT λ_=>K (.tuple #[])) w.drew):Gives Q 313 #[Z,H] w K:=aw func313 kr (mpK h)
def Jm{K:KV}(h:box Q 107 Z (λa=>box Q 49 H λb=>K (.tuple #[.func (.func 314) #[] #[a,b],ci 0])) w):Gives Q 298 #[Z,H] w K:=aw func298 kr (mpK h)
def GB{K:KV}(h:sL 107 Z (λa=>sF 49 H 0 λb=>sL 3 b λb=>sti (bT .sub 3 b (ci 1)) λb=>sN a λa=>sF 141 a 1 λa=>sI 31 a b λa=>sto Q 4 a cT λ_=>K (.tuple #[])) w.drew):Gives Q 314 #[Z,H] w K:=aw func314 kr (mpK h)
def AH(l0 e3 t20:oF)(zf:oD):=l0::zf 1::zf 2::e3::zT zf 4 16 (t20::zT zf 21 34 ([]))
def mZ(l0 e3 t28:oF)(zf:oD):=l0::zf 1::zf 2::e3::zT zf 4 24 (t28::zT zf 29 26 ([]))
def AI(l0 e3:oF)(zf:oD):=l0::zf 1::zf 2::e3::zT zf 4 51 ([])
def dG(K:KV):KE:=kZ f76 [1,1] K
def mX(K:KV):KE:=aj Q (cd f76 (b1 1663)) (dG K) (xx xf (dG K) 0) (rk f76 K)
def gR(K:KV):KE:=kY f76 (b1 6655) (dG K) (xx xf (dG K) 0) K
def mY(K:KV):KE:=aj Q (cd f76 (b1 13309)) (gR K) (xx xf (dG K) 0) (rk f76 K)
section
variable {K:KV}{l0 e3 t20 t28:oF}  
def KB{K:KV}(h:box Q 49 Z (λb=>bT .eql 107 H (.pointer none) λc w=>cond c (K (.tuple #[Value.nilFunc,ci 2]) w) (ld Q 49 b (λd=>call Q 58 #[d] λe=>un Q .not e λf w=>cond f (K (.tuple #[Value.nilFunc,ci 1]) w) (aL (λS w=>hN S H λg=>hF S 141 g 2 λh=>hL S 34 h λi=>hL S 49 b λj=>call Q 77 #[i,j] (λk=>aL λ_ w=>cond k (K (.tuple #[Value.nilFunc,ci 14]) w) (aL (λS w=>hN S H λa=>hF S 141 a 2 λl=>hL S 34 l λm=>hL S 49 b λn=>call Q 78 #[m,n] (λo=>aL λS w=>hld S (un Q .not o) λp=>mX K (AH H b p (zV (zV (zV zu 1 [Z]) 4 [Value.nilFunc,ci 0,c,H,c,f,d,e,f,k,H,g,h,i,j,k]) 21 [H,a,l,m,n,o,p])) w) w) w.drew)) w) w.drew)) w)) w):Gives Q 76 #[H,Z] w K:=by refine aw func76 kr <|Eq.mp (qH (λc=>aj Q c _ _ _ _ w) (by kernel_rfl:(rep (b1 1663) (cd f76 (b1 1663)) (cd f76 []))=(cd f76 []))) ?_;revert h;delta mX dG;generalize (cd f76 (b1 1663))=xc0;exact mpF
def Io(h:cond t20 (K (.tuple #[Value.nilFunc,ci 13]) w) (sF 49 e3 0 (λb=>sL 3 b λa=>sti (bT .sub 3 a (ci 1)) λc=>sN l0 λd=>sF 141 d 0 λe=>sI 31 e c λf=>sL 4 f λg=>sti (un Q .not g) λh=>mY K (mZ l0 e3 h (zV (zV zf 20 [t20]) 29 [l0,b,a,c,d,e,f,g,h]))) w.drew)):mX K (AH l0 e3 t20 zf) w:=by delta mX;refine Eq.mp (qH (λc=>aj Q c _ _ _ _ w) (by kernel_rfl:(rep [1,0,1] (cd f76 (b1 13309)) (cd f76 (b1 1663)))=(cd f76 (b1 1663)))) ?_;revert h;delta mY gR;generalize (cd f76 (b1 13309))=xc0;generalize (dG K)=qc0;exact mpF
def Ip(h:cond t28 (gR K (mZ l0 e3 t28 zf) w) (sF 49 e3 0 (λa=>sL 3 a λd=>sti (bT .sub 3 d (ci 1)) λe=>sN l0 λf=>sF 141 f 1 λg=>sI 31 g e λb=>sL 4 b λc=>gR K (mZ l0 e3 c (zV zf 38 [l0,a,d,e,f,g,b,c]))) w.drew)):mY K (mZ l0 e3 t28 zf) w:=by delta mY;revert h;generalize (gR K)=qc0;generalize (dG K)=qc1;exact mpF
def yK(h:cond t28 (K (.tuple #[Value.nilFunc,ci 10]) w) (dG K (AI l0 e3 (zV zf 28 [t28])) w)):gR K (mZ l0 e3 t28 zf) w:=by delta gR;revert h;generalize (dG K)=qc0;exact mpF
def Iq(h:aL (λS w=>hF S 49 e3 3 λa=>hL S 5 a λb=>hI S 215 (pA 1 0) b λc=>hL S 214 c λd=>hL S 49 e3 λe=>bS Q d #[l0,e] (λa=>aL λS w=>hld S (ext Q a 0) λf=>hld S (ext Q a 1) λa=>K (.tuple #[f,a]) w) w) w.drew):dG K (AI l0 e3 zf) w:=mpK h
end
attribute [irreducible] dG mX gR mY
def Kv{K:KV}(h:box Q 49 Z (λa=>ld Q 49 a λb=>call Q 76 #[H,b] λb=>ext Q b 0 λc=>ext Q b 1 λb=>bT .neq 28 b (ci 0) λd w=>cond d (K b w) (bS Q c #[] (λ_ w=>sF 49 a 0 (λa=>sL 3 a λa=>sti (bT .sub 3 a (ci 1)) λb=>sN H λa=>sF 141 a 2 λa=>sI 34 a b λa=>sL 32 a λa=>sti (bT .add 32 a (cu 1)) λa=>sN H λc=>sF 141 c 2 λc=>sI 34 c b λb=>sto Q 32 b a λ_=>K (ci 0)) w.drew) w)) w):Gives Q 59 #[H,Z] w K:=aw func59 kr (mpK h)
def grC(x:GR):oE:=[iv x.o,u6 x.q,u6 x.n,iv x.a,u6 x.b]
theorem vH(x:GR):(grC x).length=5:=rfl
def Lj(x:GR):∀v∈grC x,v.oneCell'=true:=by simp[grC,u6,iv,Value.oneCell']
def RE{K:KV}(h:K (pA b (o+0)) w):aq Q 61 (pA b o) 0 K w:=aQ kr h
def HN{K:KV}(h:K (pA b (o+1)) w):aq Q 61 (pA b o) 1 K w:=aQ kr h
def Yb{K:KV}(h:K (pA b (o+2)) w):aq Q 61 (pA b o) 2 K w:=aQ kr h
def Yc{K:KV}(h:K (pA b (o+3)) w):aq Q 61 (pA b o) 3 K w:=aQ kr h
def Mq{K:KV}(h:K (pA b (o+4)) w):aq Q 61 (pA b o) 4 K w:=aQ kr h
section
open Go.ChangeMaps
structure LB where
 p:Nat
 t:Nat
 tp:Nat
 pm:Nat
 rm:Nat
 gm:Nat
 am:Nat
def LB.wv(q:LB):List Nat:=[q.p,q.tp,q.pm,q.rm,q.gm,q.am]
def LB.l(q:LB):List Nat:=[q.p,q.t,q.tp,q.pm,q.rm,q.gm,q.am,1]
def LB.wl{q:LB}:∀k∈q.wv,k∈q.l:=by intro k a;simp only[LB.wv,LB.l,oO,oR,or_false]at a |-;omega
section
variable {q:LB}
def LN.pt(h:q.l.Nodup):q.p≠q.t:=λe=>by simp[LB.l,e]at h
def LN.pd(h:q.l.Nodup):q.p≠q.tp:=λe=>by simp[LB.l,e]at h
def LN.pm(h:q.l.Nodup):q.p≠q.pm:=λe=>by simp[LB.l,e]at h
def LN.pr(h:q.l.Nodup):q.p≠q.rm:=λe=>by simp[LB.l,e]at h
def LN.pg(h:q.l.Nodup):q.p≠q.gm:=λe=>by simp[LB.l,e]at h
def LN.pa(h:q.l.Nodup):q.p≠q.am:=λe=>by simp[LB.l,e]at h
def LN.pz(h:q.l.Nodup):q.p≠1:=λe=>by simp[LB.l,e]at h
def LN.tm(h:q.l.Nodup):q.t≠q.pm:=λe=>by simp[LB.l,e]at h
def LN.tr(h:q.l.Nodup):q.t≠q.rm:=λe=>by simp[LB.l,e]at h
def LN.tg(h:q.l.Nodup):q.t≠q.gm:=λe=>by simp[LB.l,e]at h
def LN.ta(h:q.l.Nodup):q.t≠q.am:=λe=>by simp[LB.l,e]at h
def LN.dm(h:q.l.Nodup):q.tp≠q.pm:=λe=>by simp[LB.l,e]at h
def LN.dr(h:q.l.Nodup):q.tp≠q.rm:=λe=>by simp[LB.l,e]at h
def LN.dg(h:q.l.Nodup):q.tp≠q.gm:=λe=>by simp[LB.l,e]at h
def LN.da(h:q.l.Nodup):q.tp≠q.am:=λe=>by simp[LB.l,e]at h
def LN.dz(h:q.l.Nodup):q.tp≠1:=λe=>by simp[LB.l,e]at h
def LN.mr(h:q.l.Nodup):q.pm≠q.rm:=λe=>by simp[LB.l,e]at h
def LN.mg(h:q.l.Nodup):q.pm≠q.gm:=λe=>by simp[LB.l,e]at h
def LN.ma(h:q.l.Nodup):q.pm≠q.am:=λe=>by simp[LB.l,e]at h
def LN.mz(h:q.l.Nodup):q.pm≠1:=λe=>by simp[LB.l,e]at h
def LN.rg(h:q.l.Nodup):q.rm≠q.gm:=λe=>by simp[LB.l,e]at h
def LN.ra(h:q.l.Nodup):q.rm≠q.am:=λe=>by simp[LB.l,e]at h
def LN.rz(h:q.l.Nodup):q.rm≠1:=λe=>by simp[LB.l,e]at h
def LN.ga(h:q.l.Nodup):q.gm≠q.am:=λe=>by simp[LB.l,e]at h
def LN.gz(h:q.l.Nodup):q.gm≠1:=λe=>by simp[LB.l,e]at h
def LN.az(h:q.l.Nodup):q.am≠1:=λe=>by simp[LB.l,e]at h
def LN.tp(h:q.l.Nodup):q.t≠q.p:=(LN.pt h).symm
def LN.dp(h:q.l.Nodup):q.tp≠q.p:=(LN.pd h).symm
def LN.mp(h:q.l.Nodup):q.pm≠q.p:=(LN.pm h).symm
def LN.md(h:q.l.Nodup):q.pm≠q.tp:=(LN.dm h).symm
def LN.rp(h:q.l.Nodup):q.rm≠q.p:=(LN.pr h).symm
def LN.rd(h:q.l.Nodup):q.rm≠q.tp:=(LN.dr h).symm
def LN.rm(h:q.l.Nodup):q.rm≠q.pm:=(LN.mr h).symm
def LN.gp(h:q.l.Nodup):q.gm≠q.p:=(LN.pg h).symm
def LN.gd(h:q.l.Nodup):q.gm≠q.tp:=(LN.dg h).symm
def LN.gm(h:q.l.Nodup):q.gm≠q.pm:=(LN.mg h).symm
def LN.gr(h:q.l.Nodup):q.gm≠q.rm:=(LN.rg h).symm
def LN.ap(h:q.l.Nodup):q.am≠q.p:=(LN.pa h).symm
def LN.ad(h:q.l.Nodup):q.am≠q.tp:=(LN.da h).symm
def LN.am(h:q.l.Nodup):q.am≠q.pm:=(LN.ma h).symm
def LN.ar(h:q.l.Nodup):q.am≠q.rm:=(LN.ra h).symm
def LN.ag(h:q.l.Nodup):q.am≠q.gm:=(LN.ga h).symm
def LN.zp(h:q.l.Nodup):1≠q.p:=(LN.pz h).symm
def LN.zd(h:q.l.Nodup):1≠q.tp:=(LN.dz h).symm
def LN.zm(h:q.l.Nodup):1≠q.pm:=(LN.mz h).symm
def LN.zr(h:q.l.Nodup):1≠q.rm:=(LN.rz h).symm
def LN.zg(h:q.l.Nodup):1≠q.gm:=(LN.gz h).symm
def LN.za(h:q.l.Nodup):1≠q.am:=(LN.az h).symm
end
def kindsV:oE:=[.nilFunc,.func (.func 292) #[] #[],.func (.func 293) #[] #[],.func (.func 294) #[] #[],.func (.func 295) #[] #[],.func (.func 296) #[] #[],.func (.func 297) #[] #[],.func (.func 298) #[] #[]]
def KD(w:oG):Prop:=∃E fr,w.heap[1]? = some (.cells kindsV.toArray E fr)
def KD.lt(h:KD w):1<w.heap.size:=by obtain⟨E,a,h⟩:=h;exact(qM.1 h).1
def KD.keep(h:KD w)(b:S.heap[1]? = w.heap[1]?):KD S:=by obtain⟨E,a,h⟩:=h;exact⟨E,a,b.trans h⟩
def KD.below(h:KD w)(a:Below w.heap.size w S):KD S:=h.keep (a.block 1 h.lt)
def MZ(N:List ND):List Int:=(List.range 6).map λk=>((jx N ((k:Nat)+1):Nat):Int)
def plC(q:LB)(s:PL):oE:=s.I.map .bool++(s.L.map .bool++(vCs s.V++([pB q.t,.map (some q.pm),.map (some q.rm)]++((MZ s.N).map iv++[.map (some q.gm),.map (some q.am)]))))
def rqV(x:Int×Int):oF:=.agg #[ci x.1,.int .u64 x.2]
def rgV(A:List Int):oF:=.agg (A.map iv).toArray
def grV(g:GR):oF:=.agg (grC g).toArray
def rgL(N:List ND):List (Int×List Int):=N.map λx=>(x.id,x.A)
def grL(G:List GR):List ((Int×Int)×GR):=G.map λg=>((g.o,g.q),g)
def rqK:Hs Q 175 rqV:=by
 refine Xz _ underlying175 (λx=>⟨_,rfl⟩) (λx y h=>?_) (λw g x=>by kernel_rfl) (λw x y=>⟨decide (x=y),?_,?_⟩) (λx=>?_)
 .simp only[rqV,Value.agg.injEq]at h;simp at h;exact Prod.ext h.1 h.2
 .have c:Tryz.prog.underlying 175=some (.struct (Tryz.prog.fieldsOf 175)):=by kernel_rfl
  have d:Tryz.prog.stoodInHeld 175=false:=by kernel_rfl
  have i:=underlying3;have j:=underlying32;have e:=Tryz.isAgg3;have f:=Tryz.isAgg32;have k:=Tryz.sizeOf3;have l:=Tryz.sizeOf32;simp only[rqV];show (Op.equalIn (9999+1) _ _ _).run _ w=_;rw[run_equalIn_agg w 9999 175 _ _ c d];simp only[Program.fieldsOf,underlying175]
  go_simp
  by_cases a:x.1=y.1<;>by_cases b:x.2=y.2<;>simp[a,b,Prod.ext_iff]
 .simp[rqV];constructor
  .rintro rfl;exact⟨rfl,rfl⟩
  .rintro⟨a,b⟩;exact Prod.ext a b
 .unfold Instr.sameBits;simp[rqV];constructor<;>(unfold Instr.sameBits;simp)
structure PM(w:oG) (q:LB) (s:PL):Prop where
 i6:s.I.length=6
 l6:s.L.length=6
 v6:s.V.length=6
 b:blk w q.p 141 (plC q s)
 tm:TreeM w q.t q.tp (tr s.N)
 pm:∃m,MB u6 u6 w q.pm m/\m.Perm (tr s.N)
 rm:∃m,MB u6 rgV w q.rm m/\m.Perm (rgL s.N)
 gm:∃m,MB rqV grV w q.gm m/\m.Perm (grL s.G)
 am:∃m,MB rqV Value.bool w q.am m/\∀o r,1<=o->o<=6->dZ m (o,r)=if po s.R (o-1).toNat r=true then some true else none
 nd:q.l.Nodup
 kd:KD w
section
variable  {q:LB}{s:PL}
def PM.keep(h:PM w q s)(a:∀k∈q.l,k<w.heap.size->S.heap[k]? = w.heap[k]?):PM S q s:=by
 have c:∀{k:Nat} {E:TypeId} {cs:oE},k∈q.l->blk w k E cs->blk S k E cs:=λ{k E cs} u c=>by
  have:=a k u c.lt
  unfold blk at *; rw[this];exact c
 obtain⟨v,x,F,b,d,⟨z,g,o⟩,⟨A,i,p⟩,⟨B,j,r⟩,⟨C,m,t⟩,D,e⟩:=h;obtain⟨y,f,n⟩:=d.mp
 exact⟨v,x,F,c (by simp[LB.l]) b,⟨c (by simp[LB.l]) d.bt,⟨y,f.kept (a _ (by simp[LB.l]) f.lt),n⟩,d.uq⟩,⟨z,g.kept (a _ (by simp[LB.l]) g.lt),o⟩,⟨A,i.kept (a _ (by simp[LB.l]) i.lt),p⟩,⟨B,j.kept (a _ (by simp[LB.l]) j.lt),r⟩,⟨C,m.kept (a _ (by simp[LB.l]) m.lt),t⟩,D,e.keep (a _ (by simp[LB.l]) e.lt)⟩
def PM.below(h:PM w q s)(a:Below w.heap.size w S):PM S q s:=h.keep λk _ b=>a.block k b
def PM.ch{F:List Nat}(h:PM w q s)(a:Ch F w S)(hF:∀k∈q.l,k∉F):PM S q s:=h.keep λk b c=>a.block k c (hF k b)
def PM.drew(h:PM w q s):PM w.drew q s:=h.below (jT _ w).drew
def PM.lt(h:PM w q s):∀k∈q.l,k<w.heap.size:=by
 obtain⟨p,r,z,b,c,⟨t,e,j⟩,⟨u,f,m⟩,⟨v,g,n⟩,⟨x,i,o⟩,y,d⟩:=h;intro k a;simp only[LB.l,oO,oR,or_false]at a;rcases a with rfl|rfl|rfl|rfl|rfl|rfl|rfl|rfl
 .exact b.lt
 .exact c.lt.1
 .exact c.lt.2
 .exact e.lt
 .exact f.lt
 .exact g.lt
 .exact i.lt
 .exact d.lt
def fh{A B:oE}{n:Nat}(a:A.length=n)(k:Nat):(A++B)[n+k]? = B[k]? := by
 rw[qP oo,a,Nat.add_sub_cancel_left]
def Tl{A B:oE}{n k:Nat}(a:A.length=n)(b:k<n):(A++B)[k]? = A[k]? := qO oo
def xv{A B:oE}{n:Nat}(a:A.length=n)(k:Nat)(v:oF):(A++B).set (n+k) v=A++B.set k v:=by rw[List.set_append_right _ _ oo,a,Nat.add_sub_cancel_left]
def PP{A B:oE}{n k:Nat}(a:A.length=n)(b:k<n)(v:oF):(A++B).set k v=A.set k v++B:=List.set_append_left _ _ oo
def YF{f:α->oF}{L:List α}{k:Nat}{d:α}(a:k<L.length):(L.map f)[k]? = some (f (L.getD k d)):=by rw[qC,gE a];simp[List.getD,a]
def xe{N:List ND}:(MZ N).length=6:=by simp[MZ]
def VQ{N:List ND}{k:Nat}(a:k<6):(MZ N).getD k 0=((jx N ((k:Nat)+1):Nat):Int):=by unfold MZ;rw[oN,qC,List.getElem?_range a];rfl
def PM.cI(h:PM w q s){k:Nat}(a:k<6):(plC q s)[k]? = some (.bool (s.I.getD k false)):=by unfold plC;rw[Tl (n:=6) (by simp[h.i6]) a,YF (by rw[h.i6];exact a)]
def PM.cL(h:PM w q s){k:Nat}(a:k<6):(plC q s)[6+k]? = some (.bool (s.L.getD k false)):=by unfold plC;rw[fh (by simp[h.i6]),Tl (n:=6) (by simp[h.l6]) a,YF (by rw[h.l6];exact a)]
def PM.cV(h:PM w q s){k:Nat}(a:k<6):(plC q s)[12+k]? = some (u6 (s.V.getD k 0)):=by unfold plC;rw[show 12+k=6+(6+k)by omega,fh (by simp[h.i6]),fh (by simp[h.l6]),Tl (n:=6) (by rw[bE,h.v6]) a,BX h.v6 a]
def PM.cX(h:PM w q s)(k:Nat):(plC q s)[18+k]? = ([pB q.t,.map (some q.pm),.map (some q.rm)]++((MZ s.N).map iv++[.map (some q.gm),.map (some q.am)]))[k]? := by
 unfold plC;rw[show 18+k=6+(6+(6+k))by omega,fh (by simp[h.i6]),fh (by simp[h.l6]),fh (by rw[bE,h.v6])]
def PM.c18(h:PM w q s):(plC q s)[18]? = some (pB q.t):=(h.cX 0).trans rfl
def PM.c19(h:PM w q s):(plC q s)[19]? = some (.map (some q.pm)):=(h.cX 1).trans rfl
def PM.c20(h:PM w q s):(plC q s)[20]? = some (.map (some q.rm)):=(h.cX 2).trans rfl
def PM.cO(h:PM w q s){k:Nat}(a:k<6):(plC q s)[21+k]? = some (iv ((jx s.N ((k:Nat)+1):Nat):Int)):=by rw[show 21+k=18+(3+k)by omega,h.cX,fh (n:=3) rfl,Tl (n:=6) (by simp[xe]) a,YF (d:=0) (by rw[xe];exact a),VQ a]
def PM.c27(h:PM w q s):(plC q s)[27]? = some (.map (some q.gm)):=by rw[show 27=18+(3+(6+0))by omega,h.cX,fh (n:=3) rfl,fh (n:=6) (by simp[xe])];rfl
def PM.c28(h:PM w q s):(plC q s)[28]? = some (.map (some q.am)):=by rw[show 28=18+(3+(6+1))by omega,h.cX,fh (n:=3) rfl,fh (n:=6) (by simp[xe])];rfl
def PM.len(h:PM w q s):(plC q s).length=29:=by unfold plC;simp[h.i6,h.l6,bE,h.v6,xe]
def Hr{f:α->oF}{L:List α}{k:Nat}{x:α}:(L.map f).set k (f x)=(L.set k x).map f:=by rw[List.map_set]
def PM.sI(h:PM w q s){k:Nat}(a:k<6)(b:Bool):(plC q s).set k (.bool b)=plC q {s with I:=s.I.set k b}:=by unfold plC;rw[PP (n:=6) (by simp[h.i6]) a,Hr]
def PM.sL(h:PM w q s){k:Nat}(a:k<6)(b:Bool):(plC q s).set (6+k) (.bool b)=plC q {s with L:=s.L.set k b}:=by unfold plC;rw[xv (by simp[h.i6]),PP (n:=6) (by simp[h.l6]) a,Hr]
def PM.sV(h:PM w q s){k:Nat}(a:k<6)(x:Int):(plC q s).set (12+k) (u6 x)=plC q {s with V:=s.V.set k x}:=by unfold plC;rw[show 12+k=6+(6+k)by omega,xv (by simp[h.i6]),xv (by simp[h.l6]),PP (n:=6) (by rw[bE,h.v6]) a];unfold vCs;rw[Hr]
def PM.sO(h:PM w q s){k:Nat}(g:k<6){N:List ND}(hN:∀j,j<6->j≠k->jx N ((j:Nat)+1)=jx s.N ((j:Nat)+1)):(plC q s).set (21+k) (iv ((jx N ((k:Nat)+1):Nat):Int))=plC q {s with N:=N}:=by
 unfold plC;rw[show 21+k=6+(6+(6+(3+k)))by omega,xv (by simp[h.i6]),xv (by simp[h.l6]),xv (by rw[bE,h.v6]),xv (n:=3) rfl,PP (n:=6) (by simp[xe]) g,Hr];have e:(MZ s.N).set k ((jx N ((k:Nat)+1):Nat):Int)=MZ N:=by
  refine List.ext_getElem (by simp[xe]) λj i f=>?_;have b:j<6:=by simpa[xe]using f
  rw[List.getElem_set];have a:=VQ (N:=N) b;have c:=VQ (N:=s.N) b;rw[oN,gE (by rw[xe];exact b)]at a c;simp only[Option.getD_some]at a c;by_cases e:k=j
  .subst e;rw[oJ rfl,a]
  .rw[oI e,c,a,hN j b (λd => e d.symm)]
 rw[e]
end
def HO{K:KV}(h:K (pA b (o+0)) w):aq Q 141 (pA b o) 0 K w:=aQ kr h
def RF{K:KV}(h:K (pA b (o+6)) w):aq Q 141 (pA b o) 1 K w:=aQ kr h
def DJ{K:KV}(h:K (pA b (o+12)) w):aq Q 141 (pA b o) 2 K w:=aQ kr h
def Bw{K:KV}(h:K (pA b (o+18)) w):aq Q 141 (pA b o) 3 K w:=aQ kr h
def RG{K:KV}(h:K (pA b (o+19)) w):aq Q 141 (pA b o) 4 K w:=aQ kr h
def wR{K:KV}(h:K (pA b (o+20)) w):aq Q 141 (pA b o) 5 K w:=aQ kr h
def RH{K:KV}(h:K (pA b (o+21)) w):aq Q 141 (pA b o) 6 K w:=aQ kr h
def Mr{K:KV}(h:K (pA b (o+27)) w):aq Q 141 (pA b o) 7 K w:=aQ kr h
def Ms{K:KV}(h:K (pA b (o+28)) w):aq Q 141 (pA b o) 8 K w:=aQ kr h
section
variable {N:List ND}{G:List GR}{id:Int}
def Qn:dZ (rgL N) id=match dR N id with|true=>some (aN N id)|false=>none:=by
 unfold rgL
 induction N with
 | nil=>rfl
 | cons x N ih =>
  by_cases h:x.id=id
  .have a:dR (x::N) id=true:=sc.2 ⟨x,by simp,h⟩;have b:aN (x::N) id=x.A:=by unfold aN;rw[List.find?_cons_of_pos (by simpa using h)]
   rw[a,b];simp[dZ,h]
  .have a:dR (x::N) id=dR N id:=by unfold dR;simp[h]
   have b:aN (x::N) id=aN N id:=by unfold aN;rw[List.find?_cons_of_neg (by simpa using h)]
   rw[a,b, <-ih];simp[dZ,h]
def UP(h:dR N id=false):aN N id=z54:=by
 unfold aN;cases a:N.find? λx=>x.id==id with
 | none=>rfl
 | some x =>
  have:=sc.2 ⟨x,List.mem_of_find?_eq_some a,by simpa using List.find?_some a⟩
  rw[h]at this;cases this
def Hk{o q:Int}:dZ (grL G) (o,q)=mw G o q:=by
 unfold grL mw
 induction G with
 | nil=>rfl
 | cons g G ih =>
  by_cases h:(g.o,g.q)=(o,q)
  .have a:g.o=o/\g.q=q:=by simpa using h
   simp[dZ,h,a]
  .have a : ¬(g.o=o/\g.q=q):=by simpa using h
   have c:(g.o==o&&g.q==q)=false:=by
    rw[Bool.eq_false_iff];intro b;rw[oM,beq_iff_eq,beq_iff_eq]at b;exact a b
   rw[jK,List.find?_cons,c];simp only[dZ,h,if_false];exact ih
def IM(a:N.Pairwise (·.id < ·.id)):((rgL N).map (·.1)).Nodup:=by
 unfold rgL;rw[jG];exact List.pairwise_map.2 (a.imp λh e=>by
  have e:_=_:=e;simp only[Function.comp_apply]at e;omega)
def Nm(a:N.Pairwise (·.id < ·.id)):((tr N).map (·.1)).Nodup:=by
 unfold tr;rw[jG];exact List.pairwise_map.2 (a.imp λh e=>by
  have e:_=_:=e;simp only[Function.comp_apply]at e;omega)
def MI(a:G.Pairwise ltG):((grL G).map (·.1)).Nodup:=by
 unfold grL;rw[jG];exact List.pairwise_map.2 (a.imp λh e=>by
  have e:_=_:=e;simp only[Function.comp_apply,jH]at e;unfold ltG at h;omega)
end
def rgz:∀w,(zeroValue 56).run Q w=.ok (rgV z54) w:=λw=>by kernel_rfl
def grz:∀w,(zeroValue 61).run Q w=.ok (grV ⟨0,0,0,0,0⟩) w:=λw=>by kernel_rfl
def bz:∀w,(zeroValue 4).run Q w=.ok (.bool false) w:=λw=>by kernel_rfl
section
variable  {K:KV}{q:LB}{s:PL}
def PM.rg_l(h:PM w q s)(hi:PI s){id:Int}(a:K (rgV (aN s.N id)) w):lkp Q 136 (.map (some q.rm)) (u6 id) false K w:=by
 obtain⟨m,b,c⟩:=h.rm;refine Sg (z0:=z54) u6K underlying136 rgz b ?_;rw[pQ c (IM hi.srt),Qn];cases d:dR s.N id with
 | true=>exact a
 | false=>rw[UP d]at a;exact a
def PM.rg_l2(h:PM w q s)(hi:PI s){id:Int}(a:K (.tuple #[rgV (aN s.N id),.bool (dR s.N id)]) w):lkp Q 136 (.map (some q.rm)) (u6 id) true K w:=by
 obtain⟨m,c,d⟩:=h.rm;refine YC (z0:=z54) u6K underlying136 rgz c ?_;rw[pQ d (IM hi.srt),Qn];cases b:dR s.N id with
 | true=>rw[b]at a;exact a
 | false=>rw[UP b,b]at a;exact a
def PM.par_l(h:PM w q s)(hi:PI s){id:Int}(b:eh (tr s.N) id=true)(c:K (u6 (fV (tr s.N) id)) w):lkp Q 135 (.map (some q.pm)) (u6 id) false K w:=by obtain⟨m,d,e⟩:=h.pm;refine Sg (z0:=0) u6K underlying135 u6z d ?_;have a:=Nm hi.srt;rw[pQ e a,Lw a,b];exact c
def PM.ask_l(h:PM w q s){o:Int}(c:1<=o)(d:o<=6)(a:K (.bool (po s.R (o-1).toNat r)) w):lkp Q 138 (.map (some q.am)) (rqV (o,r)) false K w:=by
 obtain⟨m,e,f⟩:=h.am;refine Sg (z0:=false) rqK underlying138 bz e ?_;rw[f o r c d];cases b:po s.R (o-1).toNat r with
 | true=>rw[b]at a;exact a
 | false=>rw[b]at a;exact a
def PM.gr_l(h:PM w q s)(hi:PI s){o:Int}(a:K (.tuple #[grV ((mw s.G o r).getD ⟨0,0,0,0,0⟩),.bool (mw s.G o r).isSome]) w):lkp Q 137 (.map (some q.gm)) (rqV (o,r)) true K w:=by obtain⟨m,b,c⟩:=h.gm;refine YC (z0:=⟨0,0,0,0,0⟩) rqK underlying137 grz b ?_;rw[pQ c (MI hi.gs),Hk];exact a
end
def PI.len30{s:PL}(hi:PI s):s.N.length<=30:=by
 rw[Vz λx f=>by
  obtain⟨o,q,a,b,c,d,e,_⟩:=hi.ids x f;exact⟨o,q,a,b,c,d,e⟩]
 have:=hi.own 1
 have:=hi.own 2
 have:=hi.own 3
 have:=hi.own 4
 have:=hi.own 5
 have:=hi.own 6
 omega
def IdR.imp{B:Nat}{ids:List Int}(h:IdR w B a c ids)(j:∀g cs,B<=g->blk w g 32 cs->blk S g 32 cs):IdR S B a c ids:=by
 rcases h with h|⟨g,b,e,d,f,i⟩
 .exact .inl h
 .exact .inr ⟨g,b,e,d,f,j _ _ d i⟩
def Wc{N:List ND}:(tr N).length=N.length:=by simp[tr]
def PI.plen{s:PL}(hi:PI s)(id:Int):(fg s.N id).length<=4:=by
 cases a:eh (tr s.N) id with
 | true =>
  obtain⟨x,b,e⟩:=ky.1 a;obtain⟨y,c,rfl⟩:=qT.1 b;have e:y.id=id:=e;rw[<-e];exact hi.dep y c
 | false=>simp[fg,fy,dO,a]
structure RoI(w0 v:oG) (q:LB) (s:PL) (y t tp b1 D:Nat) (a:Option Addr) (c B:Nat) (P l:List Int):Prop where
 pm:PM v q s
 lv:blk v w0.heap.size 107 [pB q.p]
 tv:blk v y 133 [pB t]
 tb:∃S,TreeM v t tp S/\RI (tr s.N) S l l
 sl:blk v b1 172 [.slice a P.length c]
 ids:IdR v B a c P
 bel:Below w0.heap.size w0 v
 dm:v.heap[D]? = some (.deferred (some []))
 sz:D+2<=v.heap.size
section
variable {v v':oG}{q:LB}{s:PL}{y t tp b1 B:Nat}  {P l l':List Int}
def RoI.ch(h:RoI w0 v q s y t tp b1 D a c B P l){F:List Nat}(hc:Ch F v v')(hF:∀k∈F,w0.heap.size<k/\k≠y/\k≠b1/\k≠D/\(∀cs,¬blk v k 32 cs))(hq:∀k∈q.l,k<w0.heap.size)(ht:∃S,TreeM v' t tp S/\RI (tr s.N) S l' l'):RoI w0 v' q s y t tp b1 D a c B P l' where
 pm:=h.pm.ch hc λk hk hf=>by have:=hq k hk;have:=(hF k hf).1;omega
 lv:=h.lv.ch hc λhf=>by have:=(hF _ hf).1;omega
 tv:=h.tv.ch hc λhf=>(hF _ hf).2.1 rfl
 tb:=ht
 sl:=h.sl.ch hc λhf=>(hF _ hf).2.2.1 rfl
 ids:=h.ids.imp λg cs _ hb=>hb.ch hc λhf=>(hF _ hf).2.2.2.2 _ hb
 bel:=⟨hc.os.trans h.bel.os,hc.tape.trans h.bel.tape,hc.output.trans h.bel.output,qR h.bel.size hc.size,λk a=>by
  rw[hc.block k (qQ a h.bel.size) (λa=>by have:=(hF k a).1;omega),h.bel.block k a]⟩
 dm:=(hc.block D (by have:=h.sz;omega) (λa=>(hF _ a).2.2.2.1 rfl)).trans h.dm
 sz:=qR h.sz hc.size
def Hn{k:Nat}{o:Obj}(b:w.heap[k]? = some o)(a:∀cs z,o≠.cells cs E z)(cs:oE):¬blk w k E cs:=by intro h;unfold blk at h;rw[b]at h;exact a _ _ (Option.some.inj h)
def TreeM.mo{t:Nat}(h:TreeM w t b T):∃es c,w.heap[b]? = some (.map es c):=by obtain⟨m,⟨es,c,a⟩,_⟩:=h.mp;exact⟨es,c,a.heap⟩
end
section
variable  {K:KV}{q:LB}{s:PL}
def IdR.at2{B:Nat}{ids:List Int}{K2:oF->KV}(h:IdR w B a c ids)(hi:i<ids.length)(e:∀p,K2 p (u6 ids[i]) w):bv Q 172 (.slice a ids.length c) (ci (i:Nat)) (λp=>ld Q 32 p (K2 p)) w:=by
 rcases h with⟨rfl,_⟩|⟨g,b,rfl,j,f,d⟩
 .simp at hi
 refine gO underlying172 (s:=1) kf oo oo ?_;rw[oQ,Nat.mul_one,oK];refine lK (v:=u6 ids[i]) d ?_ (e _);rw[qO (by simpa using hi),qC,gE hi];rfl
def zgz{id par:Int}(h:PM w q s)(hi:PI s)(f:∀w',Below w.heap.size w w'->K (ci (nN (tr s.N) id par).2) w'):call Q 300 #[pB q.p,u6 id,u6 par] K w:=by
 have V:=h.lt;obtain⟨rk,X⟩:=hi.tk;have a5:=hi.len30;have aX:(fy (tr s.N) par).length<=4:=hi.plen par;obtain⟨P,hP⟩:∃P,P=fy (tr s.N) par:=⟨_,rfl⟩
 have U:∀i n,P[i]? = some n->n≠0/\eh (tr s.N) n=true/\((i+1=P.length/\fV (tr s.N) n=0)\/P[i+1]? = some (fV (tr s.N) n)):=λi n E=>by
  rw[hP]at E |-;exact WD X _ _ (by have:=LS X par;omega) i n E
 have aF:P.Nodup:=by rw[hP];exact(Nb X _ _).imp λ{a b} a6 e=>by subst e;omega
 rw[<-hP]at aX;refine ao (goK func300) (Lp ?_);refine bU λw1 h1 b1 s1=>zdb λw2 t tp aH b2 l2 bf=>?_;have h1:=cZ h1
 refine cD (z:=.pointer none) kr λw3 h3 b3 s3=>?_;have h3:=cZ h3
 refine dw kf h3 (by show 0<1;decide) rfl λw4 h4 o4=>?_;have h4:blk w4 w2.heap.size 133 [pB t]:=h4;obtain⟨y,hy⟩:∃y,y=w2.heap.size:=⟨_,rfl⟩
 rw[<-hy]at h4 o4 |-;have bc:=aH.lt;have bb:=b2.size;have B4:Below w.heap.size w w4:=gI (b1.trans ((b2.mono oo).trans (b3.mono oo))) o4 oo;have l4:blk w4 w.heap.size 107 [pB q.p]:=o4.blk (ae b3 (ae b2 h1 h1.lt) oo) oo;have t4:TreeM w4 t tp []:=(aH.below b3).oth o4 oo oo;have p4:=h.below B4
 refine lK (v:=pB q.p) l4 rfl (au (Bw (lK (v:=pB q.t) p4.b (by rw[oK];exact p4.c18) ?_)));refine Qs X p4.tm (by rw[Wc];omega) λw5 a c ho b5=>?_;rw[<-hP]at ho |-;have aP:IdR w5 w4.heap.size a c P:=IdR.own ho rfl;refine zgs λw6 h6 b6 s6=>?_;have s4:w4.heap.size=w2.heap.size+1:=by rw[o4.size,s3]
 have an:=b5.size;refine zcP (g:=.tmp 21) (ps:=#[22,23]) (a:=cd ni []) (bd:=cd nj []) (gf:=326) (cap:=[pB w5.heap.size]) kr rfl ?_;intro fn W bW sW hD hL;have J:Below w4.heap.size w4 W:=b5.trans ((b6.mono an).trans (bW.mono oo));have aq:RoI w W q s y t tp w5.heap.size w6.heap.size a c w4.heap.size P [] :=
  ⟨p4.below J,ae J l4 l4.lt,ae J h4 h4.lt,⟨[],t4.below J,RI.nil⟩,ae bW h6 h6.lt,(aP.below b6).below bW,B4.trans (J.mono B4.size),hD,by omega⟩
 generalize be:w6.heap.size=D at *;have aN:∀{j:Nat},P.drop (P.length-0)=[]:=by simp
 refine zgt (ids:=P) (c:=c) (a:=a) (B:=w4.heap.size) Tp oo
  (λj v=>RoI w v q s y t tp w5.heap.size D a c w4.heap.size P (P.drop (P.length-j))/\v.heap[D+1]? = some (.loop (qa fn _ #[22,23] (cd ni []) (cd nj []) D .ready none))) (λ_=>False)
  ⟨by simpa using aq,hL⟩ (λj v a=>⟨a.1.sl,a.1.ids⟩) ?_ ?_ (λ_ A=>A.elim)
 .rintro j k x v K' a9 hx ⟨M,hl⟩ kT kF;obtain⟨ap,a1,a4⟩:=U k x hx;have aL:P.drop (P.length-j)=P.drop (k+1):=by congr 1;omega
  have R:k<P.length:=by omega
  have aM:P.drop (P.length-(j+1))=x::P.drop (k+1):=by
   rw[show P.length-(j+1)=k by omega,List.drop_eq_getElem_cons R];rw[gE R]at hx;rw[Option.some.inj hx]
  rw[aL]at M;refine⟨by kernel_rfl,by kernel_rfl,hl,rfl,Jp ⟨hl,Jq ?_⟩⟩;generalize ad:v.putObj (D+1) _=v1;have G:Oth (D+1) v v1:=ad ▸ oth_put;have l1:v1.heap[D+1]? = some (.loop (qa fn _ #[22,23] (cd ni []) (cd nj []) D .busy none)):=ad ▸ World.putObj_heap_same (by have:=M.sz;omega);obtain⟨S,hS,al⟩:=M.tb;have aK:=hS.lt;have d0:w.heap.size<D:=by have:=M.sz;have:=an;omega
  have R1:RoI w v1.drew q s y t tp w5.heap.size D a c w4.heap.size P (P.drop (k+1)):=M.ch (F:=[D+1]) ⟨G.os,G.tape,G.output,by show v.heap.size<=v1.heap.size;rw[G.size];exact Nat.le_refl _,λk _ f=>G.other k (by simpa using f)⟩
   (λk f=>by
    have f:k=D+1:=by simpa using f
    subst f;exact⟨by omega,by omega,by omega,by omega,Hn hl oB⟩) V ⟨S,(hS.oth G oo oo).drew,al⟩
  have bg:(x::P.drop (k+1)).length=j+1:=by simp;omega
  refine ax (λu=>PM u q s/\blk u w.heap.size 107 [pB q.p]/\blk u y 133 [pB t]) ⟨R1.pm,R1.lv,R1.tv⟩ <|ac (λu a _=>lK (v:=pB t) a.2.2 rfl) <|ac (λu a _=>lK (v:=pB q.p) a.2.1 rfl) ?_;refine ac (λu a _=>au) (ac (λu a _=>RG) ?_);refine ac (λu a _=>lK (v:=.map (some q.pm)) a.1.b (by rw[oK];exact a.1.c19)) <|ac (λu a _=>a.1.par_l hi a1) ?_
  obtain⟨S1,H,l⟩:=R1.tb;obtain⟨bh,aR⟩:=l.tk;have aT:=l.len;have a8:(P.drop (k+1)).length=j:=by simp;omega
  have aV:x∉P.drop (k+1):=by
   have E:=aF;rw[<-List.take_append_drop k P,List.drop_eq_getElem_cons R]at E;rw[gE R]at hx;rw[Option.some.inj hx]at E;exact(jF.1 (List.nodup_append.1 E).2.1).1
  have aE:fV (tr s.N) x=0\/fV (tr s.N) x∈P.drop (k+1):=by
   rcases a4 with⟨_,A⟩|A
   .exact .inl A
   .right
    have:(P.drop (k+1))[0]? = some (fV (tr s.N) x):=by rw[jM,qV];exact A
    exact mO this
  obtain⟨e0,_,ag⟩:=l.add ap aV aE oo (.inr oo);refine UI aR H oo λw7 aa c7=>?_;obtain⟨es,cc,ab⟩:=H.mo;have R7:=R1.ch (F:=[tp]) c7 (λk f=>by
    have f:k=tp:=by simpa using f
    subst f;refine⟨by omega,by omega,?_,by omega,Hn ab oB⟩;intro e
    have:=R1.sl
    rw[<-e]at this;unfold blk at this;rw[ab]at this;cases this) V ⟨_,aa,ag rfl⟩
  have l7:w7.heap[D+1]? = some (.loop (qa fn _ #[22,23] (cd ni []) (cd nj []) D .busy none)):=(c7.block (D+1) (by have:=R1.sz;omega) (by simp;omega)).trans l1;refine⟨l7,kT _ ⟨?_,World.putObj_heap_same (by have:=R7.sz;omega)⟩⟩;rw[aM];generalize a0:w7.putObj (D+1) _=v8;have o8:Oth (D+1) w7 v8:=a0 ▸ oth_put
  exact R7.ch (F:=[D+1]) ⟨o8.os,o8.tape,o8.output,by rw[o8.size];exact Nat.le_refl _,λk _ f=>o8.other k (by simpa using f)⟩
   (λk f=>by
    have f:k=D+1:=by simpa using f
    subst f;exact⟨by omega,by omega,by omega,by omega,Hn l7 oB⟩) V ⟨_,aa.oth o8 oo oo,ag rfl⟩
 .rintro v ⟨M,hl⟩;rw[jO,oX]at M;refine⟨none,hl,Jo ?_⟩;generalize ad:v.putObj (D+1) _=v1;have G:Oth (D+1) v v1:=ad ▸ oth_put;obtain⟨S,hS,al⟩:=M.tb;have aK:=hS.lt;have d0:w.heap.size<D:=by have:=M.sz;have:=an;omega
  have R1:RoI w v1 q s y t tp w5.heap.size D a c w4.heap.size P P:=M.ch (F:=[D+1]) ⟨G.os,G.tape,G.output,by rw[G.size];exact Nat.le_refl _,λk _ f=>G.other k (by simpa using f)⟩
   (λk f=>by
    have f:k=D+1:=by simpa using f
    subst f;exact⟨by omega,by omega,by omega,by omega,Hn hl oB⟩) V ⟨S,hS.oth G oo oo,al⟩
  refine lK (v:=pB q.p) R1.lv rfl (au (Bw (lK (v:=pB q.t) R1.pm.b (by rw[oK];exact R1.pm.c18) ?_)));refine zat R1.pm.tm (by rw[Wc];omega) λw7 a7 c7 ids o aZ aA b7=>?_;have aQ:ids.length=s.N.length:=by rw[o.length_eq,oY,Wc]
  have ah:ids.Nodup:=aZ.imp λA=>by omega
  refine bM underlying172 ?_;obtain⟨S1,H,l⟩:=R1.tb;have R7:RoI w w7 q s y t tp w5.heap.size D a c w4.heap.size P P:=R1.ch (F:=[]) (Ch.of_below b7) oB V ⟨S1,H.below b7,l⟩;have aa:=H.below b7;clear R1 H;have bj:D+2<=v1.heap.size:=by rw[G.size];exact M.sz
  let Z:Nat->List Int:=λk=>((ids.take k).filter λn=>!P.contains n).reverse++P
  refine FK (Inv:=λi wr=>∃(k:Nat) (S:List (Int×Int)),i=iv (k:Nat)/\k<=ids.length/\TreeM wr t tp S/\RI (tr s.N) S (Z k) P/\blk wr y 133 [pB t]/\IdR wr w4.heap.size a c P/\IdR wr v1.heap.size a7 c7 ids/\Below w.heap.size w wr/\wr.heap[D]? = some (.deferred (some []))/\D+2<=wr.heap.size)
   (μ:=λi _=>ids.length-(intOf i).toNat) ⟨0,S1,rfl,qG _,aa,l,R7.tv,R7.ids,aA,R7.bel,R7.dm,R7.sz⟩ ?_
  rintro _ dd w8 m ⟨k,S8,rfl,R,I,d,af,O,C,r,ak,aI⟩ hm;have aU:=d.len;obtain⟨bi,aC⟩:=d.tk;have ai:∀n∈Z k,n∈ids:=by
   intro n E;rcases oU.1 E with E|E
   .exact List.mem_of_mem_take ((qU.1 (List.mem_reverse.1 E)).1)
   .rw[o.mem_iff,qT];obtain⟨i,am,e⟩:=List.getElem_of_mem E;obtain⟨_,A,_⟩:=U i n (by rw[gE am,e]);obtain⟨z,hz,e⟩:=ky.1 A;exact⟨z,hz,e⟩
  have ba:(Z k).length<=s.N.length:=by rw[<-aQ];exact wG d.nd ai
  refine aW ?_;by_cases T:k<ids.length
  .refine aG oo (FJ (C.at2 T λpt=>?_));have hx:ids[k]? = some ids[k]:=gE T;generalize a2:ids[k]=x at hx;have aj:ids.take (k+1)=ids.take k++[x]:=by rw[List.take_add_one,hx];rfl
   refine ZB O oo (xI ?_);by_cases Y:x∈P
   .refine aB (by simpa using Y) (xq (aY oo oo ?_));have e:Z (k+1)=Z k:=by simp only[Z];rw[aj];simp[Y]
    exact⟨⟨k+1,S8,ivS,T,I,by rw[e];exact d,af,O,C,r,ak,aI⟩,by rw[hm];show ids.length-((k:Int)+1).toNat<ids.length-(k:Int).toNat;omega⟩
   .refine aG Y (lK (v:=pB t) af rfl ?_);have e:Z (k+1)=x::Z k:=by simp only[Z];rw[aj];simp[Y]
    have a3:x∉Z k:=by
     intro A;rcases oU.1 A with A|A
     .have A:=(qU.1 (List.mem_reverse.1 A)).1;obtain⟨i,am,e2⟩:=List.getElem_of_mem A;rw[List.getElem_take]at e2;have aO:i<k:=by simp at am;omega
      have:=(List.pairwise_iff_getElem.1 ah) i k oo T aO
      rw[a2]at this;exact this e2
     .exact Y A
    have ap:x≠0:=by
     have:x∈ids:=mO hx
     rw[o.mem_iff,qT]at this;obtain⟨z,hz,e2⟩:=this;rw[<-e2];exact X.nz z hz
    obtain⟨e0,ar,_⟩:=d.add ap a3 (.inl rfl) oo (.inl rfl);refine UI aC I oo λw9 aw c9=>xq (aY oo oo ?_);obtain⟨es,cc,ab⟩:=I.mo;have ay:∀g cs,blk w8 g 32 cs->blk w9 g 32 cs:=λg cs hb=>hb.ch c9 (λa=>by
     have a:g=tp:=by simpa using a
     subst a;exact Hn ab oB _ hb)
    have av:=I.lt;refine⟨⟨k+1,_,ivS,T,aw,by rw[e];exact ar,af.ch c9 (by simp;omega),O.imp λg cs _=>ay g cs,C.imp λg cs _=>ay g cs,?_,(c9.block D oo (by simp;omega)).trans ak,qR aI c9.size⟩,by rw[hm];show ids.length-((k:Int)+1).toNat<ids.length-(k:Int).toNat;omega⟩;exact r.trans (c9.below (by simp;omega) r.size)
  .refine aB oo (FL (lK (v:=pB t) af rfl ?_));have e:ids.take k=ids:=by rw[tL oo]
   have aS:(Z k).Perm ((tr s.N).map (·.1)):=by
    refine List.Perm.trans ?_ o;refine(List.perm_ext_iff_of_nodup d.nd ah).2 λn=>⟨ai n,λE=>?_⟩
    show n∈((ids.take k).filter λn=>!P.contains n).reverse++P;rw[e];by_cases aD:n∈P
    .exact List.mem_append_right _ aD
    .exact List.mem_append_left _ (List.mem_reverse.2 (qU.2 ⟨E,by simpa using aD⟩))
   rw[hP]at d;have az:=d.err (id:=id) aS;refine UI aC I oo λw9 aw c9=>?_;have av:=I.lt;have aJ:w9.heap[D]? = some (.deferred (some [])):=(c9.block D oo (by simp;omega)).trans ak;refine⟨aJ,?_⟩;rw[az];refine f _ (gI (p:=D) (r.trans (c9.below (by simp;omega) r.size)) oth_put oo)
end
def vF (e:EV)(s:PL):PL:={eff e s with V:=s.V}
section
variable {ν:Type}[DecidableEq κ]
def WF{m L:List (κ×ν)}(f:(m.map (·.1)).Nodup)(hL:(L.map (·.1)).Nodup)(h:∀y,dZ m y=dZ L y):m.Perm L:=by
 have g:∀{l:List (κ×ν)},(l.map (·.1)).Nodup->l.Nodup:=λ{l} h=>List.Pairwise.of_map (·.1) (λa b c e=>c (by rw[e])) h;refine(List.perm_ext_iff_of_nodup (g f) (g hL)).2 λ⟨k,v⟩=>⟨λd=>?_,λd=>?_⟩
 .exact wZ (by rw[<-h];exact nD f d)
 .exact wZ (by rw[h];exact nD hL d)
end
def MB.nodup{kv:κ->oF}{vv:α->oF}{m:List (κ×α)}(h:MB kv vv w b m):(m.map (·.1)).Nodup:=by obtain⟨_,_,h⟩:=h;exact h.nodup
def JG{x:ND}:∀{N:List ND},(eQ x N).Perm (x::N)
 | []=>.refl _
 | y::N=>by
  unfold eQ;split
  .exact .refl _
  .exact((JG (x:=x) (N:=N)).cons y).trans (List.Perm.swap x y N)
def insG_perm{x:GR}:∀{G:List GR},(kJ x G).Perm (x::G)
 | []=>.refl _
 | y::G=>by
  unfold kJ;split
  .exact .refl _
  .exact((insG_perm (x:=x) (G:=G)).cons y).trans (List.Perm.swap x y G)
def zir{n:Nat}(f:n<16777216)(e:c<1099511627776):rC .or .u64 ((n*1099511627776:Nat):Int) (c:Int)=((n*1099511627776+c:Nat):Int):=by
 unfold rC;have d:IntKind.u64.bits=64:=rfl;simp only[d,gu]
 have:(BitVec.ofInt 64 ((n*1099511627776:Nat):Int) ||| BitVec.ofInt 64 ((c:Nat):Int)).toNat=n*1099511627776+c:=by
  rw[BitVec.toNat_or,BitVec.ofInt_natCast,BitVec.ofInt_natCast,BitVec.toNat_ofNat,BitVec.toNat_ofNat];rw[Nat.mod_eq_of_lt oo,Nat.mod_eq_of_lt oo];have a:=Nat.shiftLeft_add_eq_or_of_lt (i:=40) (b:=c) oo n;rw[Nat.shiftLeft_eq]at a;rw[<-a]
 show ((BitVec.ofInt 64 ((n*1099511627776:Nat):Int) ||| BitVec.ofInt 64 ((c:Nat):Int)).toNat:Int)%18446744073709551616=_;rw[this];omega
def zha(S:oG)(q:LB)(s1:PL)(c:oF):Prop:=∀(a:oG) (K2:KV),Below S.heap.size S a->(∀b,PM b q s1->Ch q.wv a b->K2 (.tuple #[]) b)->bS Q c #[] K2 a
section
variable {e:EV}{s:PL}
theorem zfM (k:e.k=1):vF e s={s with N:=eQ ⟨idE e,e.n,z54.set e.q e.a⟩ s.N}:=by simp[vF,eff,wN,wO,rF,nop,gop,NOp.ap,GOp.ap,k]
theorem zfN (k:e.k=2):vF e s={s with N:=s.N.map (fe [e.n] e.q e.a)}:=by simp[vF,eff,wN,wO,rF,nop,gop,NOp.ap,GOp.ap,k]
theorem zfO (k:e.k=3):vF e s={s with N:=s.N.map (fe (fg s.N e.n) (6+e.q) e.a),G:=kJ ⟨e.o,e.r,e.n,e.a,0⟩ s.G,R:=s.R.set e.q (s.R.getD e.q []++[e.r])}:=by simp[vF,eff,wN,wO,rF,nop,gop,NOp.ap,GOp.ap,k]
theorem zfP (k:e.k=4):vF e s={s with N:=s.N.map (fe (fg s.N (gOf s e).n) (12+e.q) (gOf s e).a),G:=s.G.map (tM e.o e.f e.r),R:=s.R.set e.q (s.R.getD e.q []++[e.r])}:=by simp[vF,eff,wN,wO,rF,nop,gop,NOp.ap,GOp.ap,k]
theorem zfQ (k:e.k=5):vF e s={s with N:=s.N.map (fe [e.n] (18+6*e.q+(e.t-1).toNat) e.a)}:=by simp[vF,eff,wN,wO,rF,nop,gop,NOp.ap,GOp.ap,k]
theorem zfR (k:e.k=6):vF e s={s with I:=s.I.set (e.t-1).toNat true}:=by simp[vF,eff,wN,wO,rF,nop,gop,NOp.ap,GOp.ap,k]
theorem zfS (k:e.k=7):vF e s={s with L:=s.L.set e.q true}:=by simp[vF,eff,wN,wO,rF,nop,gop,NOp.ap,GOp.ap,k]
end
def ixO{k:Nat}{i:Int}{K:KV}(hi:i=(k:Nat))(c:k<6)(a:K (pA b (o+k)) w):bv Q 139 (pA b o) (ci i) K w:=by subst hi;exact fB underlying139 (s:=1) kf oo oo (by rw[oQ,Nat.mul_one];exact a)
def VS{k:Nat}{i:Int}{K:KV}(hi:i=(k:Nat))(c:k<6)(a:K (pA b (o+k)) w):bv Q 31 (pA b o) (ci i) K w:=by subst hi;exact fB underlying31 (s:=1) kf oo oo (by rw[oQ,Nat.mul_one];exact a)
structure LE(w0 w:oG) (q:LB) (e:EV):Prop where
 l:blk w w0.heap.size 107 [pB q.p]
 e:blk w (w0.heap.size+1) 49 (evC e)
 bel:Below w0.heap.size w0 w
section
variable  {q:LB}{e:EV}
def LE.fresh(g:LE O w q e)(a:Below w.heap.size w S):LE O S q e:=⟨ae a g.l g.l.lt,ae a g.e g.e.lt,g.bel.trans (a.mono g.bel.size)⟩
def LE.sz(g:LE S w q e):S.heap.size+2<=w.heap.size:=g.e.lt
def LE.drew(g:LE S w q e):LE S w.drew q e:=g.fresh (jT _ w).drew
def LE.oth(g:LE S w q e)(o:Oth b w O)(a:S.heap.size+2<=b):LE S O q e:=⟨o.blk g.l oo,o.blk g.e oo,gI g.bel o oo⟩
end
section
variable  {K:KV}{q:LB}{s:PL}{e:EV}
def LE.make{K2:oF->oF->oG->Prop}(h:∀S,LE w S q e->S.heap.size=w.heap.size+2->K2 (pB w.heap.size) (pB (w.heap.size+1)) S):box Q 107 (pB q.p) (λl=>box Q 49 (.agg (evC e).toArray) (K2 l)) w:=by
 refine bU λg a d f=>Bj λi c b j=>?_;have a:=cZ a
 rw[f]at c |-;exact h i ⟨ae b a a.lt,c,d.trans (b.mono oo)⟩ oo
def Pu{o:Int}(d:1<=o)(f:o<=6)(g:1<=x)(i:x<1099511627776)(h:K (u6 (o*M40+x)) w):call Q 299 #[iv o,u6 x] K w:=by
 refine ao (goK func299) (zbD (aW (dL oo (dE (bG oo (dL oo (aW (bG oo (dL oo (cJ (bG oo (aB oo ?_))))))))))));refine dP underlying3 underlying32 ?_;rw[gu,show o%18446744073709551616=o by omega];refine Dr oo ?_;have e:o*2 ^ (min (40:Int).toNat IntKind.u64.bits)=o*1099511627776:=rfl
 obtain⟨a,rfl⟩:=Int.eq_ofNat_of_zero_le (show 0<=o by omega);obtain⟨b,rfl⟩:=Int.eq_ofNat_of_zero_le (show 0<=x by omega);rw[e,gu,show (a:Int)*1099511627776%18446744073709551616=((a*1099511627776:Nat):Int)by omega];refine To ?_;rw[zir oo oo];have c:((a*1099511627776+b:Nat):Int)=(a:Int)*M40+(b:Int):=by simp only[M40];omega
 rw[c];exact h
def yG{x:oF}(d:(Tryz.prog.info? t).bind (·.zero)=some x)(c:x.cells.toList=[x])(h:∀S,blk S w.heap.size t [x]->Below w.heap.size w S->S.heap.size=w.heap.size+1->K (pB w.heap.size) S):alc Q t K w :=
 cD d λS a b s=>h S (by rwa[c]at a) b s
def mk6{S0:oG->Prop}{T:oF->oF->oF->(oG->Prop)->oG->Prop}{o:Int}(m:1<=o)(n:o<=6)(p:1<=x)(q:x<1099511627776)(e:∀w',Below w.heap.size w w'->S0 w')(h:∀w' s bk,blk w' s 32 [u6 0]->blk w' bk 3 [iv 0]->s≠bk->w.heap.size<=s->w.heap.size<=bk->Below w.heap.size w w'->T (u6 (o*M40+x)) (pB s) (pB bk) S0 w'):(call Q 299 #[iv o,u6 x] (λt=>bw S0 λS w=>(alc Q 32 (λi=>bw S λS=>alc Q 3 λk=>bw S λS=>T t i k S) w)/\(alc Q 3 (λk=>bw S λS=>alc Q 32 λi=>bw S λS=>T t i k S) w)) w) /\
    ((alc Q 32 (λi=>bw S0 λS w=>(call Q 299 #[iv o,u6 x] (λt=>bw S λS=>alc Q 3 λk=>bw S λS=>T t i k S) w)/\(alc Q 3 (λk=>bw S λS=>call Q 299 #[iv o,u6 x] λt=>bw S λS=>T t i k S) w)) w) /\
     (alc Q 3 (λk=>bw S0 λS w=>(call Q 299 #[iv o,u6 x] (λt=>bw S λS=>alc Q 32 λi=>bw S λS=>T t i k S) w)/\(alc Q 32 (λi=>bw S λS=>call Q 299 #[iv o,u6 x] λt=>bw S λS=>T t i k S) w)) w)):=by
  have u:=e w (jT _ w);have v:∀a O,Below w.heap.size w a->blk a w.heap.size 32 [u6 0]->a.heap.size=w.heap.size+1->blk O a.heap.size 3 [iv 0]->Below a.heap.size a O->Below w.heap.size w O/\T (u6 (o*M40+x)) (pB w.heap.size) (pB a.heap.size) S0 O:=λa O b f l g d =>
    have c:=b.trans (d.mono oo)
    ⟨c,h O _ _ (ae d f f.lt) g oo oo oo c⟩
  have y:∀a O,Below w.heap.size w a->blk a w.heap.size 3 [iv 0]->a.heap.size=w.heap.size+1->blk O a.heap.size 32 [u6 0]->Below a.heap.size a O->Below w.heap.size w O/\T (u6 (o*M40+x)) (pB a.heap.size) (pB w.heap.size) S0 O:=λa O b f l g d =>
    have c:=b.trans (d.mono oo)
    ⟨c,h O _ _ g (ae d f f.lt) oo oo oo c⟩
  refine⟨Pu m n p q (aI u ⟨?_,?_⟩),?_,?_⟩
  · refine yG (x:=u6 0) kr rfl λa f b l=>aI (e _ b) (yG (x:=iv 0) kr rfl λO g d r=>?_)
    obtain⟨c,j⟩:=v a O b f l g d;exact aI (e _ c) j
  · refine yG (x:=iv 0) kr rfl λa f b l=>aI (e _ b) (yG (x:=u6 0) kr rfl λO g d r=>?_)
    obtain⟨c,j⟩:=y a O b f l g d;exact aI (e _ c) j
  · refine yG (x:=u6 0) kr rfl λa f b l=>aI (e _ b) ⟨Pu m n p q (aI (e _ b) (yG (x:=iv 0) kr rfl λO g d r=>?_)),yG (x:=iv 0) kr rfl λO g d r=>?_⟩
    · obtain⟨c,j⟩:=v a O b f l g d
      exact aI (e _ c) j
    · obtain⟨c,j⟩:=v a O b f l g d
      exact aI (e _ c) (Pu m n p q (aI (e _ c) j))
  · refine yG (x:=iv 0) kr rfl λa f b l=>aI (e _ b) ⟨Pu m n p q (aI (e _ b) (yG (x:=u6 0) kr rfl λO g d r=>?_)),yG (x:=u6 0) kr rfl λO g d r=>?_⟩
    · obtain⟨c,j⟩:=y a O b f l g d
      exact aI (e _ c) j
    · obtain⟨c,j⟩:=y a O b f l g d
      exact aI (e _ c) (Pu m n p q (aI (e _ c) j))
end
structure LV(w:oG) (z:Nat) (q:LB) (e:EV):Prop where
 l:blk w z 107 [pB q.p]
 e:blk w (z+1) 49 (evC e)
section
variable   {q:LB}{e:EV}
def LV.ch{F:List Nat}(g:LV w z q e)(b:Ch F w S)(hF:∀k∈F,k<z\/z+2<=k):LV S z q e :=
 ⟨g.l.ch b λa=>by have:=hF _ a;omega,g.e.ch b λa=>by have:=hF _ a;omega⟩
def LV.below(g:LV w z q e)(a:Below w.heap.size w S):LV S z q e:=g.ch (Ch.of_below a:Ch [] w S) oB
def LV.oth(g:LV w z q e)(o:Oth b w S)(a:b<z\/z+2<=b):LV S z q e:=⟨o.blk g.l oo,o.blk g.e oo⟩
def LV.drew(g:LV w z q e):LV w.drew z q e:=g.below (jT _ w).drew
def LE.lv(g:LE S w q e):LV w S.heap.size q e:=⟨g.l,g.e⟩
end
section
variable  {K:KV}{q:LB}{s:PL}{e:EV}
def zeo(g:LV w z q e)(R:blk w b 32 [u6 (idE e)])(af:blk w c 3 [iv (e.q:Nat)])(zi:z+2<=b)(zk:z+2<=c)(hq:∀k∈q.l,k<z)(h:PM w q s)(hi:PI s)(hm:dI e=true)(hn:dR s.N (idE e)=false)(r:(nN (tr s.N) (idE e) e.n).2=0)(d:∀w',PM w' q {s with N:=eQ ⟨idE e,e.n,z54.set e.q e.a⟩ s.N}->Ch q.wv w w'->K (.tuple #[]) w'):call Q 301 #[pB z,pB b,pB (z+1),pB c] K w:=by
 obtain⟨rk,ak⟩:=hi.tk;obtain⟨E,ho⟩:=vg hm;have U:=jb hm;have aw:=hi.len30;have m:=h.nd;have hb:=hq;simp only[LB.l,oO,oR,or_false,forall_eq_or_imp,forall_eq]at hb;obtain⟨x,J⟩:∃x:ND,x=⟨idE e,e.n,z54.set e.q e.a⟩:=⟨_,rfl⟩
 have C:x.id=idE e:=by rw[J]
 have Y:x.par=e.n:=by rw[J]
 have X:x.A=z54.set e.q e.a:=by rw[J]
 rw[<-J]at d;have V:∀y∈s.N,y.id≠x.id:=λy f e' => by
  rw[sc.2 ⟨y,f,e'.trans C⟩]at hn;cases hn
 have W:=xH hi.srt V;have e0:nN (tr s.N) (idE e) e.n=(vJ (tr s.N) (Vu (λy=>decide (idE e<y.1)) (tr s.N) (tr s.N).length) (idE e,e.n),0):=by
  unfold nN at r |-;split at r
  .cases r
  rename_i g1;rw[oI g1];split at r
  .cases r
  rename_i g2;rw[oI g2];split at r
  .cases r
  rename_i g3;rw[oI g3];split at r
  .cases r
  rename_i g4;rw[oI g4]
 have M:∀i:Nat,(vJ (tr s.N) i (idE e,e.n)).Perm (tr (eQ x s.N)):=λi=>by
  refine List.perm_middle.trans ?_;rw[List.take_append_drop]
  have:=((JG (x:=x) (N:=s.N)).map λy:ND=>(y.id,y.par)).symm
  rw[jK,C,Y]at this;exact this
 refine ao (goK func301) (Iw ?_);refine ax (λy=>LV y z q e/\blk y b 32 [u6 (idE e)]/\PM y q s) ⟨g.drew,R.drew,h.drew⟩ ?_;refine ac (λy f _=>lK (v:=pB q.p) f.1.l rfl) (ac (λy f _=>au) (ac (λy f _=>Bw) ?_));refine ac (λy f _=>lK (v:=pB q.t) f.2.2.b (by rw[oK];exact f.2.2.c18)) <|ac (λy f _=>lK (v:=u6 (idE e)) f.2.1 rfl) ?_
 refine ac (λy f _=>qo) (ac (λy f _=>lK (v:=u6 e.n) f.1.e rfl) ?_);refine UI ak h.drew.tm (by rw[Wc];omega) λw1 t1 H=>?_;have g1:LV w1 z q e:=g.drew.ch H (by simp;omega);have i1:=R.drew.ch H (by simp;omega);have k1:=af.drew.ch H (by simp;omega);have b1:=h.drew.b.ch H (by simp[LN.pd m]);obtain⟨m1,p1,e1⟩:=h.pm;obtain⟨m2,p2,e2⟩:=h.rm
 have p1:MB u6 u6 w1 q.pm m1:=(p1.kept rfl:MB u6 u6 w.drew q.pm m1).ch H (by simp[LN.md m]);have p2:MB u6 rgV w1 q.rm m2:=(p2.kept rfl:MB u6 rgV w.drew q.rm m2).ch H (by simp[LN.rd m])
 -- parent
 refine ax (λy=>LV y z q e/\blk y b 32 [u6 (idE e)]/\blk y q.p 141 (plC q s)) ⟨g1.drew,i1.drew,b1.drew⟩ ?_;refine ac (λy f _=>lK (v:=pB q.p) f.1.l rfl) (ac (λy f _=>au) (ac (λy f _=>RG) ?_));refine ac (λy f _=>lK (v:=.map (some q.pm)) f.2.2 (by rw[oK];exact h.c19)) <|ac (λy f _=>lK (v:=u6 (idE e)) f.2.1 rfl) ?_
 refine ac (λy f _=>qo) (ac (λy f _=>lK (v:=u6 e.n) f.1.e rfl) ?_);refine vK u6K underlying135 (p1.kept rfl:MB u6 u6 w1.drew q.pm m1) λw2 Z B=>?_;have g2:=(g1.drew.oth B oo).drew;have i2:=(B.blk i1.drew oo).drew;have k2:=(B.blk k1.drew oo).drew;have b2:=(B.blk b1.drew (LN.pm m)).drew
 -- own
 refine ah (λ_=>lK (v:=pB q.p) g2.l rfl) (ah (λ_=>lK (v:=iv (e.q:Nat)) k2 rfl) ?_);refine ah (λ_=>au) (ah (λ_=>RH) (ah (λ_=>ixO rfl E) ?_));refine ah (λK d=>lK (v:=iv ((jx s.N ((e.q:Nat)+1):Nat):Int)) b2 (by rw[oK];exact h.cO E) d) ?_;have aq:=hi.own ((e.q:Nat)+1);refine ah (v:=iv (((jx s.N ((e.q:Nat)+1):Nat):Int)+1)) (λ_=>aY oo oo) ?_
 refine ah (λ_=>au) (ah (λ_=>RH) (ah (λ_=>ixO rfl E) ?_));refine dw kf b2 (by rw[h.len];omega) rfl λw3 b3 u=>?_;have L:((jx s.N ((e.q:Nat)+1):Nat):Int)+1=((jx (eQ x s.N) ((e.q:Nat)+1):Nat):Int):=by
  rw[N8,C,show idE e / M40=e.o from zB oo U.2.2.2,oJ ho];push_cast;rfl
 rw[L,oK,h.sO E (N:=eQ x s.N) (λj a b=>by
  rw[N8,C,show idE e / M40=e.o from zB oo U.2.2.2,oI oo];rfl)]at b3
 have g3:=g2.oth u oo;have i3:=u.blk i2 oo;have k3:=u.blk k2 oo
 -- the rights
 refine FI (cE (vs:=z54.map iv) kr (CE λw4 r4 ab s4=>AO rfl rfl r4 λw5 r5 o5=>?_));have av:=g3.e.lt;have aA:∀k∈q.l,k<w3.heap.size:=λk hk=>by have:=hq k hk;omega
 have D:Ch [w3.heap.size] w3 w5:=(Ch.of_below ab:Ch [w3.heap.size] w3 w4).trans (Ch.of_oth o5 oB:Ch [w3.heap.size] w4 w5) (λx J=>.inl J);have g5:=g3.ch D (by simp;omega);have i5:=i3.ch D (by have:=i3.lt;simp;omega);have k5:=k3.ch D (by have:=k3.lt;simp;omega);have b5:=b3.ch D (by simp;omega)
 refine lK (v:=iv (e.q:Nat)) k5 rfl (tf (lK (v:=iv e.a) g5.e rfl (Mx (ixR rfl E (dw kf r5 (by simp[z54];omega) rfl λw6 r6 o6=>?_)))));have r6:blk w6 w3.heap.size 56 (x.A.map iv):=by
  rw[oK]at r6;rw[X, <-Hr];exact r6
 have g6:=g5.oth o6 oo;have i6:=o6.blk i5 (by have:=i3.lt;omega);have b6:=o6.blk b5 oo;have P:Ch [w3.heap.size] w3 w6:=D.trans (Ch.of_oth o6 oB:Ch [w3.heap.size] w5 w6) (λx J=>.inl J)
 have an:MB u6 rgV w6 q.rm m2:=(((p2.kept rfl:MB u6 rgV w1.drew q.rm m2).oth B (LN.rm m):MB u6 rgV w2 q.rm m2).oth ⟨u.os,u.tape,u.output,u.size,u.other⟩ (LN.rp m):MB u6 rgV w3 q.rm m2).ch P (by simp;omega);have al:x.A.length=54:=by rw[X];simp[z54]
 have ae:(plC q {s with N:=eQ x s.N})[20]? = some (.map (some q.rm)):=by
  have h':PM w q {s with N:=s.N}:=h;unfold plC;rw[show 20=6+(6+(6+2))by omega,fh (by simp[h.i6]),fh (by simp[h.l6]),fh (by rw[bE,h.v6])];rfl
 refine ax (λy=>LV y z q e/\blk y b 32 [u6 (idE e)]/\blk y q.p 141 (plC q {s with N:=eQ x s.N})/\blk y w3.heap.size 56 (x.A.map iv)) ⟨g6.drew,i6.drew,b6.drew,r6.drew⟩ ?_;refine ac (λy f _=>lK (v:=pB q.p) f.1.l rfl) (ac (λy f _=>au) (ac (λy f _=>wR) ?_))
 refine ac (λy f _=>lK (v:=.map (some q.rm)) f.2.2.1 (by rw[oK];exact ae)) <|ac (λy f _=>lK (v:=u6 (idE e)) f.2.1 rfl) <|ac (λy f _=>uP al f.2.2.2) ?_;refine vK (v:=x.A) u6K underlying136 (an.kept rfl:MB u6 rgV w6.drew q.rm m2) λw7 aa O=>?_
 have I:Ch [w3.heap.size,q.rm] w3 w7:=(P.mono oB).trans (Ch.of_oth (F:=[q.rm]) ⟨O.os,O.tape,O.output,O.size,O.other⟩ oB) oB
 -- what is elsewhere
 have ce:Ch q.wv w w7:=by
  have a1:Ch q.wv w w1:=((Ch.of_below (jT _ w).drew:Ch q.wv w w.drew).trans H (by simp[LB.wv]))
  have a2:Ch q.wv w w2:=a1.trans (Ch.of_oth (F:=[q.pm]) ⟨B.os,B.tape,B.output,B.size,B.other⟩ oB) (by simp[LB.wv]);have a3:Ch q.wv w w3:=a2.trans (Ch.of_oth (F:=[q.p]) ⟨u.os,u.tape,u.output,u.size,u.other⟩ oB) (by simp[LB.wv]);exact a3.trans I (by
   have:=a3.size
   intro y f;simp only[oO,oR,or_false]at f;rcases f with rfl|rfl
   .exact .inr this
   .exact .inl (by simp[LB.wv]))
 have G:∀k,k<w.heap.size->k≠q.tp->k≠q.pm->k≠q.p->k≠q.rm->w7.heap[k]? = w.heap[k]? := λk hk n1 n2 n3 n4=>by
  have s1:=H.size;have s1:w.heap.size<=w1.heap.size:=s1;have s2:w2.heap.size=w1.heap.size:=B.size;have s3:w3.heap.size=w2.heap.size:=u.size;rw[I.block k oo (by simp;omega),u.other k n3];show w2.heap[k]? = _;rw[B.other k n2];show w1.heap[k]? = _;rw[H.block k hk (by simp;omega)];rfl
 have az:w1.heap.size=w3.heap.size:=by rw[u.size];show _=w2.heap.size;rw[B.size];rfl
 have ag:=h.lt;simp only[LB.l,oO,oR,or_false,forall_eq_or_imp,forall_eq]at ag;have mv:∀k,k≠q.pm->k≠q.p->k≠q.rm->k<w1.heap.size->w7.heap[k]? = w1.heap[k]? := λk n2 n3 n4 hk=>by
  rw[I.block k oo (by simp;omega),u.other k n3];show w2.heap[k]? = _;rw[B.other k n2];rfl
 obtain⟨mt,pt,et⟩:=t1.mp;have aj:TreeM w7 q.t q.tp (tr (eQ x s.N)):=by
  refine⟨?_,⟨mt,pt.kept (mv _ (LN.dm m) (LN.dp m) (LN.dr m) pt.lt),et.trans (by rw[e0];exact M _)⟩,Nm W⟩
  have:=t1.bt
  unfold blk at this |-;rw[mv _ (LN.tm m) (LN.tp m) (LN.tr m) t1.bt.lt];exact this
 have S:dZ m1 (idE e)=none:=by
  rw[pQ e1 (Nm hi.srt),Lw (Nm hi.srt),mR,hn]
 have T:dZ m2 (idE e)=none:=by
  rw[pQ e2 (IM hi.srt),Qn,hn]
 rw[yN S]at Z;rw[yN T]at aa;refine d w7 ⟨h.i6,h.l6,h.v6,?_,aj,⟨_,Z.kept ?_,?_⟩,⟨_,aa,?_⟩,?_,?_,h.nd,?_⟩ ce
 .exact O.blk b6.drew (LN.pr m)
 .have ai:q.pm<w3.heap.size:=by omega
  rw[I.block q.pm ai (by simp[LN.mr m];omega),u.other _ (LN.mp m)];rfl
 .refine(List.perm_append_singleton _ _).trans ((e1.cons _).trans ?_)
  have:=((JG (x:=x) (N:=s.N)).map λy:ND=>(y.id,y.par)).symm
  rw[jK,C,Y]at this;exact this
 .refine(List.perm_append_singleton _ _).trans ((e2.cons _).trans ?_)
  have:=((JG (x:=x) (N:=s.N)).map λy:ND=>(y.id,y.A)).symm
  rw[jK,C]at this;exact this
 .obtain⟨m3,p3,e3⟩:=h.gm;exact⟨m3,p3.kept (G _ p3.lt (LN.gd m) (LN.gm m) (LN.gp m) (LN.gr m)),e3⟩
 .obtain⟨m4,p4,e4⟩:=h.am;exact⟨m4,p4.kept (G _ p4.lt (LN.ad m) (LN.am m) (LN.ap m) (LN.ar m)),e4⟩
 .exact h.kd.keep (G _ h.kd.lt (LN.zd m) (LN.zm m) (LN.zp m) (LN.zr m))
end
end
end
end Go.Proofs.YtgohpbmmcgenpaaGreatDoor
