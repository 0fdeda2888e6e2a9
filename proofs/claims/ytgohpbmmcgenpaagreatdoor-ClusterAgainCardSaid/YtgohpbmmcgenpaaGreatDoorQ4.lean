import Derived.Test.YtgohpbmmcgenpaaGreatDoorQ1
import Derived.Test.YtgohpbmmcgenpaaGreatDoorQ2
import Derived.Test.YtgohpbmmcgenpaaGreatDoorQ3
import Derived.DeepKeys
import Derived.Test.YtgohpbmmcgenpaaGreatDoorChecked
namespace Go.Proofs.YtgohpbmmcgenpaaGreatDoor
set_option maxRecDepth 100000
set_option linter.defProp false
set_option maxHeartbeats 4000000
open Go.Proofs.Tryz
open Go.RowKit
variable {w w' w0 w2 S O:oG}{zf:Nat->oF}{b c o i g m s j z f d c2 D B' hi:Nat}{a av a2:Option Addr}{x v r N:Int}{E t e:TypeId}{A:List Int}{B1:KE}{xs ys vs:oE}{P:Program}{cx cy:Bool}{α:Type}{T:List (Int×Int)}{k':IntKind}{Z1 N2 O2 P2 Q2 H Z U Y J C:oF}
section
attribute [local irreducible] bin un conv call bS blt slc aq fld bv idx lkp fJ nl eSt rng nxt ent ext alc box bld cH ld sto bj fK mkS ifc pick rdy wts aT sti cond bA Gives aj iK kH cOp
section
variable  {K:KV}
def Z8{n:Nat}{l:List Int}(q:RV w a n c (l.map iv))(E:n<=1000)(h:K (.tuple #[iv (pk l).1,.bool (pk l).2]) w):call Q 243 #[.slice a n c] K w:=by
 have D:l.length=n:=by simpa using q.len
 refine ao (goK func243) (Xi ?_);refine bM underlying346 <|UD (Inv:=λs i A=>∃j:Nat,s=iv (l.take j).sum/\i=ci (j:Nat)/\j<=n/\A=w/\(l.take j).all okA=true) (μ:=λ_ i _=>n-(intOf i).toNat) ⟨0,by simp[iv],rfl,by omega,rfl,by simp⟩ ?_;rintro _ _ B _ m ⟨j,rfl,rfl,C,rfl,b⟩ y;by_cases x:j<n
 ·(repeat (first|refine aW ?_|refine aG oo ?_))
  have z:(l.map iv)[j]? = some (iv (nA l j)):=by
   simp[nA,List.getD,gE (show j<l.length by omega)]
  refine Ll underlying346 kf oo oo q.some_ ?_;rw[oQ];refine ux kf (q.cell _ _ z) ?_;have v:nA l j=l[j]:=by simp[nA,List.getD,show j<l.length by omega]
  have d:l.all okA=true->okA (nA l j)=true:=λh=>by rw[v];exact jR.1 h _ (List.getElem_mem _)
  have e:okA (nA l j)=false->pk l=(0,false):=λt=>by
   unfold pk;cases g:l.all okA with
   | false=>rfl
   | true=>rw[d g]at t;cases t
  have u:l.take (j+1)=l.take j++[nA l j]:=by rw[v,List.take_append_getElem oo]
  unfold iv;refine aW ?_;by_cases o:nA l j<0
  .refine kW o <|bR o <|bc ?_
   have:okA (nA l j)=false:=by
    cases g:okA (nA l j)with
    | false=>rfl
    | true=>have:=sZ.1 g;omega
   rw[e this]at h;exact h
  .refine dL o <|dE <|bG o ?_;by_cases r:nA l j>1125899906842624
   .refine aG r ?_
    have:okA (nA l j)=false:=by
     cases g:okA (nA l j)with
     | false=>rfl
     | true=>have:=sZ.1 g;simp only[MXA]at this;omega
    rw[e this]at h;exact h
   .refine aB r ?_;have p:okA (nA l j)=true:=sZ.2 ⟨by omega,by simp only[MXA];omega⟩;have k:=Nl b;have f:(l.take j).length=j:=by rw[qA];omega
    rw[f]at k;simp only[MXA]at k;refine aY oo oo <|aY oo oo ?_;refine⟨⟨j+1,?_,by simp,by omega,rfl,?_⟩,?_⟩
    .rw[u];simp[iv]
    .rw[u,List.all_append,b];simp[p]
    .rw[y];simp[intOf];omega
 .obtain rfl:j=n:=by omega
  (repeat (first|refine UE ?_|refine aW ?_|refine aB oo ?_))
  rw[tL oo]at b |-;unfold pk at h;rw[b]at h;exact h
abbrev OI(w:oG)(B p n c:Nat)(l:List Int):Prop:=OV w B 2 (some ⟨p,0,none⟩) n c (l.map iv)
def OI.lt{B p n:Nat}{l:List Int}(h:OI w B p n c l):B<=p/\p<w.heap.size:=OV.block h p rfl
def OI.keep{B p n:Nat}{l:List Int}(h:OI w B p n c l)(a:S.heap[p]? = w.heap[p]?):OI S B p n c l:=dl h λk e=>by cases e;exact a
def bl1(h:∀S,blk S w.heap.size 2 [iv x]->Below w.heap.size w S->S.heap.size=w.heap.size+1->K (.slice (some ⟨w.heap.size,0,none⟩) 1 1) S):cH Q 346 1 #[(0,iv x)] K w :=
 qb (vs:=[iv x]) underlying346 (s:=1) kr kr oo rfl oB oB oB (by simp[Value.cells,iv]) λS a b s=>h S (by simpa[iv,Value.cells]using a) b s
def bl2{y:Int}(h:∀S,blk S w.heap.size 2 [iv x,iv y]->Below w.heap.size w S->S.heap.size=w.heap.size+1->K (.slice (some ⟨w.heap.size,0,none⟩) 2 2) S):cH Q 346 2 #[(0,iv x),(1,iv y)] K w :=
 qb (vs:=[iv x,iv y]) underlying346 (s:=1) kr kr oo rfl oB oB oB (by simp[Value.cells,iv]) λS a b s=>h S (by simpa[iv,Value.cells]using a) b s
def zea:(Tryz.prog.info? 2).map (λi=>(i.zero,i.size,i.bytes))=some (some (ci 0),1,8):=by kernel_rfl
def ap1{cs:Array Bool}{B p n:Nat}{l:List Int}(z:OI w B p n c l)(G:blk w g 2 [iv x])(y:B<=w.heap.size)(M:n<=1000)(h:∀a c' S,OI S B a (n+1) c' (l++[x])->(a=p\/a=w.heap.size)->(∀k,k<w.heap.size->k≠p->S.heap[k]? = w.heap[k]?)->Below B w S->K (.slice (some ⟨a,0,none⟩) (n+1) c') S):blt Q .append #[346,346] E cs #[.slice (some ⟨p,0,none⟩) n c,.slice (some ⟨g,0,none⟩) 1 1] K w:=by
 obtain⟨i,H,J,t,j⟩:=info_parts zea;refine zhg (base:=B) (s:=1) (m:=1) (ys:=[iv x]) underlying346 H J t j rfl oo z G rfl (by simp[iv,Value.oneCell']) oo oo y ?_;intro v c' S d b f;have F:Below B w S:=cS b y (λk o=>by cases o;exact z.lt.1)
 have r:∀k,k<w.heap.size->k≠p->S.heap[k]? = w.heap[k]? := λk o q=>b.block k o λe=>q (by cases e;rfl);have I:∀a,v=some ⟨a,0,none⟩->K (.slice v (n+1) c') S:=by
  rintro a rfl;refine h a c' S (by simpa[OV]using d) ?_ r F;rcases f with e|e
  .cases e;exact .inl rfl
  .cases e;exact .inr rfl
 rcases d.2 with⟨u,L⟩|⟨D,A,C,u,_⟩
 .omega
 .simp only[Value.slice.injEq]at u;exact I D u.1
end
structure RtA(w:oG) (b o:Nat) (E:TypeId) (cs:oE) (A:List Int):Prop where
 bk:blk w b E cs
 cut:(cs.drop o).take 54=A.map iv
 len:A.length=54
def RtA.get{cs:oE}(h:RtA w b o E cs A)(hi:i<54):cs[o+i]? = some (iv (nA A i)):=by
 have a:((cs.drop o).take 54)[i]? = (A.map iv)[i]? := by rw[h.cut]
 rw[jN hi,jM]at a;rw[a]
 have:=h.len
 simp[nA,List.getD,show i<A.length by omega]
def RtA.below{B:Nat}{cs:oE}(h:RtA w b o E cs A)(c:Below B w S)(a:b<B):RtA S b o E cs A:=⟨ae c h.bk a,h.cut,h.len⟩
section
variable  {K:KV}
def zcy(A:List Int)(k j:Nat):xd A k (j+1)=xd A k j++[nA A (18+6*k+j)]:=by simp[xd,List.range_succ]
def ze6(A:List Int)(k j:Nat):inL A k (j+1)=inL A k j++[nA A (18+6*j+k)]:=by simp[inL,List.range_succ]
def zeE(A:List Int)(k j:Nat):(xd A k j).length=1+j:=by simp[xd];omega
def zg6(A:List Int)(k j:Nat):(inL A k j).length=2+j:=by simp[inL];omega
def Two(w:oG)(B p n c q m d:Nat)(l r:List Int):Prop:=p≠q/\OI w B p n c l/\OI w B q m d r
def Two.bel{B p n q:Nat}{l r:List Int}(h:Two w B p n c q m d l r)(a:Below w.heap.size w S):Two S B p n c q m d l r :=
 ⟨h.1,h.2.1.keep (a.block _ h.2.1.lt.2),h.2.2.keep (a.block _ h.2.2.lt.2)⟩
def apL{cs:Array Bool}{B p n q:Nat}{l r:List Int}(i:Two w B p n c q m d l r)(s:blk w g 2 [iv x])(j:B<=w.heap.size)(u:n<=1000)(h:∀a c' S,Two S B a (n+1) c' q m d (l++[x]) r->(∀k,k<w.heap.size->k≠p->S.heap[k]? = w.heap[k]?)->Below B w S->K (.slice (some ⟨a,0,none⟩) (n+1) c') S):blt Q .append #[346,346] E cs #[.slice (some ⟨p,0,none⟩) n c,.slice (some ⟨g,0,none⟩) 1 1] K w:=by
 obtain⟨b,t,e⟩:=i;refine ap1 t s j u λa c' S v y f o=>h a c' S ⟨?_,v,e.keep (f q e.lt.2 (Ne.symm b))⟩ f o
 have:=e.lt
 rcases y with rfl|rfl<;>omega
def apR{cs:Array Bool}{B p n q:Nat}{l r:List Int}(j:Two w B p n c q m d l r)(t:blk w g 2 [iv x])(o:B<=w.heap.size)(u:m<=1000)(h:∀b a S,Two S B p n c b (m+1) a l (r++[x])->(∀k,k<w.heap.size->k≠q->S.heap[k]? = w.heap[k]?)->Below B w S->K (.slice (some ⟨b,0,none⟩) (m+1) a) S):blt Q .append #[346,346] E cs #[.slice (some ⟨q,0,none⟩) m d,.slice (some ⟨g,0,none⟩) 1 1] K w:=by
 obtain⟨f,e,z⟩:=j;refine ap1 z t o u λb a S v y i s=>h b a S ⟨?_,e.keep (i p e.lt.2 f),v⟩ i s
 have:=e.lt
 rcases y with rfl|rfl<;>omega
def Ud{k B p q:Nat}{cs:oE}(hA:RtA w b o E cs A)(u:b<B)(hB:B<=w.heap.size)(hk:k<6)(h2:Two w B p 1 1 q 2 2 (xd A k 0) (inL A k 0))(h:∀w',Below B w w'->K (.tuple #[iv (uc A k).1,.bool (uc A k).2]) w')(e0:Z1=pA b o)(e1:N2=ci (k:Nat))(e2:O2=.slice (some ⟨p,0,none⟩) 1 1)(e3:P2=.slice (some ⟨q,0,none⟩) 2 2)(e4:Q2=ci 0):rT K ((yh Z1 N2 O2 P2 Q2 zf)) w:=by
 subst e0 e1 e2 e3 e4;refine QX (Inv:=λa c i b=>∃(j p q H I:Nat),j<=6/\a=.slice (some ⟨p,0,none⟩) (1+j) H/\c=.slice (some ⟨q,0,none⟩) (2+j) I/\i=ci (j:Nat)/\Two b B p (1+j) H q (2+j) I (xd A k j) (inL A k j)/\Below B w b)
  (μ:=λ_ _ i _=>6-(intOf i).toNat) ⟨0,p,q,1,2,by omega,rfl,rfl,rfl,h2,jT _ _⟩ ?_
 rintro _ _ _ dd g m ⟨j,p1,q1,H,I,hj,rfl,rfl,rfl,ht,t⟩ hm;have e:RtA g b o E cs A:=hA.below t u;have ab:B<=g.heap.size:=qR hB t.size;refine aW ?_;by_cases ag:j<6
 .refine aG oo ?_;have J:∀{W X S T:Nat} {G:oG},Two G B W (1+j+1) S X (2+j+1) T (xd A k j++[nA A (18+6*k+j)]) (inL A k j++[nA A (18+6*j+k)])->Below B g G ->
    (∃(D p q H I:Nat),D<=6/\Value.slice (some ⟨W,0,none⟩) (1+j+1) S=.slice (some ⟨p,0,none⟩) (1+D) H/\Value.slice (some ⟨X,0,none⟩) (2+j+1) T=.slice (some ⟨q,0,none⟩) (2+D) I/\Value.int .i64 ((j:Int)+1)=ci (D:Nat)/\Two G B p (1+D) H q (2+D) I (xd A k D) (inL A k D)/\Below B w G) /\
     6-(intOf (ci ((j:Int)+1))).toNat<m:=by
   intro W X S T G af ad;refine⟨⟨j+1,W,X,S,T,by omega,rfl,rfl,by simp,?_,t.trans ad⟩,by rw[hm];simp[intOf];omega⟩;rw[zcy,ze6];exact af
  have F:∀{wa wb:oG},B<=wa.heap.size->Below wa.heap.size wa wb->Below B wa wb:=λh hb=>hb.mono h
  refine ax (λx=>RtA x b o E cs A) ⟨e.bk.drew,e.cut,e.len⟩ <|ac (λx f _=>au) <|ac (λx f _=>aQ (off:=18) kr) <|ac (λx f _=>fB underlying54 (s:=6) kf oo oo) <|ac (λx f _=>fB underlying53 (s:=1) kf oo oo) <|ac (v:=iv (nA A (18+6*k+j))) (λx f _=>lK f.bk (by rw[<-f.get (i:=18+6*k+j) oo];congr 1;simp;omega)) <|ac (λx f _=>au) <|ac (λx f _=>aQ (off:=18) kr) <|ac (λx f _=>fB underlying54 (s:=6) kf oo oo) <|ac (λx f _=>fB underlying53 (s:=1) kf oo oo) <|ac (v:=iv (nA A (18+6*j+k))) (λx f _=>lK f.bk (by rw[<-f.get (i:=18+6*j+k) oo];congr 1;simp;omega)) ?_
  have N:Two g.drew B p1 (1+j) H q1 (2+j) I (xd A k j) (inL A k j):=ht;have r:B<=g.drew.heap.size:=ab;have M:RtA g.drew b o E cs A:=⟨e.bk.drew,e.cut,e.len⟩
  have b0:Below B g g.drew:=(jT B g).drew;generalize g.drew=G at *;refine⟨?_,?_⟩
  .refine bl1 λY U z s3=>?_;have P:=N.bel z;have B3:B<=Y.heap.size:=by omega
   have y:=b0.trans (F r z);refine aI (M.below (F r z) u) ?_;refine⟨?_,?_⟩
   .refine apL P U B3 oo λp4 c4 w4 t4 k4 n=>?_;refine aI ((M.below (F r z) u).below n u) ?_;refine bl1 λZ g5 C s5=>?_;have B4:=qR B3 n.size;refine ax (λ_=>True) trivial ?_;refine apR (t4.bel C) g5 oo oo λq6 d6 w6 R k6 O=>?_;refine ax (λ_=>True) trivial <|aY oo oo ?_
    exact J R (((y.trans n).trans (F B4 C)).trans O)
   .refine bl1 λw4 g4 n s4=>?_;refine ax (λ_=>True) trivial ?_;have L:blk w4 G.heap.size 2 [iv (nA A (18+6*k+j))]:=ae n U oo;refine apL (P.bel n) L oo oo λp5 c5 Z t5 k5 C=>?_;refine ax (λ_=>True) trivial ?_;have aa:blk Z Y.heap.size 2 [iv (nA A (18+6*j+k))]:=by
     unfold blk;rw[k5 _ oo (by have:=P.2.1.lt;omega)];exact g4
    refine apR t5 aa (by have:=C.size;omega) oo λq6 d6 w6 R k6 O=>?_;exact ax (λ_=>True) trivial <|aY oo oo (J R (((y.trans (F B3 n)).trans C).trans O))
  .refine bl1 λY U z s3=>?_;have P:=N.bel z;have B3:B<=Y.heap.size:=by omega
   have y:=b0.trans (F r z);refine aI (M.below (F r z) u) ?_;refine bl1 λw4 g4 n s4=>?_;refine ax (λ_=>True) trivial ?_;refine apL (P.bel n) g4 oo oo λp5 c5 Z t5 k5 C=>?_;refine ax (λ_=>True) trivial ?_;have L:blk Z G.heap.size 2 [iv (nA A (18+6*j+k))]:=by
    unfold blk;rw[k5 _ oo (by have:=N.2.1.lt;omega)];exact ae n U oo
   refine apR t5 L (by have:=C.size;omega) oo λq6 d6 w6 R k6 O=>?_;exact ax (λ_=>True) trivial <|aY oo oo (J R (((y.trans (F B3 n)).trans C).trans O))
 .obtain rfl:j=6:=by omega
  refine aB oo <|QY <|Z8 ht.2.1.rv oo <|bK <|bJ <|Z8 ht.2.2.rv oo <|bK <|bJ ?_;have bd:∀l:List Int,l.length<=8->0<=(pk l).1/\(pk l).1<=9007199254740992:=by
   intro l hl;unfold pk;cases V:l.all okA with
   | false=>simp
   | true =>
    have:=Nl V
    simp only[MXA]at this;simp only;omega
  have h1:=bd (xd A k 6) (by rw[zeE];omega);have h3:=bd (inL A k 6) (by rw[zg6];omega);unfold iv at *;refine co oo oo ?_;have hl:uc A k=((pk (inL A k 6)).1-(pk (xd A k 6)).1,(pk (xd A k 6)).2&&(pk (inL A k 6)).2):=rfl;cases V:(pk (xd A k 6)).2 with
  | true =>
   refine my <|dD ?_;rw[hl,V]at h;exact h g t
  | false =>
   refine js <|cA ?_;rw[hl,V]at h;exact h g t
def zah{k:Nat}{cs:oE}(d:RtA w b o E cs A)(z:k<6)(h:∀S,Below w.heap.size w S->K (.tuple #[iv (uc A k).1,.bool (uc A k).2]) S):call Q 222 #[pA b o,ci (k:Nat)] K w:=by
 have e:=d.bk.lt;refine ao (goK func222) (UC ?_)
 refine ax (λx=>RtA x b o E cs A) ⟨d.bk.drew,d.cut,d.len⟩ <|ac (λx c _=>au) <|ac (λx c _=>aQ (off:=6) kr) <|ac (λx c _=>fB underlying53 (s:=1) kf oo oo) <|ac (v:=iv (nA A (6+k))) (λx c _=>lK c.bk (by rw[<-c.get (i:=6+k) oo];congr 1;simp;omega)) <|ac (λx c _=>au) <|ac (λx c _=>aQ (off:=0) kr) <|ac (λx c _=>fB underlying53 (s:=1) kf oo oo) <|ac (v:=iv (nA A k)) (λx c _=>lK c.bk (by rw[<-c.get (i:=k) oo];congr 1;simp)) <|ac (λx c _=>au) <|ac (λx c _=>aQ (off:=12) kr) <|ac (λx c _=>fB underlying53 (s:=1) kf oo oo) <|ac (v:=iv (nA A (12+k))) (λx c _=>lK c.bk (by rw[<-c.get (i:=12+k) oo];congr 1;simp;omega)) ?_
 have j:RtA w.drew b o E cs A:=⟨d.bk.drew,d.cut,d.len⟩
 have m:Below w.heap.size w w.drew:=(jT _ w).drew;have L:w.drew.heap.size=w.heap.size:=rfl;generalize w.drew=O at *;have l:∀{p q:Nat} {y:oG},p≠q->blk y p 2 [iv (nA A (6+k))]->blk y q 2 [iv (nA A k),iv (nA A (12+k))]->w.heap.size<=p->w.heap.size<=q->Two y w.heap.size p 1 1 q 2 2 (xd A k 0) (inL A k 0) :=
  λu D F B C=>⟨u,zcz D rfl B (by simp[maxLen]),zcz F rfl C (by simp[maxLen])⟩
 refine⟨?_,?_⟩
 .refine bl1 λI n f G=>?_;refine aI (j.below f oo) ?_;refine bl2 λJ r g H=>?_;refine aI ((j.below f oo).below g oo) ?_;refine Ud ((d.below m e).below (f.trans (g.mono oo)) oo) e oo z (l oo (ae g n oo) r oo oo) (λS t=>h S ?_) rfl rfl rfl rfl rfl
  exact((m.trans (f.mono oo)).trans (g.mono oo)).trans t
 .refine bl2 λI n f G=>?_;refine aI (j.below f oo) ?_;refine bl1 λJ r g H=>?_;refine ax (λ_=>True) trivial ?_;refine Ud ((d.below m e).below (f.trans (g.mono oo)) oo) e oo z (l oo r (ae g n oo) oo oo) (λS t=>h S ?_) rfl rfl rfl rfl rfl
  exact((m.trans (f.mono oo)).trans (g.mono oo)).trans t
end
def SN{K:KV}(h:bT .geq 3 H (ci 1) (λb w=>aT b true (λb=>bT .leq 3 H (ci 6) (λa=>b [H,a]) w) (λk=>k [uu,uu] w) λa=>pick b (gd a 1) cF K) w):Gives Q 220 #[H] w K:=aw func220 kr (mpK h)
def NE(r1 t8:oF)(zf:oD):=zf 0::r1::zT zf 2 6 (t8::zT zf 9 45 ([]))
def NF(r1:oF)(zf:oD):=zf 0::r1::zT zf 2 52 ([])
def pS(K:KV):KE:=kZ f221 [1,1] K
def Bq(K:KV):KE:=aj Q (cd f221 [1,0,1,0]) (pS K) (xx xf (pS K) 0) (rk f221 K)
section
variable {K:KV}{r1 t8:oF}  
def Xh{K:KV}(h:box Q 56 H (λa=>Bq K (NE a (ci 0) (zV (zV zu 0 [H]) 2 [cF]))) w):Gives Q 221 #[H] w K:=aw func221 kr (mpK h)
def UA(Inv:oF->oG->Prop)(μ:oF->oG->Nat)(q:Inv t8 w)(s:∀(a:oF) (p:oD) (w:oG) (m:Nat),Inv a w->m=μ a w ->
  bT .lss 3 a (ci 6) (λb w=>cond b (call Q 222 #[r1,a] (λb=>ext Q b 0 λc=>ext Q b 1 λb w=>sti (un Q .not b) (λb w=>aT b false (λg=>sti (bT .lss 2 c (ci 0)) (λa=>g [c,a]) w) (λk=>k [uu,uu] w) λc=>sti (pick b cT (gd c 1)) λb w=>aT b false (λi=>sF 56 r1 2 (λb=>sI 53 b a λc=>sL 2 c λd=>sF 56 r1 1 λe=>sI 53 e a λf=>sL 2 f λg=>sti (bF .gtr 2 d g) λl=>i [a,b,c,d,a,e,f,g,l]) w) (λk=>k [uu,uu,uu,uu,uu,uu,uu,uu,uu] w) λd=>sti (pick b cT (gd d 8)) λb w=>aT b false (λj=>sF 56 r1 3 (λc=>sI 54 c a λd=>sI 53 d a λe=>sL 2 e λb=>sti (bT .neq 2 b (ci 0)) λf=>j [a,a,c,d,e,b,f]) w) (λk=>k [uu,uu,uu,uu,uu,uu,uu] w) λe=>sti (pick b cT (gd e 6)) λb w=>cond b (K cF w) (nC a (λa w=>(Inv a w)/\((μ a w)<m)) w)) w.drew) w) (pS K (NF r1 (zV p 8 [a,b])) w)) w):Bq K (NE r1 t8 zf) w:=by refine aZ (cd f221 (b1 52)) (zr [(2,4),(8,35)]) kr (vP [8] Inv) (vQ [8] μ) q ?_;intro o t r;have h:=s _ (zM zf (gd o) (zr [(2,4),(8,35)])) t _ r rfl;revert h;generalize (pS K)=qc0;exact mpF
def UB(h:aq Q 56 r1 0 (λf=>slc Q 53 f none none none λg=>call Q 243 #[g] λa=>ext Q a 0 λb=>ext Q a 1 λc w=>aT c true (λe=>bT .leq 2 b (ci 1125899906842624) (λa=>e [b,a]) w) (λk=>k [uu,uu] w) λd=>pick c (gd d 1) cF K) w):pS K (NF r1 zf) w:=mpK h
end
attribute [irreducible] pS Bq
def Uz{K:KV}(h:box Q 56 Z (λc=>call Q 220 #[H] λa=>un Q .not a λb w=>aT b false (λb=>ld Q 56 c (λa=>call Q 221 #[a] λc=>un Q .not c λd=>b [a,c,d]) w) (λk=>k [uu,uu,uu] w) λa=>pick b cT (gd a 2) λa w=>cond a (K (ci 0) w) (bT .sub 3 H (ci 1) (λa=>call Q 222 #[c,a] λa=>ext Q a 0 λb=>ext Q a 1 λ_=>K b) w)) w):Gives Q 202 #[Z,H] w K:=aw func202 kr (mpK h)
def okM(A:List Int)(k:Nat):Bool:=(uc A k).2&&decide (0<=(uc A k).1)&&decide (nA A (12+k)<=nA A (6+k))&&decide (nA A (18+6*k+k)=0)
theorem zai(A:List Int):FM A=((List.range 6).all (okM A)&&((pk (gL A)).2&&decide ((pk (gL A)).1<=MXA))):=rfl
def zep{k:Nat}(a:k<6)(h:okM A k=false):FM A=false:=by
 rw[zai]
 have:(List.range 6).all (okM A)=false:=by
  cases b:(List.range 6).all (okM A)with
  | false=>rfl
  | true=>have:=jR.1 b k (by simpa using a);rw[this]at h;cases h
 rw[this];rfl
def zco(h:∀j,j<6->okM A j=true):FM A=((pk (gL A)).2&&decide ((pk (gL A)).1<=MXA)):=by
 rw[zai]
 have:(List.range 6).all (okM A)=true:=jR.2 λk a=>h k (by simpa using a)
 rw[this];rfl
section
variable  {K:KV}
def zd3{n:Nat}(d:P.underlying t=some (.array n e))(c:∀w,(sizeOf e).run P w=.ok s w)(h:K (.slice (some ⟨b,o,none⟩) n n) w):slc P t (pA b o) none none none K w:=by unfold slc;refine eJ (w':=w) ?_ h;simp only[Instr.sliceAt,Instr.sureAddr,Instr.sliceBounds,jX,jW,jU,jY d,c];by_cases a:n=0<;>simp[a,Addr.add]
def RtA.rvG{cs:oE}(h:RtA w b 0 E cs A):RV w (some ⟨b,0,none⟩) 6 6 ((gL A).map iv) :=
 ⟨by simp[gL],Nat.le_refl _,λ_=>⟨b,0,rfl⟩,(λh=>by cases h),λi v a=>by
  have c:i<6:=by have:=(gS a).1;simpa[gL]using this
  rw[show rV (some ⟨b,0,none⟩) i=⟨b,0+i,none⟩from rfl,h.bk.cell,h.get oo];rw[<-a];simp[gL,c]⟩
def IK{i:Int}(h:K (.bool (bO i)) w):call Q 220 #[ci i] K w:=by
 refine ao (goK func220) (SN ?_);unfold bO at h;refine cJ ?_;by_cases a:i≥1
 .refine ck a <|kq <|bR a ?_;rw[show decide (1<=i)=true from qF a,qY]at h;exact h
 .refine dt a <|bG a ?_;rw[show decide (1<=i)=false from qE a,qZ]at h;exact h
def zcS(D:A.length=54)(h:∀S,Below w.heap.size w S->K (.bool (FM A)) S):call Q 221 #[.agg (A.map iv).toArray] K w:=by
 refine ao (goK func221) (Xh ?_);refine bU λg x B O=>?_;have x:=cZ x
 have G:RtA g w.heap.size 0 56 (A.map iv) A:=⟨x,by rw[oX,tL (by simp[D])],D⟩
 have n:=x.lt;refine UA (Inv:=λi M=>∃k:Nat,i=ci (k:Nat)/\k<=6/\Below g.heap.size g M/\∀j,j<k->okM A j=true)
  (μ:=λi _=>6-(intOf i).toNat) ⟨0,rfl,by omega,jT _ _,λj H=>by omega⟩ ?_
 rintro _ N L m ⟨k,rfl,I,q,d⟩ J;have e:=G.below q n;have o:=q.size;refine aW ?_;by_cases F:k<6
 .refine aG oo ?_;refine zah e F λp C=>?_;refine bK <|bJ ?_;have c:RtA p.drew w.heap.size 0 56 (A.map iv) A:=by have:=e.below C oo;exact⟨this.bk.drew,this.cut,this.len⟩
  have E:Below g.heap.size g p.drew:=(q.trans (C.mono o)).drew;have y:okM A k=false->K (.bool false) p.drew:=λf=>by
   have:=h p.drew (B.trans (E.mono oo))
   rw[zep F f]at this;exact this
  generalize p.drew=w4 at *;cases f:(uc A k).2 with
  | false =>
   refine ah (λ_=>bH) <|iQ <|ah (λ_=>dD) <|iQ <|ah (λ_=>dD) <|iQ <|ah (λ_=>dD) <|bc ?_;exact y (by unfold okM;rw[f];rfl)
  | true =>
   refine ah (λ_=>bH) <|eK ?_;unfold iv;refine ah (λ_=>aW) <|ah (λ_=>cA) ?_;by_cases r:(uc A k).1<0
   .refine kW r <|ah (λ_=>bR r) <|iQ <|ah (λ_=>dD) <|bc <|y ?_;unfold okM;rw[show decide (0<=(uc A k).1)=false from qE oo];simp
   .refine dL r <|ah (λ_=>aQ (off:=12) kr) <|ah (λ_=>fB underlying53 (s:=1) kf oo oo) <|ah (v:=iv (nA A (12+k))) (λ_=>lK c.bk (by rw[<-c.get (i:=12+k) oo];congr 1;simp)) <|ah (λ_=>aQ (off:=6) kr) <|ah (λ_=>fB underlying53 (s:=1) kf oo oo) <|ah (v:=iv (nA A (6+k))) (λ_=>lK c.bk (by rw[<-c.get (i:=6+k) oo];congr 1;simp)) ?_
    unfold iv;refine ah (λ_=>dE) <|ah (λ_=>bG r) ?_;by_cases t:nA A (6+k)<nA A (12+k)
    .refine kW t <|ah (λ_=>bR t) <|bc <|y ?_;unfold okM;rw[show decide (nA A (12+k)<=nA A (6+k))=false from qE oo];simp
    .refine dL t <|ah (λ_=>aQ (off:=18) kr) <|ah (λ_=>fB underlying54 (s:=6) kf oo oo) <|ah (λ_=>fB underlying53 (s:=1) kf oo oo) <|ah (v:=iv (nA A (18+6*k+k))) (λ_=>lK c.bk (by rw[<-c.get (i:=18+6*k+k) oo];congr 1;simp;omega)) ?_;unfold iv;refine ah (λ_=>bo) <|ah (λ_=>bG t) ?_
     by_cases u:nA A (18+6*k+k)≠0
     .refine aG u <|y ?_;unfold okM;rw[show decide (nA A (18+6*k+k)=0)=false from qE u];simp
     .refine aB u <|aY oo oo ?_;refine⟨⟨k+1,by simp,by omega,E,λj H=>?_⟩,by rw[J];simp[intOf];omega⟩;by_cases z:j=k
      .subst z;unfold okM;rw[f,qF (by omega:0<=(uc A j).1),qF (by omega:nA A (12+j)<=nA A (6+j)),qF (Classical.not_not.1 u)];rfl
      .exact d j oo
 .refine aB oo ?_;obtain rfl:k=6:=by omega
  refine UB <|aQ (off:=0) kr <|zd3 underlying53 (s:=1) kf <|Z8 (l:=gL A) e.rvG oo <|bK <|bJ ?_;have b:=h L (B.trans (q.mono oo));rw[zco d]at b;cases f:(pk (gL A)).2 with
  | false =>
   refine js <|cA ?_;rw[f]at b;exact b
  | true =>
   refine my ?_;unfold iv;refine kq <|dD ?_;rw[f]at b;exact b
def Ng{i:Int}(a:A.length=54)(h:∀S,Below w.heap.size w S->K (iv (if bO i then Kp A (i-1).toNat else 0)) S):call Q 202 #[.agg (A.map iv).toArray,ci i] K w:=by
 refine ao (goK func202) (Uz ?_);refine bU λf b d q=>?_;have b:=cZ b
 have k:RtA f w.heap.size 0 56 (A.map iv) A:=⟨b,by rw[oX,tL (by simp[a])],a⟩
 refine IK <|bH ?_;cases e:bO i with
 | false =>
  refine iQ <|dD <|bc ?_;rw[e]at h;exact h f d
 | true =>
  have p:1<=i/\i<=6:=by simpa[bO]using e
  refine eK <|ldA (n:=54) (vs:=A.map iv) underlying56 rfl kr b (by rw[oX,tL (by simp[a])]) (by simp[a]) ?_;refine zcS a λm c=>?_;refine bH <|cA ?_;rw[e,oJ rfl]at h;cases g:FM A with
  | false =>
   refine bc ?_
   have:=h m (d.trans (c.mono oo))
   unfold Kp at this;rw[g]at this;exact this
  | true =>
   refine aD <|co oo oo ?_;have l:i-1=(((i-1).toNat:Nat):Int):=by omega
   rw[l];refine zah (k.below c b.lt) oo λo j=>?_;refine bK <|bJ ?_
   have:=h o (d.trans ((c.mono oo).trans (j.mono (by have:=c.size;omega))))
   unfold Kp at this;rw[g]at this;exact this
end
end
def Hz(P:Program):List Field->Nat->Nat->Bool
 | [],o,n=>Nat.beq o n
 | f::fs,o,n=>Nat.beq f.offset o&&Hz P fs (o+P.cellsOf f.type) n
def jy (P:Program):Nat→TypeId→List Value→Bool
 | 0,_,_=>false
 | d+1,t,cs=>match P.underlying t with
  | some .bool=>(match cs with | [.bool _]=>true | _=>false)
  | some (.int q)=>(match cs with | [.int q' _]=>decide (q'=q) | _=>false)
  | some (.array n e)=>(P.info? e).isSome && (Nat.beq cs.length (n * P.cellsOf e) && (List.range n).all fun i=>jy P d e ((cs.drop (i * P.cellsOf e)).take (P.cellsOf e)))
  | some (.struct fs) => !P.stoodInHeld t && (Hz P fs.toList 0 cs.length && fs.toList.all fun f=>f.name != "_" && jy P d f.type ((cs.drop f.offset).take (P.cellsOf f.type)))
  | _=>false
def Eh(P:Program)(t:TypeId)(cs:oE):oF:=match P.underlying t with
 | some (.array _ _)=>.agg cs.toArray
 | some (.struct _)=>.agg cs.toArray
 | _=>cs.headD undef
def Rf{P:Program}:∀(fs:List Field) (o n m:Nat),Hz P fs o n=true->Hz P fs o m=true->n=m
 | [],o,n,m,h1,h2=>by
  have:=Nat.eq_of_beq_eq_true h1
  have:=Nat.eq_of_beq_eq_true h2
  omega
 | f::fs,o,n,m,h1,h2=>by
  unfold Hz at h1 h2;rw[oM]at h1 h2;exact Rf fs _ n m h1.2 h2.2
def OU{cs:oE}(a:P.underlying t=some .bool)(h:jy P (d+1) t cs=true):∃b,cs=[.bool b]:=by
 unfold jy at h;simp only[a]at h;split at h
 .exact⟨_,rfl⟩
 .cases h
def RX{q:IntKind}{cs:oE}(a:P.underlying t=some (.int q))(h:jy P (d+1) t cs=true):∃n,cs=[.int q n]:=by
 unfold jy at h;simp only[a]at h;split at h
 .have:=of_decide_eq_true h;subst this;exact⟨_,rfl⟩
 .cases h
section
def Tv{a n:Nat}{v:oF}(h:(xs.drop a).take n=[v]):xs.toArray[a]? = some v:=by
 have b:((xs.drop a).take n)[0]? = some v:=by rw[h];rfl
 rw[List.getElem?_take]at b;split at b
 .rw[jM]at b;simpa using b
 .cases b
def Na{c:Nat}(w:oG)(h:jy P d e ((xs.drop c).take (P.cellsOf e))=true):(part e xs.toArray c).run P w=.ok (Eh P e ((xs.drop c).take (P.cellsOf e))) w:=by
 cases d with
 | zero=>simp[jy]at h
 | succ d =>
  cases a:P.underlying e with
  | none=>simp[jy,a]at h
  | some kd =>
   have j:(xs.toArray.extract c (c+P.cellsOf e))=((xs.drop c).take (P.cellsOf e)).toArray:=by
    apply Array.toList_inj.1;rw[Array.toList_extract];simp[List.extract]
   cases kd
   case bool =>
    obtain⟨b,f⟩:=OU a h;rw[run_part_plain w (by simp[Program.plainKey,a]) (Tv f),f];simp[Eh,a]
   case int q =>
    obtain⟨b,f⟩:=RX a h;rw[run_part_plain w (by simp[Program.plainKey,a]) (Tv f),f];simp[Eh,a]
   case array n e' =>
    obtain⟨i,g⟩:=info_of_underlying a;simp only[part,isAgg,jX,jY a,run_sizeOf w g,jU,jW,if_true,Eh,a,j]
   case struct fs =>
    obtain⟨i,g⟩:=info_of_underlying a;simp only[part,isAgg,jX,jY a,run_sizeOf w g,jU,jW,if_true,Eh,a,j]
   all_goals (simp[jy,a]at h;done)
def WI(f:xs.length=ys.length):(xs.drop o).take c=(ys.drop o).take c/\xs.drop (o+c)=ys.drop (o+c)↔xs.drop o=ys.drop o:=by
 have e:∀a:oE,a.drop o=(a.drop o).take c++a.drop (o+c):=λa=>by rw[<-List.drop_drop];exact(List.take_append_drop c (a.drop o)).symm
 constructor
 .rintro⟨b,d⟩;rw[e xs,e ys,b,d]
 .intro h;refine⟨by rw[h],?_⟩;rw[<-List.drop_drop, <-List.drop_drop,h]
def EqB(P:Program)(D d:Nat):Prop:=∀(t:TypeId) (w:oG) (a b:oE),jy P d t a=true->jy P d t b=true->∃r:Bool,(Op.equalIn D t (Eh P t a) (Eh P t b)).run P w=.ok r w/\(r=true↔a=b)
theorem ZZ {D d:Nat} (IH:EqB P D d) {xs ys:List Value} (e:xs.length=ys.length) (w:World):∀ (fs:List Field) (o:Nat),Hz P fs o xs.length=true →
  (∀ f ∈ fs,f.name≠"_"∧jy P d f.type ((xs.drop f.offset).take (P.cellsOf f.type))=true∧jy P d f.type ((ys.drop f.offset).take (P.cellsOf f.type))=true) →
  ∃ r:Bool,(Op.eqFields D xs.toArray ys.toArray fs).run P w=.ok r w∧(r=true↔xs.drop o=ys.drop o)
 | [],o,hc,_=>by
  have:=Nat.eq_of_beq_eq_true hc
  subst this;exact ⟨true,by simp [Op.eqFields],by rw [List.drop_length,e,List.drop_length]; simp⟩
 | f::fs,o,hc,hall=>by
  unfold Hz at hc;rw [Bool.and_eq_true] at hc;have m:=Nat.eq_of_beq_eq_true hc.1;obtain ⟨l,i,j⟩:=hall f oB;obtain ⟨r,n,b⟩:=IH f.type w _ _ i j;obtain ⟨p,h,a⟩:=ZZ IH e w fs (o+P.cellsOf f.type) hc.2 (fun g k=>hall g (by simp [k]));simp only [Op.eqFields,l,ne_eq,not_false_eq_true,if_true,Sem.run_bind,Na w i,Na w j,n,Result.andThen_ok]
  rw [← WI e (c:=P.cellsOf f.type), ← a, ← m, ← b];cases r
  ·exact ⟨false,by simp,by simp⟩
  ·exact ⟨p,by simpa using h,by simp⟩
def za1{D d:Nat}(IH:EqB P D d){xs ys:oE}{e:TypeId}{n:Nat}(g:xs.length=ys.length)(j:xs.length=n*P.cellsOf e)(w:oG)(b:∀i,i<n->jy P d e ((xs.drop (i*P.cellsOf e)).take (P.cellsOf e))=true/\jy P d e ((ys.drop (i*P.cellsOf e)).take (P.cellsOf e))=true):∀(m i:Nat),i+m=n ->
  ∃r:Bool,(Op.eqItems D e (P.cellsOf e) xs.toArray ys.toArray (List.range' i m)).run P w=.ok r w/\(r=true↔xs.drop (i*P.cellsOf e)=ys.drop (i*P.cellsOf e))
 | 0,i,hi=>by
  obtain rfl:i=n:=by omega
  exact⟨true,by simp[Op.eqItems],by rw[<-j,List.drop_length,g,List.drop_length];simp⟩
 | m+1,i,hi=>by
  obtain⟨k,l⟩:=b i oo;obtain⟨r,o,f⟩:=IH e w _ _ k l;obtain⟨p,h,a⟩:=za1 IH g j w b m (i+1) oo;simp only[List.range'_succ,Op.eqItems,jX,Na w k,Na w l,o,jU];rw[<-WI g (c:=P.cellsOf e), <-f];rw[show (i+1)*P.cellsOf e=i*P.cellsOf e+P.cellsOf e by rw[Nat.add_mul,Nat.one_mul]]at a;rw[<-a];cases r
  .exact⟨false,by simp,by simp⟩
  .exact⟨p,by simpa using h,by simp⟩
def ZY(D:Nat):∀d:Nat,EqB P (D+d) d
 | 0=>λt w v x c _=>by simp[jy]at c
 | d+1=>λt w v x c j=>by
  have IH:=ZY D d;cases g:P.underlying t with
  | none=>simp[jy,g]at c
  | some kd =>
   cases kd
   case bool =>
    obtain⟨a,rfl⟩:=OU g c;obtain⟨b,rfl⟩:=OU g j;refine⟨a==b,?_,by simp⟩;simp only[Eh,g,List.headD_cons];exact run_equalIn_bool' w (D+d) t a b g
   case int q =>
    obtain⟨a,rfl⟩:=RX g c;obtain⟨b,rfl⟩:=RX g j;refine⟨a==b,?_,by simp⟩;simp only[Eh,g,List.headD_cons];exact run_equalIn_int w (D+d) t q q a b g
   case array n e =>
    unfold jy at c j;simp only[g,oM,jR,jQ]at c j;have p:=Nat.eq_of_beq_eq_true c.2.1;have u:=Nat.eq_of_beq_eq_true j.2.1;obtain⟨i,l⟩:=Option.isSome_iff_exists.1 c.1;obtain⟨r,o,h⟩:=za1 IH (p.trans u.symm) p w (λi l=>⟨c.2.2 i l,j.2.2 i l⟩) n 0 oo;refine⟨r,?_,by simpa using h⟩;simp only[Eh,g]
    rw[show D+(d+1)=(D+d)+1 from rfl,run_equalIn_array w (D+d) _ _ g l,List.range_eq_range'];exact o
   case struct fs =>
    unfold jy at c j;simp only[g,oM,jR,Bool.not_eq_true',bne_iff_ne,ne_eq]at c j;have s:=Rf fs.toList 0 _ _ c.2.1 j.2.1;have k:P.fieldsOf t=fs:=by simp[Program.fieldsOf,g]
    obtain⟨r,o,h⟩:=ZZ IH s w fs.toList 0 c.2.1 (λf m=>⟨(c.2.2 f m).1,(c.2.2 f m).2,(j.2.2 f m).2⟩);refine⟨r,?_,by simpa using h⟩;simp only[Eh,g];rw[show D+(d+1)=(D+d)+1 from rfl,run_equalIn_struct w (D+d) t _ _ (by rw[k];exact g) c.1,k];exact o
   all_goals (simp[jy,g]at c;done)
variable {K:KV}   
def Zk{cs:oE}(b:(match P.underlying t with|some (.array _ _)|some (.struct _)=>true|_=>false)=true):Eh P t cs=.agg cs.toArray:=by
 unfold Eh;cases a:P.underlying t with
 | none=>simp[a]at b
 | some kd=>cases kd<;>simp_all
def zc3(d:Nat)(e:d<=10000)(a:(match P.underlying t with|some (.array _ _)|some (.struct _)=>true|_=>false)=true)(b:jy P d t xs=true)(c:jy P d t ys=true):∃r:Bool,(Op.equalIn 10000 t (.agg xs.toArray) (.agg ys.toArray)).run P w=.ok r w/\(r=true↔xs=ys):=by
 have:=ZY (P:=P) (10000-d) d t w xs ys b c
 rw[show 10000-d+d=10000 by omega,Zk a,Zk a]at this;exact this
def UT(d:Nat)(b:d<=10000)(f:(match P.underlying t with|some (.array _ _)|some (.struct _)=>true|_=>false)=true)(c:P.eqGuardType P.depth t=false)(g:jy P d t xs=true)(i:jy P d t ys=true)(h:∀r:Bool,(r=true↔xs=ys)->K (.bool r) w):bin P .eql t cx cy (.agg xs.toArray) (.agg ys.toArray) K w:=by obtain⟨r,e,a⟩:=zc3 (w:=w) d b f g i;exact eH (v:=.bool r) (by unfold eqG;exact run_eqGuard_agg w _ _ _ _ _ _ c) (by rw[run_eql_struct w,e];rfl) (h r a)
def zh(d:Nat)(b:d<=10000)(f:(match P.underlying t with|some (.array _ _)|some (.struct _)=>true|_=>false)=true)(c:P.eqGuardType P.depth t=false)(g:jy P d t xs=true)(i:jy P d t ys=true)(h:∀r:Bool,(r=true↔xs=ys)->K (.bool (!r)) w):bin P .neq t cx cy (.agg xs.toArray) (.agg ys.toArray) K w:=by obtain⟨r,e,a⟩:=zc3 (w:=w) d b f g i;exact eH (v:=.bool (!r)) (by unfold eqG;exact run_eqGuard_agg w _ _ _ _ _ _ c) (by rw[run_neq_struct w,e];rfl) (h r a)
end
def nY(s1 l2 t6 t7:oF)(zf:oD):=zf 0::s1::l2::zT zf 3 3 (t6::t7::zT zf 8 18 ([]))
def Lq(l2:oF)(zf:oD):=zf 0::zf 1::l2::zT zf 3 23 ([])
def iE(K:KV):KE:=kZ f199 [1,1] K
def zF(K:KV):KE:=aj Q (cd f199 [1,0,1,0]) (iE K) (xx xf (iE K) 0) (rk f199 K)
def nZ(K:KV)(B1:KE):KE:=kY f199 (b1 423) B1 (xx xf (iE K) 0) K
def vL(K:KV)(B1:KE):KE:=aj Q (cd f199 (b1 422)) (nZ K B1) (xx xf (iE K) 0) (rk f199 K)
section
variable {K:KV}{s1 l2 t6 t7:oF}  
def VB{K:KV}(h:box Q 38 H (λa=>aq Q 38 a 0 λb=>ld Q 31 b λc=>zF K (nY a cN c (ci 0) (zV (zV zu 0 [H]) 5 [b]))) w):Gives Q 199 #[H] w K:=aw func199 kr (mpK h)
def Sm(Inv:oF->oF->oG->Prop)(μ:oF->oF->oG->Nat)(i:Inv l2 t7 w)(k:∀(d a:oF) (f:oD) (w:oG) (m:Nat),Inv d a w->m=μ d a w ->
  bT .lss 3 a (ci 6) (λb w=>cond b (vL K (λb S=>(Inv (gd b 2) (gd b 7) S)/\((μ (gd b 2) (gd b 7) S)<m)) (nY s1 d t6 a (zV f 8 [b])) w) (iE K (Lq d (zV (zV f 1 [s1]) 6 [t6,a,b])) w)) w):zF K (nY s1 l2 t6 t7 zf) w:=by
 refine aZ (cd f199 (b1 52)) (zr [(2,3),(7,18)]) kr (vP [2,7] Inv) (vQ [2,7] μ) i ?_;intro e g j;have h:=k _ _ (zM zf (gd e) (zr [(2,3),(7,18)])) g _ j rfl;refine Eq.mp (qH (λc=>aj Q c _ _ _ _ g) (by kernel_rfl:(rep [1,1,0] (cd f199 (b1 422)) (cd f199 (b1 52)))=(cd f199 (b1 52)))) ?_;revert h;delta vL nZ;generalize (cd f199 (b1 422))=xc0;generalize (iE K)=qc0
 exact mpF
def Sl(h:idx Q 31 t6 t7 (λc w=>aT c true (λc=>aq Q 38 s1 1 (λa=>bv Q 31 a t7 λb=>ld Q 4 b λd=>un Q .not d λe=>c [t7,a,b,d,e]) w) (λk=>k [uu,uu,uu,uu,uu] w) λa=>pick c (gd a 4) cF λd w=>cond d (nC t7 (λe=>cH Q 24 1 #[(0,e)] λb=>blt Q .append #[24,24] 24 #[false,false] #[l2,b] λf=>nZ K B1 (nY s1 f t6 t7 (zV (zV zf 3 [t7,c]) 9 [t7,c,c,c,gd a 0,gd a 1,gd a 2,gd a 3,gd a 4,d,l2,t7,e,b,f]))) w) (nZ K B1 (nY s1 l2 t6 t7 (zV (zV zf 3 [t7,c]) 9 [t7,c,c,c,gd a 0,gd a 1,gd a 2,gd a 3,gd a 4,d])) w)) w):vL K B1 (nY s1 l2 t6 t7 zf) w:=by delta vL;revert h;generalize (nZ K B1)=qc0;generalize (iE K)=qc1;exact mpF
def Sn(h:K l2 w):iE K (Lq l2 zf) w:=mpK h
def BF(h:nC t7 (λa=>B1 (nY s1 l2 t6 a (zV zf 24 [a]))) w):nZ K B1 (nY s1 l2 t6 t7 zf) w:=by delta nZ;revert h;generalize (iE K)=qc0;exact mpF
end
attribute [irreducible] iE zF nZ vL
section
attribute [local irreducible] bin un conv call bS blt slc aq fld bv idx lkp fJ nl eSt rng nxt ent ext alc box bld cH ld sto bj fK mkS ifc pick rdy wts aT sti cond bA Gives aj iK kH cOp
def ndC(x:ND):oE:=.int .u64 x.id::.int .u64 x.par::x.A.map iv
def zam{x:ND}(h:x.A.length=54):(ndC x).length=56:=by simp[ndC,h]
structure NR(w:oG) (a:Option Addr) (n c:Nat) (L:List ND):Prop where
 len:L.length=n
 cap:n<=c
 some_:0<n->∃b o,a=some ⟨b,o,none⟩
 A54:∀x∈L,x.A.length=54
 cell:∀(i:Nat) (x:ND),L[i]? = some x->∀b o,a=some ⟨b,o,none⟩->∀(j:Nat) (u:oF),(ndC x)[j]? = some u->w.cell? ⟨b,o+i*56+j,none⟩=some u
def NR.bel{B:Nat}{n:Nat}{L:List ND}(h:NR w a n c L)(g:Below B w S)(e:w.heap.size<=B):NR S a n c L :=
 ⟨h.len,h.cap,h.some_,h.A54,λi x l b o f j u k=>by
  have:=h.cell i x l b o f j u k
  have d:=jZ w _ this;rw[g.cell (p:=⟨b,o+i*56+j,none⟩) (qQ d e)];exact this⟩
structure STA where
 I:List Bool
 L:List Bool
 V:List Int
 nodes:List ND
 na:Option Addr
 nc:Nat
 gv:oF
def saC(s:STA):oE:=s.I.map .bool++s.L.map .bool++s.V.map (.int .u64)++[.slice s.na s.nodes.length s.nc,s.gv]
structure SK(w:oG) (s:STA):Prop where
 i6:s.I.length=6
 l6:s.L.length=6
 v6:s.V.length=6
 nr:NR w s.na s.nodes.length s.nc s.nodes
 few:s.nodes.length<=1000000
 gv:s.gv.oneCell'=true
def SK.bel{B:Nat}{s:STA}(h:SK w s)(b:Below B w S)(a:w.heap.size<=B):SK S s:=⟨h.i6,h.l6,h.v6,h.nr.bel b a,h.few,h.gv⟩
def zjA{s:STA}(h:SK w s){k:Nat}(a:k<6):(saC s)[k]? = some (.bool (s.I.getD k false)):=by
 have:=h.i6
 unfold saC;rw[jD,jD,qO (by simp;omega),qC,gE oo];simp[List.getD,show k<s.I.length by omega]
def zfu{s:STA}(h:SK w s){k:Nat}(a:k<6):(saC s)[6+k]? = some (.bool (s.L.getD k false)):=by
 have:=h.i6
 have:=h.l6
 unfold saC;rw[jD,jD,qP (by simp;omega),qO (by simp;omega),qC];rw[show 6+k-(s.I.map Value.bool).length=k by simp;omega,gE oo];simp[List.getD,show k<s.L.length by omega]
def My{K:KV}(h:K (pA b (o+0)) w):aq Q 38 (pA b o) 0 K w:=aQ kr h
def Mz{K:KV}(h:K (pA b (o+6)) w):aq Q 38 (pA b o) 1 K w:=aQ kr h
def MA{K:KV}(h:K (pA b (o+12)) w):aq Q 38 (pA b o) 2 K w:=aQ kr h
def nP{K:KV}(h:K (pA b (o+18)) w):aq Q 38 (pA b o) 3 K w:=aQ kr h
def rY{K:KV}(h:K (pA b (o+19)) w):aq Q 38 (pA b o) 4 K w:=aQ kr h
section
variable  {K:KV}
def zei{n:Nat}{L:List ND}{x:ND}(h:NR w a n c L)(f:a=some ⟨b,o,none⟩)(d:L[i]? = some x)(e:K (.agg (ndC x).toArray) w):ld Q 58 (pA b (o+i*56)) K w :=
 Ua (run_loadVar_mid w b (o+i*56) 58 (ndC x) _ (λj v g=>h.cell i x d b o f j v g) underlying58 rfl (by rw[zam (h.A54 x (mO d))];kernel_rfl)) e
end
abbrev ON(w:oG)(B:Nat)(a:Option Addr)(n c:Nat)(l:List Int):Prop:=w.ownsRow B 3 1 (.slice a n c) n (l.map iv)
def ON.nil(w:oG)(B:Nat):ON w B none 0 0 []:=World.ownsRow_nil w B _ 1
def ON.bel{B n:Nat}{l:List Int}(h:ON w B a n c l)(b:Below w.heap.size w S):ON S B a n c l:=dl h λk d=>b.block k (jS h k d).2
def ON.len{B n:Nat}{l:List Int}(h:ON w B a n c l):l.length=n:=by have b:=h.1;simpa using b
def ON.mono{B n:Nat}{l:List Int}(h:ON w B a n c l)(i:B'<=B):ON w B' a n c l:=by
 refine⟨h.1,?_⟩;rcases h.2 with e|⟨g,b,d,f,j,r⟩
 .exact .inl e
 .exact .inr ⟨g,b,d,f,by omega,r⟩
def zeb:(Tryz.prog.info? 3).map (λi=>(i.zero,i.size,i.bytes))=some (some (ci 0),1,8):=by kernel_rfl
def Pm(I L:List Bool)(k:Nat):pF I L (k+1)=pF I L k++if I.getD k false && !L.getD k false then [((k:Nat):Int)+1]else []:=by
 unfold pF;rw[List.range_succ,List.filter_append,jJ]
 congr 1
 cases h:I.getD k false && !L.getD k false with
 | false=>rw[List.filter_cons_of_neg (by rw[h];simp)];rfl
 | true=>rw[List.filter_cons_of_pos (by rw[h])];rfl
def YA(I L:List Bool):∀k,(pF I L k).length<=k
 | 0=>by simp[pF]
 | k+1=>by
  have:=YA I L k
  rw[Pm,oT];split<;>simp<;>omega
section
variable  {K:KV}
def Xq{n:Nat}{k:IntKind}{cs:oE}{v:oF}(f:P.underlying t=some (.array n e))(c:∀w,(isAgg e).run P w=.ok false w)(d:∀w,(sizeOf e).run P w=.ok 1 w)(hi:i<n)(g:cs[i]? = some v)(h:K v w):idx P t (.agg cs.toArray) (.int k (i:Nat)) K w:=by
 unfold idx;refine eJ (w':=w) (v:=v) ?_ h;have a:(0:Int)<=(i:Int):=by omega
 have b:(i:Int)<(n:Int):=by omega
 simp only[Instr.index,asIntOf,jX,jW,jU,jY f,a,b,and_self,if_true,d,part,c,oQ,Nat.mul_one];simp[g]
def zjV(h:∀S,blk S w.heap.size 3 [iv x]->Below w.heap.size w S->S.heap.size=w.heap.size+1->K (.slice (some ⟨w.heap.size,0,none⟩) 1 1) S):cH Q 24 1 #[(0,iv x)] K w :=
 qb (vs:=[iv x]) underlying24 (s:=1) kr kr oo rfl oB oB oB (by simp[Value.cells,iv]) λS a b s=>h S (by simpa[iv,Value.cells]using a) b s
def apN{cs:Array Bool}{B n:Nat}{l:List Int}(p:ON w B a n c l)(q:blk w g 3 [iv x])(o:B<=w.heap.size)(v:n<=100000)(h:∀b c' S,ON S B b (n+1) c' (l++[x])->Below B w S->K (.slice b (n+1) c') S):blt Q .append #[24,24] E cs #[.slice a n c,.slice (some ⟨g,0,none⟩) 1 1] K w:=by obtain⟨i,r,u,j,d⟩:=info_parts zeb;refine zhg (base:=B) (s:=1) (m:=1) (ys:=[iv x]) underlying24 r u j d rfl oo p q rfl (by simp[iv,Value.oneCell']) oo oo o ?_;intro b c' S f e _;refine h b c' S (by simpa[ON]using f) (cS e o (λk t=>?_));exact(jS p k t).1
def zi7{s:STA}(r:SK w s)(h:∀w' a c,ON w' w.heap.size a (pF s.I s.L 6).length c (pF s.I s.L 6)->Below w.heap.size w w'->K (.slice a (pF s.I s.L 6).length c) w'):call Q 199 #[.agg (saC s).toArray] K w:=by
 refine ao (goK func199) (VB ?_);refine bU λd o H W=>?_;have o:=cZ o
 refine My ?_;refine ldA (n:=6) (vs:=s.I.map .bool) underlying31 rfl kr o (by
  rw[oX];unfold saC;rw[jD,jD,List.take_left' (by simp[r.i6])]) (by simp[r.i6]) ?_
 refine Sm (Inv:=λl i G=>∃(k n:Nat) (a:Option Addr) (c:Nat),l=.slice a n c/\i=ci (k:Nat)/\k<=6/\ON G d.heap.size a n c (pF s.I s.L k)/\Below d.heap.size d G) (μ:=λ_ i _=>6-(intOf i).toNat)
  ⟨0,0,none,0,rfl,rfl,by omega,ON.nil _ _,jT _ _⟩ ?_
 rintro _ _ V B m ⟨k,n,a,c,rfl,rfl,P,q,f⟩ S;have x:=ae f o o.lt;have p:=q.len;have R:=YA s.I s.L k;have z:=f.size;refine aW ?_;by_cases E:k<6
 .refine aG oo <|Sl ?_;refine Xq (v:=.bool (s.I.getD k false)) underlying31 kf kf E (by
   have:=r.i6
   rw[qC,gE oo];simp[List.getD,show k<s.I.length by omega]) ?_
  have b:∀(j:oG) (e:Option Addr) (t g:Nat),ON j d.heap.size e t g (pF s.I s.L (k+1))->Below d.heap.size d j ->
    (∃(A n:Nat) (a:Option Addr) (c:Nat),Value.slice e t g=.slice a n c/\Value.int .i64 ((k:Int)+1)=ci (A:Nat)/\A<=6/\ON j d.heap.size a n c (pF s.I s.L A)/\Below d.heap.size d j)/\6-(intOf (ci ((k:Int)+1))).toNat<m :=
   λj e t g N O=>⟨⟨k+1,t,e,g,rfl,by simp,by omega,N,O⟩,by rw[S];simp[intOf];omega⟩
  have F:(s.I.getD k false && !s.L.getD k false)=false->pF s.I s.L (k+1)=pF s.I s.L k:=λT=>by rw[Pm,T];simp
  cases u:s.I.getD k false with
  | false =>
   refine js <|cA <|aD <|BF <|aY oo oo ?_;exact b B a n c (by rw[F (by rw[u];rfl)];exact q) f
  | true =>
   refine my <|Mz <|fB underlying31 (s:=1) kf oo oo <|lK (v:=.bool (s.L.getD k false)) x (by rw[show 0+6+(k:Int).toNat*1=6+k by omega];exact zfu r E) <|bH <|dD ?_;cases D:s.L.getD k false with
   | true =>
    refine aD <|BF <|aY oo oo ?_;exact b B a n c (by rw[F (by rw[u,D];rfl)];exact q) f
   | false =>
    refine bc <|aY oo oo ?_;refine zjV λj M C X=>?_;refine apN (q.bel C) M oo oo λe g U y J=>?_;refine BF <|aY oo oo ?_;exact b U e (n+1) g (by rw[Pm,u,D];exact y) ((f.trans (C.mono z)).trans J)
 .refine aB oo ?_;obtain rfl:k=6:=by omega
  refine Sn ?_
  have:=h B a c (by rw[p];exact q.mono oo) (H.trans (f.mono oo))
  rw[p]at this;exact this
end
end
section
def zey(h:∀k,k<6->Sv A k=true):∀q,q<54->0<=nA A q/\nA A q<=MXA:=by
 have e:∀k,k<6->okA (nA A k)=true/\okA (nA A (6+k))=true/\okA (nA A (12+k))=true/\∀j,j<6->okA (nA A (18+6*k+j))=true:=by
  intro k c
  have:=h k c
  unfold Sv at this;simp only[oM]at this;exact⟨this.1.1.1.1.1,this.1.1.1.1.2,this.1.1.1.2,λj b=>jR.1 this.2 j (by simpa using b)⟩
 intro q g;refine sZ.1 ?_;by_cases a:q<6
 .exact(e q a).1
 by_cases d:q<12
 .have:=(e (q-6) oo).2.1;rwa[show 6+(q-6)=q by omega]at this
 by_cases f:q<18
 .have:=(e (q-12) oo).2.2.1;rwa[show 12+(q-12)=q by omega]at this
 .have:=(e ((q-18) / 6) oo).2.2.2 ((q-18)%6) oo
  rwa[show 18+6*((q-18) / 6)+(q-18)%6=q by omega]at this
def Sk(h:nu A=true):∀q,q<54->0<=nA A q/\nA A q<=MXA:=by unfold nu at h;simp only[oM]at h;exact zey λk a=>jR.1 h.1.1 k (by simpa using a)
def ndE(x:ND):oE:=u6 x.id::u6 x.par::(List.range 54).map λj=>iv (x.A.getD j 0)
def zct{x:ND}(h:x.A.length=54):(List.range 54).map (λj=>iv (x.A.getD j 0))=x.A.map iv:=by
 apply List.ext_getElem
 .simp[h]
 .intro i b a;simp at b a;simp[List.getD,a]
def YK{x:ND}(h:x.A.length=54):ndE x=ndC x:=by unfold ndE ndC;rw[zct h];rfl
def Hm(x:ND):(ndE x).length=56:=by simp[ndE]
def zan(x:ND):∀v∈ndE x,v.oneCell'=true:=by simp[ndE,u6,iv,Value.oneCell']
def Bn{L:List α}(h:L.length=6):∃a b c d e f,L=[a,b,c,d,e,f]:=by
 match L,h with
 | [a,b,c,d,e,f],_=>exact⟨a,b,c,d,e,f,rfl⟩
def Yj{enc:α->oE}(h:∀x,∀v∈enc x,v.oneCell'=true)(L:List α):∀v∈L.flatMap enc,v.oneCell'=true:=by intro v a;obtain⟨x,_,b⟩:=List.mem_flatMap.1 a;exact h x v b
def zjx{K:KV}{p:Nat}{cs:oE}{d:TypeDesc}(g:P.underlying t=some d)(b:d.isRow=true)(hi:(P.info? t).map (·.size)=some vs.length)(a:blk w p E cs)(i:cs=vs)(h:K (.agg vs.toArray) w):bA P [(some t,pA p 0)] K w:=by
 subst i;have f:=run_loadVar_mid (P:=P) w p 0 t cs d (λj v c=>by rw[a.cell,oK];exact c) g b hi;have e:(qk [(some t,pA p 0)]).run P w=.ok (.agg cs.toArray) w:=by
  simp[qk,asAddr,jX,f]
 unfold bA;rw[e];exact⟨rfl,h⟩
def Ys{v:oF}{S:oG->Prop}{s:KV->oG->Prop}{k:oF->Prop}(b:asB v≠some cx)(a:k undef):hG v cx S s k:=⟨undef,λh=>qI h b,λ_=>rfl,a⟩
def zf4{p:Prop}[Decidable p](a : ¬p):asB (.bool (decide p))≠some true:=by rw[zj1 a];simp
def Mx{K:KV}(h:K (pA b (o+0)) w):aq Q 56 (pA b o) 0 K w:=aQ kr h
def Ye{K:KV}(h:K (pA b (o+6)) w):aq Q 56 (pA b o) 1 K w:=aQ kr h
def Yf{K:KV}(h:K (pA b (o+12)) w):aq Q 56 (pA b o) 2 K w:=aQ kr h
def zdS{K:KV}(h:K (pA b (o+18)) w):aq Q 56 (pA b o) 3 K w:=aQ kr h
attribute [local irreducible] bin un conv call bS blt slc aq fld bv idx lkp fJ nl eSt rng nxt ent ext alc box bld cH ld sto bj fK mkS ifc pick rdy wts aT sti cond bA Gives aj iK kH cOp
section
variable  {K:KV}
def ixV{k:Nat}{i:Int}(hi:i=(k:Nat))(c:k<6)(a:K (pA b (o+k)) w):bv Q 34 (pA b o) (ci i) K w:=by subst hi;exact fB underlying34 (s:=1) kf oo oo (by rw[oQ,Nat.mul_one];exact a)
def zbe(A:List Int):∀v∈A.map iv,v.oneCell'=true:=by simp[iv,Value.oneCell']
def Hl{q:Nat}(a:q<A.length):(A.map iv)[q]? = some (iv (nA A q)):=by simp[nA,List.getD,a]
def ixR{k:Nat}{i:Int}{K:KV}(hi:i=(k:Nat))(c:k<6)(a:K (pA b (o+k)) w):bv Q 53 (pA b o) (ci i) K w:=by subst hi;exact fB underlying53 (s:=1) kf oo oo (by rw[oQ,Nat.mul_one];exact a)
structure RV3(w0 w:oG) (A:List Int):Prop where
 r:blk w w0.heap.size 56 (A.map iv)
 t:blk w (w0.heap.size+1) 56 (z54.map iv)
 bel:Below w0.heap.size w0 w
def RV3.fresh(g:RV3 O w A)(a:Below w.heap.size w S):RV3 O S A:=⟨ae a g.r g.r.lt,ae a g.t g.t.lt,g.bel.trans (a.mono g.bel.size)⟩
def RV3.make{K2:oF->KV}(i:A.length=54)(h:∀S,RV3 w S A->S.heap.size=w.heap.size+2->K2 (pA w.heap.size 0) (pA (w.heap.size+1) 0) S):box Q 56 (.agg (A.map iv).toArray) (λr w=>alc Q 56 (K2 r) w) w:=by
 refine bU λd b f g=>?_;have b:=cZ b
 refine cD (z:=.agg (z54.map iv).toArray) kr λe a c j=>?_;have a:=cZ a
 rw[g]at a |-;exact h e ⟨ae c b b.lt,a,f.trans (c.mono oo)⟩ oo
def RV3.no{e:Int}(g:RV3 O w A)(h:∀S,Below O.heap.size O S->K (.tuple #[.agg (z54.map iv).toArray,ci e]) S):bld Q 56 #[] (λt w=>sto Q 56 (pA (O.heap.size+1) 0) t (λ_t w=>bA Q [(some 56,pA (O.heap.size+1) 0),(none,ci e)] K w) w) w:=cE (vs:=z54.map iv) kr (zcN (N:=54) underlying56 rfl kr g.t rfl rfl (zbe _) λS o=>h S (gI g.bel o oo))
def zjT{k:Nat}{i:Int}{K:KV}(hi:i=(k:Nat))(c:k<6)(a:K (pA b (o+6*k)) w):bv Q 54 (pA b o) (ci i) K w:=by subst hi;exact fB underlying54 (s:=6) kf oo oo (by rw[oQ,Nat.mul_comm];exact a)
def RV3.drew(g:RV3 S w A):RV3 S w.drew A:=g.fresh (jT _ w).drew
end
end
def qt(x1 is2 BE qr r5 t10 t14:oF)(zf:oD):=zf 0::x1::is2::BE::qr::r5::zT zf 6 4 (t10::zT zf 11 3 (t14::zT zf 15 32 ([])))
def IP(x1 BE qr r5 t10:oF)(zf:oD):=zf 0::x1::zf 2::BE::qr::r5::zT zf 6 4 (t10::zT zf 11 36 ([]))
def iO(K:KV):KE:=kZ f318 [1,1] K
def kB(K:KV):KE:=kY f318 [1,0,0,1] (iO K) (xx xf (iO K) 0) K
def tF(K:KV):KE:=aj Q (cd f318 (b1 49)) (kB K) (xx xf (iO K) 0) (rk f318 K)
section
variable {K:KV}{x1 is2 BE qr r5 t10 t14:oF}  
def SQ{K:KV}(h:box Q 56 H (λa=>alc Q 56 λb=>ld Q 56 a λc=>call Q 221 #[c] λd=>un Q .not d λe=>tF K (qt Z U Y J a b e (zV (zV (zV zu 0 [H]) 11 [ci 0]) 15 [c,d,e]))) w):Gives Q 318 #[H,Z,U,Y,J] w K:=by refine aw func318 kr <|Eq.mp (qH (λc=>aj Q c _ _ _ _ w) (by kernel_rfl:(rep (b1 49) (cd f318 (b1 49)) (cd f318 []))=(cd f318 []))) ?_;revert h;delta tF iO kB;generalize (cd f318 (b1 49))=xc0;exact mpF
def PG(h:cond t14 (kB K (qt x1 is2 BE qr r5 t10 t14 zf) w) (bT .lss 2 x1 (ci 1) (λa w=>cond a (kB K (qt x1 is2 BE qr r5 t10 a (zV zf 18 [x1,a])) w) (bT .gtr 2 x1 (ci 1125899906842624) (λb=>kB K (qt x1 is2 BE qr r5 t10 b (zV zf 18 [x1,a,x1,b]))) w)) w)):tF K (qt x1 is2 BE qr r5 t10 t14 zf) w:=by delta tF;revert h;generalize (kB K)=qc0;generalize (iO K)=qc1;exact mpF
def yT(h:cond t14 (bld Q 56 #[] (λa=>sto Q 56 t10 a λ_=>bA Q [(some 56,t10),(none,ci 1)] K) w) (un Q .not is2 (λa w=>cond a (bld Q 56 #[] (λa=>sto Q 56 t10 a λ_=>bA Q [(some 56,t10),(none,ci 10)] K) w) (iO K (IP x1 BE qr r5 t10 (zV (zV (zV zf 2 [is2]) 14 [t14]) 23 [a,is2,a])) w)) w)):kB K (qt x1 is2 BE qr r5 t10 t14 zf) w:=by delta kB;revert h;generalize (iO K)=qc0;exact mpF
def PH(h:bS Q BE #[] (λb=>bT .neq 28 b (ci 0) λa w=>cond a (bld Q 56 #[] (λa=>sto Q 56 t10 a λ_=>bA Q [(some 56,t10),(none,b)] K) w) (bS Q qr #[r5] (λa=>bj a λb=>ld Q 2 b λb=>bF .add 2 b x1 λb=>bj a λc=>sto Q 2 c b λ_=>bj a λa=>ld Q 2 a λa=>bT .gtr 2 a (ci 1125899906842624) λc w=>cond c (bld Q 56 #[] (λd=>sto Q 56 t10 d λ_=>bA Q [(some 56,t10),(none,ci 6)] K) w) (ld Q 56 r5 (λe=>sto Q 56 t10 e λ_=>bA Q [(some 56,t10),(none,ci 0)] K) w)) w)) w):iO K (IP x1 BE qr r5 t10 zf) w:=mpK h
end
attribute [irreducible] iO kB tF
def VZ{K:KV}(h:cond Z (K H w) (K (ci 0) w)):Gives Q 320 #[Z,H] w K:=aw func320 kr (mpK h)
def VY{K:KV}(h:box Q 56 U (λa=>box Q 3 H λb=>box Q 2 Z λc=>alc Q 56 λd w=>aL (λS w=>hL S 56 a λe=>hL S 2 c λf=>hL S 3 b λg=>call Q 220 #[g] (λg=>bw S λ_=>call Q 318 #[e,f,g,.func (.func 319) #[] #[c,a,b],.func (.func 321) #[] #[b]] λa=>aL λS w=>hld S (ext Q a 0) λb=>hld S (ext Q a 1) λa=>sto Q 56 d b (λ_=>aL λ_=>bA Q [(some 56,d),(none,a)] K) w) w) w.drew) w):Gives Q 306 #[U,H,Z] w K:=aw func306 kr (mpK h)
def SL{K:KV}(h:aL (λS w=>hL S 2 U λa=>hL S 56 H λb=>hL S 3 Z λc=>call Q 202 #[b,c] (λb=>bw S λS w=>hld S (bF .gtr 2 a b) λa=>call Q 320 #[a,ci 11] (λa=>aL λ_=>K a) w) w) w.drew):Gives Q 319 #[U,H,Z] w K:=aw func319 kr (mpK h)
def SM{K:KV}(h:sL 3 H (λa=>sti (bT .sub 3 a (ci 1)) λa=>sN Z λb=>sF 56 b 1 λb=>sI 53 b a K) w.drew):Gives Q 321 #[Z,H] w K:=aw func321 kr (mpK h)
def VW{K:KV}(h:box Q 56 U (λa=>box Q 3 H λb=>box Q 2 Z λc=>alc Q 56 λd w=>aL (λS w=>hL S 56 a λe=>hL S 2 c λf=>hL S 3 b λg=>call Q 220 #[g] (λg=>bw S λ_=>call Q 318 #[e,f,g,.func (.func 322) #[] #[c,a,b],.func (.func 323) #[] #[b]] λa=>aL λS w=>hld S (ext Q a 0) λb=>hld S (ext Q a 1) λa=>sto Q 56 d b (λ_=>aL λ_=>bA Q [(some 56,d),(none,a)] K) w) w) w.drew) w):Gives Q 309 #[U,H,Z] w K:=aw func309 kr (mpK h)
def SG{K:KV}(h:aL (λS w=>hL S 2 U λa=>hL S 3 Z λb=>hld (λ_=>True) (bT .sub 3 b (ci 1)) λb=>hF S 56 H 1 λc=>hI S 53 c b λb=>hL S 2 b λb=>hL S 3 Z λc=>hld (λ_=>True) (bT .sub 3 c (ci 1)) λc=>hF S 56 H 2 λd=>hI S 53 d c λc=>hL S 2 c λc=>hld (λ_=>True) (bF .sub 2 b c) λb=>hld S (bF .gtr 2 a b) λa=>call Q 320 #[a,ci 12] (λa=>aL λ_=>K a) w) w.drew):Gives Q 322 #[U,H,Z] w K:=aw func322 kr (mpK h)
def SH{K:KV}(h:sL 3 H (λa=>sti (bT .sub 3 a (ci 1)) λa=>sN Z λb=>sF 56 b 2 λb=>sI 53 b a K) w.drew):Gives Q 323 #[Z,H] w K:=aw func323 kr (mpK h)
def VX{K:KV}(h:box Q 56 Y (λb=>box Q 3 H λc=>box Q 3 Z λa=>box Q 2 U λd=>alc Q 56 λe w=>aL (λS w=>hL S 56 b λf=>hL S 2 d λg=>hL S 3 c λh=>call Q 220 #[h] (λh=>bw S λS w=>hG h true S (ld Q 3 a) λi=>xG h true (call Q 220 #[i]) (λi=>bw S λS w=>hld S (pick h i cF) λh=>call Q 318 #[f,g,h,.func (.func 324) #[] #[c,a,d,b],.func (.func 325) #[] #[c,a]] (λa=>aL λS w=>hld S (ext Q a 0) λc=>hld S (ext Q a 1) λb=>sto Q 56 e c (λ_=>aL λ_=>bA Q [(some 56,e),(none,b)] K) w) w) w) w) w.drew) w):Gives Q 311 #[Y,H,Z,U] w K:=aw func311 kr (mpK h)
def SI{K:KV}(h:ld Q 3 H (λa=>ld Q 3 Z λb=>bF .eql 3 a b λa w=>cond a (K (ci 1) w) (aL (λS w=>hL S 2 U λa=>hL S 56 Y λb=>hL S 3 H λc=>call Q 202 #[b,c] (λb=>bw S λS w=>hld S (bF .gtr 2 a b) λa=>call Q 320 #[a,ci 11] (λa=>aL λ_=>K a) w) w) w.drew)) w):Gives Q 324 #[H,Z,U,Y] w K:=aw func324 kr (mpK h)
def SJ{K:KV}(h:sL 3 H (λa=>sti (bT .sub 3 a (ci 1)) λa=>sL 3 Z λb=>sti (bT .sub 3 b (ci 1)) λb=>sN U λc=>sF 56 c 3 λc=>sI 54 c a λa=>sI 53 a b K) w.drew):Gives Q 325 #[U,H,Z] w K:=aw func325 kr (mpK h)
def kv8(x:Int):oF:=.int .u8 x
def evC(e:EV):oE:=[iv e.o,u6 e.s,u6 e.d0,u6 e.d1,u6 e.d2,u6 e.d3,u6 e.d4,u6 e.d5,kv8 e.k,u6 e.n,iv e.t,iv e.a,u6 e.r,u6 e.f]
def zfa{e:EV}:∀{k:Nat},k<6->(evC e)[2+k]? = some (u6 (e.V.getD k 0))
 | 0,_=>rfl
 | 1,_=>rfl
 | 2,_=>rfl
 | 3,_=>rfl
 | 4,_=>rfl
 | 5,_=>rfl
def zfT{e e':EV}:evC e=evC e'↔e=e':=by cases e;cases e';simp[evC,u6,iv,kv8]
def Dz(e:EV):∀v∈evC e,v.oneCell'=true:=by simp[evC,u6,iv,kv8,Value.oneCell']
def fS{K:KV}(h:K (pA b (o+0)) w):aq Q 49 (pA b o) 0 K w:=aQ kr h
def pC{K:KV}(h:K (pA b (o+1)) w):aq Q 49 (pA b o) 1 K w:=aQ kr h
def Bv{K:KV}(h:K (pA b (o+2)) w):aq Q 49 (pA b o) 2 K w:=aQ kr h
def DE{K:KV}(h:K (pA b (o+8)) w):aq Q 49 (pA b o) 3 K w:=aQ kr h
def qo{K:KV}(h:K (pA b (o+9)) w):aq Q 49 (pA b o) 4 K w:=aQ kr h
def yD{K:KV}(h:K (pA b (o+10)) w):aq Q 49 (pA b o) 5 K w:=aQ kr h
def tf{K:KV}(h:K (pA b (o+11)) w):aq Q 49 (pA b o) 6 K w:=aQ kr h
def wQ{K:KV}(h:K (pA b (o+12)) w):aq Q 49 (pA b o) 7 K w:=aQ kr h
def DH{K:KV}(h:K (pA b (o+13)) w):aq Q 49 (pA b o) 8 K w:=aQ kr h
def TP{K:KV}(h:bT .geq 3 H (ci 1) (λb w=>aT b true (λb=>bT .leq 3 H (ci 6) (λa=>b [H,a]) w) (λk=>k [uu,uu] w) λa=>pick b (gd a 1) cF K) w):Gives Q 73 #[H] w K:=aw func73 kr (mpK h)
def wJ(x0 t7:oF)(zf:oD):=x0::zT zf 1 6 (t7::zT zf 8 17 ([]))
def wK(x0:oF)(zf:oD):=x0::zT zf 1 24 ([])
def wL(x0 m3 i4:oF)(zf:oD):=x0::zf 1::zf 2::m3::i4::zT zf 5 20 ([])
def wM(m3:oF)(zf:oD):=zT zf 0 3 (m3::zT zf 4 21 ([]))
def fX(K:KV):KE:=kZ f74 [1,1] K
def km(K:KV):KE:=aj Q (cd f74 [1,0,1]) (fX K) xf (rk f74 K)
def eW(K:KV):KE:=kZ f74 [1,1,1,1] K
def mQ(K:KV):KE:=aj Q (cd f74 (b1 122)) (eW K) (xx xf (eW K) 0) (rk f74 K)
section
variable {K:KV}{x0 m3 i4 t7:oF}  
def Fq{K:KV}(h:lN 172 H (λa=>bT .lss 3 a (ci 1) λb=>km K (wJ H b (zV (zV zu 2 [cu 0]) 5 [H,a]))) w):Gives Q 74 #[H] w K:=by refine aw func74 kr <|Eq.mp (qH (λc=>aj Q c _ _ _ _ w) (by kernel_rfl:(rep [1,0,1] (cd f74 [1,0,1]) (cd f74 []))=(cd f74 []))) ?_;revert h;delta km fX;generalize (cd f74 [1,0,1])=xc0;exact mpF
def Df{K:KV}(h:cond H (ifc Q 9 (Value.string (Al [115,108,105,99,101,115,46,77,97,120,58,32,101,109,112,116,121,32,108,105,115,116])) (λ_ _=>False) w) (fX K (wK Z (zV zf 7 [H])) w)):km K (wJ Z H zf) w:=by delta km;revert h;generalize (fX K)=qc0;exact mpF
def Dh(h:bv Q 172 x0 (ci 0) (λa=>ld Q 32 a λb=>mQ K (wL x0 b (ci 1) (zV zf 9 [x0,a,b]))) w):fX K (wK x0 zf) w:=mpK h
def Dg(Inv:oF->oF->oG->Prop)(μ:oF->oF->oG->Nat)(i:Inv m3 i4 w)(k:∀(b a:oF) (g:oD) (w:oG) (m:Nat),Inv b a w->m=μ b a w ->
  lN 172 x0 (λc=>lS a c λd w=>cond d (bv Q 172 x0 a (λc=>ld Q 32 c λe=>blt Q .max #[32,32] 32 #[false,false] #[b,e] λb=>nC a λa w=>(Inv b a w)/\((μ b a w)<m)) w) (eW K (wM b (zV (zV (zV g 0 [x0]) 4 [a]) 12 [a,x0,c,d])) w)) w):mQ K (wL x0 m3 i4 zf) w:=by refine aZ (cd f74 (b1 244)) (zr [(3,2),(12,12)]) kr (vP [3,4] Inv) (vQ [3,4] μ) i ?_;intro d l j;have h:=k _ _ (zM zf (gd d) (zr [(3,2),(12,12)])) l _ j rfl;revert h;generalize (eW K)=qc0;exact mpF
def Di(h:K m3 w):eW K (wM m3 zf) w:=mpK h
end
attribute [irreducible] fX km eW mQ
def Mm{K:KV}{f0:oF}(h:bj f0 (λa=>aq Q 194 a 0 λa=>aq Q 49 a 6 λa=>ld Q 2 a λa=>bF .geq 2 a H λb w=>aT b true (λb=>bj f0 (λa=>aq Q 194 a 0 λc=>aq Q 49 c 6 λd=>ld Q 2 d λe=>bT .leq 2 e (ci 1125899906842624) λf=>b [f0,a,c,d,e,f]) w) (λk=>k [uu,uu,uu,uu,uu,uu] w) λa=>pick b (gd a 5) cF λa=>bj f0 λb=>aq Q 194 b 0 λb=>aq Q 49 b 4 λb=>sto Q 32 b (cu 0) λ_=>bj f0 λb=>aq Q 194 b 0 λb=>aq Q 49 b 6 λb=>sto Q 2 b (ci 0) λ_=>K a) w):Gives Q 91 #[f0,H] w K:=aw func91 kr (mpK h)
def NQ{K:KV}{f0:oF}(h:bj f0 (λa=>aq Q 194 a 0 λa=>aq Q 49 a 7 λa=>ld Q 32 a λa=>bT .gtr 32 a (cu 0) λa=>bj f0 λb=>aq Q 194 b 0 λb=>aq Q 49 b 7 λb=>sto Q 32 b (cu 0) λ_=>K a) w):Gives Q 92 #[f0] w K:=aw func92 kr (mpK h)
def OO{K:KV}{f0:oF}(h:sN f0 (λa=>sF 194 a 0 λa=>sF 49 a 8 λa=>sL 32 a λa=>sti (bT .gtr 32 a (cu 0)) λb w=>aT b true (λc=>sN f0 (λa=>sF 194 a 0 λb=>sF 49 b 8 λd=>sL 32 d λe=>sN f0 λf=>sF 194 f 0 λg=>sF 49 g 7 λh=>sL 32 h λi=>sti (bF .neq 32 e i) λj=>c [f0,a,b,d,e,f0,f,g,h,i,j]) w) (λk=>k [uu,uu,uu,uu,uu,uu,uu,uu,uu,uu,uu] w) λa=>sti (pick b (gd a 10) cF) λe=>bj f0 λa=>aq Q 194 a 0 λa=>aq Q 49 a 8 λa=>sto Q 32 a (cu 0) λ_=>call Q 92 #[f0] λa w=>aT a true (λd=>d [e] w) (λk=>k [uu] w) λb=>pick a (gd b 0) cF K) w.drew):Gives Q 93 #[f0] w K:=aw func93 kr (mpK h)
def OP{K:KV}{f0:oF}(h:sN f0 (λa=>sF 194 a 0 λa=>sF 49 a 5 λa=>sL 3 a λa=>sti (call Q 73 #[a]) λb w=>aT b true (λb=>sN f0 (λa=>sF 194 a 0 λc=>sF 49 c 5 λd=>sL 3 d λe=>sN f0 λf=>sF 194 f 0 λg=>sF 49 g 0 λh=>sL 3 h λi=>sti (bF .neq 3 e i) λj=>b [f0,a,c,d,e,f0,f,g,h,i,j]) w) (λk=>k [uu,uu,uu,uu,uu,uu,uu,uu,uu,uu,uu] w) λa=>sti (pick b (gd a 10) cF) λc=>bj f0 λa=>aq Q 194 a 0 λa=>aq Q 49 a 5 λa=>sto Q 3 a (ci 0) λ_=>K c) w.drew):Gives Q 94 #[f0] w K:=aw func94 kr (mpK h)
def Cf(f0 t7 t24:oF)(zf:oD):=f0::zT zf 1 6 (t7::zT zf 8 16 (t24::zT zf 25 21 ([])))
def Cg(f0:oF)(zf:oD):=f0::zT zf 1 45 ([])
def iG(K:KV):KE:=kZ f75 [1,1] K
def py(K:KV):KE:=aj Q (cd f75 (b1 3455)) (iG K) (xx xf (iG K) 0) (rk f75 K)
section
variable {K:KV}{f0 t7 t24:oF}  
def Ml{K:KV}{f0:oF}(h:bj f0 (λa=>aq Q 194 a 0 λb=>aq Q 49 b 3 λc=>ld Q 5 c λd=>bT .eql 5 d (cb 1) λe w=>cond e (call Q 91 #[f0,ci 0] K w) (bT .eql 5 d (cb 2) (λf w=>cond f (call Q 91 #[f0,ci 1] K w) (bT .eql 5 d (cb 3) (λg w=>cond g (call Q 91 #[f0,ci 1] (λb w=>aT b true (λb=>call Q 92 #[f0] (λd=>b [f0,d]) w) (λk=>k [uu,uu] w) λa=>pick b (gd a 1) cF K) w) (bT .eql 5 d (cb 4) (λh=>py K (Cf f0 d h (zV (zV (zV (zV (zV zu 2 [cF,f0,a,b,c]) 8 [e,e]) 12 [f,f]) 16 [g,g]) 25 [h]))) w)) w)) w)) w):Gives Q 75 #[f0] w K:=by refine aw func75 kr <|Eq.mp (qH (λc=>aj Q c _ _ _ _ w) (by kernel_rfl:(rep (b1 3455) (cd f75 (b1 3455)) (cd f75 []))=(cd f75 []))) ?_;revert h;delta py iG;generalize (cd f75 (b1 3455))=xc0;exact mpF
def Kk(h:cond t24 (call Q 93 #[f0] K w) (bT .eql 5 t7 (cb 5) (λa w=>cond a (call Q 91 #[f0,ci 1] (λa w=>aT a true (λc=>call Q 94 #[f0] (λa=>c [f0,a]) w) (λk=>k [uu,uu] w) λb=>pick a (gd b 1) cF K) w) (bT .eql 5 t7 (cb 6) (λb w=>cond b (call Q 94 #[f0] K w) (iG K (Cg f0 (zV (zV (zV (zV zf 7 [t7]) 24 [t24]) 28 [a,a]) 36 [b,b])) w)) w)) w)):py K (Cf f0 t7 t24 zf) w:=by delta py;revert h;generalize (iG K)=qc0;exact mpF
def Kl(h:bj f0 (λa=>aq Q 194 a 0 λa=>aq Q 49 a 3 λa=>ld Q 5 a λa=>bT .eql 5 a (cb 7) K) w):iG K (Cg f0 zf) w:=mpK h
end
attribute [irreducible] iG py
def HJ(e1 f3:oF)(zf:oD):=zf 0::e1::zf 2::f3::zT zf 4 51 ([])
def vG(K:KV):KE:=aj Q (cd f58 [1,1,1,1]) (rk f58 K) xf (rk f58 K)
section
variable {K:KV}{e1 f3:oF}  
def XY{K:KV}(h:box Q 49 H (λc w=>sF 49 c 0 (λe=>sL 3 e λg=>sti (call Q 73 #[g]) λh=>sti (un Q .not h) λi w=>aT i false (λj=>sF 49 c 1 (λa=>sL 32 a λb=>sti (bT .lss 32 b (cu 1)) λc=>j [a,b,c]) w) (λk=>k [uu,uu,uu] w) λd=>sti (pick i cT (gd d 2)) λj w=>aT j false (λg=>sF 49 c 1 (λa=>sL 32 a λb=>sti (bT .geq 32 b (cu 1099511627776)) λc=>g [a,b,c]) w) (λk=>k [uu,uu,uu] w) λb=>sti (pick j cT (gd b 2)) λk w=>aT k false (λi=>sF 49 c 0 (λa=>sL 3 a λb=>sti (bT .sub 3 b (ci 1)) λd=>sF 49 c 2 λe=>sI 34 e d λf=>sL 32 f λg=>sF 49 c 1 λc=>sL 32 c λh=>sti (bT .sub 32 h (cu 1)) λj=>sti (bF .neq 32 g j) λk=>i [a,b,d,e,f,g,c,h,j,k]) w) (λk=>k [uu,uu,uu,uu,uu,uu,uu,uu,uu,uu] w) λa=>sti (pick k cT (gd a 9)) λl w=>cond l (K cF w) (aq Q 49 c 2 (λm=>slc Q 34 m none none none λf=>call Q 74 #[f] λn=>bT .geq 32 n (cu 1099511627776) λo w=>cond o (K cF w) (ld Q 49 c (λp=>bld Q 194 #[(0,p)] λr=>box Q 194 r λs=>vG K (HJ c s (zV (zV (zV zu 0 [H]) 2 [cF]) 4 [e,g,h,i,i,gd d 0,gd d 1,gd d 2,j,j,gd b 0,gd b 1,gd b 2,k,k,gd a 0,gd a 1,gd a 2,gd a 3,gd a 4,gd a 5,gd a 6,gd a 7,gd a 8,gd a 9,l,m,f,n,o,p,r,s]))) w)) w)) w.drew) w):Gives Q 58 #[H] w K:=by refine aw func58 kr <|Eq.mp (qH (λc=>aj Q c _ _ _ _ w) (by kernel_rfl:(rep [1,1,1,1] (cd f58 [1,1,1,1]) (cd f58 []))=(cd f58 []))) ?_;revert h;delta vG;generalize (cd f58 [1,1,1,1])=xc0;exact mpF
def Vi(h:aL (λ_=>call Q 75 #[f3] λh=>aL λS w=>hG h true S (λk=>k f3) λa=>hG h true S (bj a) λa=>hG h true S (aq Q 194 a 0) λa=>hG h true S (ld Q 49 a) λi=>hG h true S (aq Q 49 e1 0) λa=>hG h true S (ld Q 3 a) λb=>hG h true S (aq Q 49 e1 1) λc=>hG h true S (ld Q 32 c) λd=>hG h true S (aq Q 49 e1 2) λe=>hG h true S (ld Q 34 e) λf=>hG h true S (aq Q 49 e1 3) λa=>hG h true S (ld Q 5 a) λg=>hG h true S (bld Q 49 #[(0,b),(1,d),(2,f),(3,g)]) λa=>hG h true S (bF .eql 49 i a) λi=>hld S (pick h i cF) λa=>K a w) w.drew):vG K (HJ e1 f3 zf) w:=mpK h
end
attribute [irreducible] vG
section
attribute [local irreducible] bin un conv call bS blt slc aq fld bv idx lkp fJ nl eSt rng nxt ent ext alc box bld cH ld sto bj fK mkS ifc pick rdy wts aT sti cond bA Gives aj iK kH cOp
def lT{K:KV}(h:K (pA b (o+0)) w):aq Q 194 (pA b o) 0 K w:=aQ kr h
section
variable  {K:KV}  {e:EV}
def zc5{i:Int}(h:K (.bool (bO i)) w):call Q 73 #[ci i] K w:=by
 refine ao (goK func73) (TP (cJ ?_));unfold bO at h;by_cases a:i≥1
 .rw[show decide (1<=i)=true from qF a,qY]at h;exact ck a (kq (bR a h))
 .rw[show decide (1<=i)=false from qE a,qZ]at h;exact dt a (bG a h)
def Qg{l:Int}(j:blk w f 194 (evC e))(h:∀S,blk S f 194 (evC {e with n:=0,a:=0})->Oth f w S->K (.bool (decide (l<=e.a)&&decide (e.a<=1125899906842624))) S):call Q 91 #[pA f 0,ci l] K w:=by
 refine ao (goK func91) (Mm (au (lT (tf (lK (v:=iv e.a) j rfl (cJ ?_))))));have d:∀b:Bool,b=(decide (l<=e.a)&&decide (e.a<=1125899906842624))->bj (pA f 0) (λm=>aq Q 194 m 0 λo=>aq Q 49 o 4 λp=>sto Q 32 p (cu 0) λ_=>bj (pA f 0) λq=>aq Q 194 q 0 λr=>aq Q 49 r 6 λs=>sto Q 2 s (ci 0) λ_=>K (.bool b)) w:=by
  rintro b rfl;refine au (lT (qo (dw kf j (by show 9<14;decide) rfl λy c g=>au (lT (tf (dw kf c (by show 11<14;decide) rfl λx u i=>?_))))));exact h x u ⟨i.os.trans g.os,i.tape.trans g.tape,i.output.trans g.output,i.size.trans g.size,λk t=>(i.other k t).trans (g.other k t)⟩
 by_cases c:e.a≥l
 .refine ck c (au (lT (tf (lK (v:=iv e.a) j rfl (kq (bR c ?_))))));exact d _ (by rw[show decide (l<=e.a)=true from qF c,qY])
 .refine dt c (bG c ?_);exact d _ (by rw[show decide (l<=e.a)=false from qE c,qZ])
def zc8(a:blk w f 194 (evC e))(h:∀S,blk S f 194 (evC {e with r:=0})->Oth f w S->K (.bool (decide (0<e.r))) S):call Q 92 #[pA f 0] K w:=by refine ao (goK func92) (NQ (au (lT (wQ (lK (v:=u6 e.r) a rfl (dE ?_))))));exact au (lT (wQ (dw kf a (by show 12<14;decide) rfl λd b c=>h d b c)))
def zjj(x:blk w f 194 (evC e))(h:∀S,blk S f 194 (evC {e with f:=0,r:=0})->Oth f w S->K (.bool (decide (0<e.r)&&(decide (0<e.f)&&decide (e.f≠e.r)))) S):call Q 93 #[pA f 0] K w:=by
 have m:=x.drew;refine ao (goK func93) (OO (ah (λ_=>au) (ah (λ_=>lT) (ah (λ_=>DH) (ah (v:=u6 e.f) (λ_=>lK m rfl) (ah (λ_=>dE) ?_))))))
 have d:∀b:Bool,b=(decide (0<e.f)&&decide (e.f≠e.r))->bj (pA f 0) (λp=>aq Q 194 p 0 λq=>aq Q 49 q 8 λs=>sto Q 32 s (cu 0) λ_=>call Q 92 #[pA f 0] λj w=>aT j true (λo=>o [.bool b] w) (λk=>k [undef] w) λl=>pick j (gd l 0) cF K) w.drew:=by
  rintro b rfl;refine au (lT (DH (dw kf m (by show 13<14;decide) rfl λz a g=>zc8 (e:={e with f:=0}) a λy u i=>?_)));have n:=h y u ⟨i.os.trans g.os,i.tape.trans g.tape,i.output.trans g.output,i.size.trans g.size,λk t=>(i.other k t).trans (g.other k t)⟩;show aT (.bool (decide (0<e.r))) true _ _ _;by_cases c:0<e.r
  .rw[show decide (0<e.r)=true from qF c,qY]at n;exact ck c (bR c n)
  .rw[show decide (0<e.r)=false from qE c,qZ]at n;exact dt c (bG c n)
 by_cases a:0<e.f
 .refine ck a (ah (λ_=>au) (ah (λ_=>lT) (ah (λ_=>DH) (ah (v:=u6 e.f) (λ_=>lK m rfl) (ah (λ_=>au) (ah (λ_=>lT) (ah (λ_=>wQ) (ah (v:=u6 e.r) (λ_=>lK m rfl) (ah (λ_=>bo) (ah (λ_=>bR a) ?_))))))))));exact d _ (by rw[show decide (0<e.f)=true from qF a,qY])
 .refine dt a (ah (λ_=>bG a) ?_);exact d _ (by rw[show decide (0<e.f)=false from qE a,qZ])
def zfg(m:blk w f 194 (evC e))(h:∀S,blk S f 194 (evC {e with t:=0})->Oth f w S->K (.bool (bO e.t&&decide (e.t≠e.o))) S):call Q 94 #[pA f 0] K w:=by
 have d:=m.drew;refine ao (goK func94) (OP (ah (λ_=>au) (ah (λ_=>lT) (ah (λ_=>yD) (ah (v:=iv e.t) (λ_=>lK d rfl) (ah (λ_=>zc5) ?_))))));have a:∀b:Bool,b=(bO e.t&&decide (e.t≠e.o))->bj (pA f 0) (λg=>aq Q 194 g 0 λi=>aq Q 49 i 5 λj=>sto Q 3 j (ci 0) λ_=>K (.bool b)) w.drew:=by
  rintro b rfl;exact au (lT (yD (dw kf d (by show 10<14;decide) rfl λn l c=>h n l ⟨c.os,c.tape,c.output,c.size,c.other⟩)))
 cases k:bO e.t with
 | true =>
  refine my (ah (λ_=>au) (ah (λ_=>lT) (ah (λ_=>yD) (ah (v:=iv e.t) (λ_=>lK d rfl) (ah (λ_=>au) (ah (λ_=>lT) (ah (λ_=>fS) (ah (v:=iv e.o) (λ_=>lK d rfl) (ah (λ_=>bo) (ah (λ_=>dD) ?_))))))))));exact a _ (by rw[k,qY])
 | false =>
  refine js (ah (λ_=>cA) ?_);exact a _ (by rw[k,qZ])
end
def CO(e:EV):EV:={e with
 n:=if e.k=1\/e.k=2\/e.k=3\/e.k=5 then 0 else e.n
 a:=if e.k=1\/e.k=2\/e.k=3\/e.k=5 then 0 else e.a
 t:=if e.k=5\/e.k=6 then 0 else e.t
 r:=if e.k=3\/e.k=4 then 0 else e.r
 f:=if e.k=4 then 0 else e.f}
def zaM(e:EV):EV:={e with n:=0,a:=0,t:=0,r:=0,f:=0}
def zf1{e:EV}:CO e=zaM e↔e=FO e:=by
 obtain⟨o,s,i,j,l,m,p,q,k,n,t,a,r,f⟩:=e;simp only[CO,zaM,FO,EV.mk.injEq,true_and];constructor
 .rintro⟨b,c,d,g,h⟩;refine⟨?_,?_,?_,?_,?_⟩<;>split<;>simp_all
 .rintro⟨b,c,d,g,h⟩;refine⟨?_,?_,?_,?_,?_⟩<;>split<;>simp_all
section
variable  {K:KV}  {e:EV}
def zfW(q:blk w f 194 (evC e))(h:∀O e',blk O f 194 (evC e')->Oth f w O->(fdE e=true->e'=CO e)->K (.bool (fdE e)) O):call Q 75 #[pA f 0] K w:=by
 refine ao (goK func75) (Ml (au (lT (DE (lK (v:=kv8 e.k) q rfl (aU ?_))))));have F:∀{j S:oG},Oth f w j->Oth f j S->Oth f w S:=λd u=>⟨u.os.trans d.os,u.tape.trans d.tape,u.output.trans d.output,u.size.trans d.size,λk E=>(u.other k E).trans (d.other k E)⟩
 by_cases m:e.k=1
 .refine aG m (Qg q λj l d=>?_);have g:=h j _ l d (λ_=>by unfold CO;rw[m];simp);rwa[show fdE e=(decide (0<=e.a)&&decide (e.a<=1125899906842624))by unfold fdE;rw[oJ m]]at g
 refine aB m (aU ?_);by_cases p:e.k=2
 .refine aG p (Qg q λj l d=>?_);have g:=h j _ l d (λ_=>by unfold CO;rw[p];simp);rwa[show fdE e=(decide (1<=e.a)&&decide (e.a<=1125899906842624))by unfold fdE smE;rw[oI m,oJ p]]at g
 refine aB p (aU ?_);by_cases s:e.k=3
 .have B:fdE e=((decide (1<=e.a)&&decide (e.a<=1125899906842624))&&decide (0<e.r)):=by
   unfold fdE smE;rw[oI m,oI p,oJ s];rfl
  refine aG s (Qg q λj l d=>?_);cases i:(decide (1<=e.a)&&decide (e.a<=1125899906842624))with
  | true =>
   refine my (zc8 (e:={e with n:=0,a:=0}) l λS D u=>dD ?_);have g:=h S _ D (F d u) (λ_=>by unfold CO;rw[s];simp);rwa[B,i,qY]at g
  | false =>
   refine js (cA ?_);have g:=h j _ l d (λA=>by rw[B,i]at A;cases A);rwa[B,i,qZ]at g
 refine aB s (aU (Kk ?_));by_cases x:e.k=4
 .refine aG x (zjj q λj l d=>?_);have g:=h j _ l d (λ_=>by unfold CO;rw[x];simp);rwa[show fdE e=(decide (0<e.r)&&(decide (0<e.f)&&decide (e.f≠e.r)))by
   unfold fdE;rw[oI m,oI p,oI s,oJ x,Bool.eq_iff_iff];simp only[oM,oP];constructor<;>(rintro⟨a,b,c⟩;exact⟨by omega,by omega,λh=>c h.symm⟩)]at g
 refine aB x (aU ?_);by_cases y:e.k=5
 .have C:fdE e=((decide (1<=e.a)&&decide (e.a<=1125899906842624))&&(bO e.t&&decide (e.t≠e.o))):=by
   unfold fdE smE otE;rw[oI m,oI p,oI s,oI x,oJ y]
  refine aG y (Qg q λj l d=>?_);cases i:(decide (1<=e.a)&&decide (e.a<=1125899906842624))with
  | true =>
   refine my (zfg (e:={e with n:=0,a:=0}) l λS D u=>dD ?_);have g:=h S _ D (F d u) (λ_=>by unfold CO;rw[y];simp);rwa[C,i,qY]at g
  | false =>
   refine js (cA ?_);have g:=h j _ l d (λA=>by rw[C,i]at A;cases A);rwa[C,i,qZ]at g
 refine aB y (aU ?_);by_cases z:e.k=6
 .refine aG z (zfg q λj l d=>?_);have g:=h j _ l d (λ_=>by unfold CO;rw[z];simp);rwa[show fdE e=(bO e.t&&decide (e.t≠e.o))by unfold fdE otE;rw[oI m,oI p,oI s,oI x,oI y,oJ z]]at g
 refine aB z (Kl (au (lT (DE (lK (v:=kv8 e.k) q rfl (aU ?_))))));have g:=h w e q ⟨rfl,rfl,rfl,rfl,λ_ _=>rfl⟩ (λ_=>by unfold CO;simp[m,p,s,x,y,z]);rwa[show fdE e=decide (e.k=7)by unfold fdE;rw[oI m,oI p,oI s,oI x,oI y,oI z]]at g
def ziF{cs:oE}{V:List Int}(c:blk w b E cs)(g:∀k,k<6->cs[2+k]? = some (u6 (V.getD k 0)))(h:∀m:Int,(∀k,k<6->V.getD k 0<=m)->(∃k,k<6/\m=V.getD k 0)->K (u6 m) w):call Q 74 #[.slice (some ⟨b,2,none⟩) 6 6] K w:=by
 refine ao (goK func74) (Fq (bM underlying172 (aW (Df (aB dc (Dh ?_))))));refine gO underlying172 (s:=1) kf dc dc <|lK (v:=u6 (V.getD 0 0)) c (g 0 oo) ?_;refine Dg (Inv:=λm i q => ∃(x:Int) (k:Nat),m=u6 x/\i=ci (k:Nat)/\1<=k/\k<=6/\q=w/\(∀j,j<k->V.getD j 0<=x)/\∃j,j<6/\x=V.getD j 0) (μ:=λ_ i _=>6-(intOf i).toNat)
  ⟨_,1,rfl,rfl,by omega,by omega,rfl,λj d=>by rw[show j=0 by omega];exact Int.le_refl _,0,by omega,rfl⟩ ?_
 rintro _ _ r _ m ⟨x,k,rfl,rfl,n,o,rfl,a,l⟩ p;refine bM underlying172 (aW ?_);by_cases f:k<6
 .refine aG oo (gO underlying172 (s:=1) kf oo oo ?_);rw[oQ,Nat.mul_one];refine lK (v:=u6 (V.getD k 0)) c (g k f) (Uf (aY oo oo ?_));refine⟨⟨_,k+1,rfl,ivS,by omega,by omega,rfl,λj d=>?_,?_⟩,by rw[p];show 6-((k:Int)+1).toNat<6-(k:Int).toNat;omega⟩
  .by_cases e:j=k
   .subst e;split<;>omega
   .have:=a j oo;split<;>omega
  .split
   .exact⟨k,f,rfl⟩
   .exact l
 .refine aB oo (Di (h x (λj d=>a j oo) l))
end
section
variable  {K:KV}
def zgw{e:EV}(u:blk w b 49 (evC e))(z:blk w f 194 (evC e))(p:b≠f)(F:S.heap.size<=f)(D:Z=pA b 0)(E:H=pA f 0)(i:Below S.heap.size S w)(h:∀w',Below S.heap.size S w'->K (.bool (decide (e=FO e)&&fdE e)) w'):vG K ((HJ Z H zf)) w:=by
 subst D;subst E;refine Vi ?_;refine ax (λ_=>True) trivial (zfW z.drew λO l t d A=>?_);have d:Oth f w O:=⟨d.os,d.tape,d.output,d.size,d.other⟩
 have m:blk O b 49 (evC e):=by unfold blk;rw[d.other b p];exact u
 have B:Below S.heap.size S O:=⟨d.os.trans i.os,d.tape.trans i.tape,d.output.trans i.output,by rw[d.size];exact i.size,λk g=>(d.other k oo).trans (i.block k g)⟩
 have j:=h O B;refine ax (λx=>blk x b 49 (evC e)/\blk x f 194 (evC l)) ⟨m,t⟩ ?_;cases g:fdE e with
 | true =>
  have y:l=CO e:=A g;rw[g,Bool.and_true]at j
  refine qp rfl (λx c K a=>a) <|qp rfl (λx c _=>au) <|qp rfl (λx c _=>lT) <|qp rfl (λx c _=>ldA (n:=14) (vs:=evC l) underlying49 rfl kr c.2 rfl rfl) <|qp rfl (λx c _=>fS) <|qp rfl (λx c _=>lK (v:=iv e.o) c.1 rfl) <|qp rfl (λx c _=>pC) <|qp rfl (λx c _=>lK (v:=u6 e.s) c.1 rfl) <|qp rfl (λx c _=>Bv) <|qp rfl (λx c _=>ldA (n:=6) (vs:=[u6 e.d0,u6 e.d1,u6 e.d2,u6 e.d3,u6 e.d4,u6 e.d5]) underlying34 rfl kr c.1 rfl rfl) <|qp rfl (λx c _=>DE) <|qp rfl (λx c _=>lK (v:=kv8 e.k) c.1 rfl) <|qp rfl (λx c _=>cE (vs:=evC (zaM e)) kr) ?_
  refine qp (x:=.bool (decide (e=FO e))) rfl (λx c K a=>UT 3 oo kr kr kr kr λr q=>by
   have:r=decide (e=FO e):=by rw[zfT,y,zf1]at q;exact Bool.eq_iff_iff.2 (q.trans decide_eq_true_iff.symm)
   rw[this];exact a) ?_
  exact ac (λx c _=>dD) j
 | false =>
  rw[g,Bool.and_false]at j;have C:asB (.bool false)≠some true:=by simp[asB]
  iterate 14 refine Ys C ?_
  exact ac (λx c _=>cA) j
def Fi{e:EV}(h:∀S,Below w.heap.size w S->K (.bool (dI e)) S):call Q 58 #[.agg (evC e).toArray] K w:=by
 refine ao (goK func58) (XY ?_);refine bU λf b g H=>?_;have b:=cZ b
 have b:blk f.drew w.heap.size 49 (evC e):=b.drew;have g:Below w.heap.size w f.drew:=g.drew;have j:dI e=false->K (.bool false) f.drew:=λu=>by have:=h _ g;rw[u]at this;exact this
 refine ah (λ_=>fS) <|ah (v:=iv e.o) (λ_=>lK b rfl) <|ah (λ_=>zc5) <|ah (λ_=>bH) ?_;cases d:bO e.o with
 | false =>
  refine iQ <|ah (λ_=>dD) <|iQ <|ah (λ_=>dD) <|iQ <|ah (λ_=>dD) <|bc ?_;exact j (by simp[dI,d])
 | true =>
  refine eK <|ah (λ_=>pC) <|ah (v:=u6 e.s) (λ_=>lK b rfl) <|ah (λ_=>aW) <|ah (λ_=>cA) ?_;by_cases l:e.s<1
  .refine kW l <|ah (λ_=>bR l) <|iQ <|ah (λ_=>dD) <|bc ?_;exact j (by simp[dI,d];omega)
  refine dL l <|ah (λ_=>pC) <|ah (v:=u6 e.s) (λ_=>lK b rfl) <|ah (λ_=>cJ) <|ah (λ_=>bG l) ?_;by_cases p:e.s≥1099511627776
  .refine kW p <|ah (λ_=>bR p) <|bc ?_;exact j (by simp[dI,d];omega)
  refine dL p ?_;have G:1<=e.o/\e.o<=6:=by simpa[bO]using d
  obtain⟨k,z⟩:∃k:Nat,k=(e.o-1).toNat:=⟨_,rfl⟩
  refine ah (λ_=>fS) <|ah (v:=iv e.o) (λ_=>lK b rfl) <|ah (v:=ci ((k:Nat):Int)) (λK a=>nT (by rw[eY oo oo,show (e.o-1)=(k:Nat)by omega];exact a)) <|ah (λ_=>Bv) <|ah (λ_=>ixV rfl oo) <|ah (v:=u6 (e.V.getD k 0)) (λ_=>lK b (zfa oo)) <|ah (λ_=>pC) <|ah (v:=u6 e.s) (λ_=>lK b rfl) <|ah (v:=u6 (e.s-1)) (λK a=>nT (by rw[gu,show (e.s-1)%18446744073709551616=e.s-1 by omega];exact a)) <|ah (λ_=>bo) <|ah (λ_=>bG p) ?_
  by_cases c:e.V.getD k 0≠e.s-1
  .refine aG c ?_;exact j (by simp[dI,d, <-z];intro _ _ u;exact qI u c)
  refine aB c ?_;have c:e.V.getD k 0=e.s-1:=by simpa using c
  refine Bv (zd3 underlying34 (s:=1) kf (ziF (V:=e.V) b (λq i=>zfa i) λm x C=>cJ ?_));by_cases r:m≥1099511627776
  .refine aG r <|j ?_;obtain⟨q,i,rfl⟩:=C
   have:(List.range 6).all (λk=>decide (e.V.getD k 0<1099511627776))=false:=by
    rw[List.all_eq_false];exact⟨q,by simpa using i,by simp;simpa using r⟩
   unfold dI;rw[this];simp
  refine aB r <|ldA (n:=14) (vs:=evC e) underlying49 rfl kr b rfl rfl <|cE (vs:=evC e) kr ?_;refine bU λE t y I=>?_;have t:=cZ t
  have B:w.heap.size<f.drew.heap.size:=b.lt;refine zgw (ae y b b.lt) t oo oo rfl rfl (g.trans (y.mono g.size)) λF D=>?_
  have:=h F D
  have A:(List.range 6).all (λk=>decide (e.V.getD k 0<1099511627776))=true:=by
   rw[jR];exact λq i=>by have:=x q (by simpa using i);simpa using (by omega:e.V.getD q 0<1099511627776)
  unfold dI at this;rw[d,A, <-z,c,show decide (1<=e.s)=true from qF oo,show decide (e.s<1099511627776)=true from qF oo]at this;simpa using this
end
def Te{K:KV}(h:bT .geq 3 H (ci 1) (λb w=>aT b true (λb=>bT .leq 3 H (ci 6) (λa=>b [H,a]) w) (λk=>k [uu,uu] w) λa=>pick b (gd a 1) cF K) w):Gives Q 110 #[H] w K:=aw func110 kr (mpK h)
def LW(of0 v2 t4:oF)(zf:oD):=of0::zf 1::v2::zf 3::t4::zT zf 5 9 ([])
def LX(v2:oF)(zf:oD):=zf 0::zf 1::v2::zT zf 3 11 ([])
def om(K:KV):KE:=kZ f70 [1,1] K
def Ab(K:KV):KE:=aj Q (cd f70 [1,0,1,0]) (om K) (xx xf (om K) 0) (rk f70 K)
section
variable {K:KV}{of0 v2 t4:oF}  
def Wk{K:KV}(h:alc Q 34 (λa=>Ab K (LW H a (ci 0) zu)) w):Gives Q 70 #[H] w K:=aw func70 kr (mpK h)
def T9(Inv:oF->oG->Prop)(μ:oF->oG->Nat)(f:Inv t4 w)(i:∀(a:oF) (e:oD) (w:oG) (m:Nat),Inv a w->m=μ a w ->
  bT .lss 3 a (ci 6) (λb w=>cond b (bS Q of0 #[a] (λb=>bv Q 34 v2 a λc=>sto Q 32 c b λ_=>nC a λa w=>(Inv a w)/\((μ a w)<m)) w) (om K (LX v2 (zV (zV e 0 [of0]) 4 [a,b])) w)) w):Ab K (LW of0 v2 t4 zf) w:=by refine aZ (cd f70 (b1 52)) (zr [(3,10)]) kr (vP [4] Inv) (vQ [4] μ) f ?_;intro d j g;have h:=i _ (zM zf (gd d) (zr [(3,10)])) j _ g rfl;revert h;generalize (om K)=qc0;exact mpF
def Ta(h:ld Q 34 v2 (λa=>sto Q 34 v2 a λ_=>bA Q [(some 34,v2)] K) w):om K (LX v2 zf) w:=mpK h
end
attribute [irreducible] om Ab
def LY(Dt t4 Ea t16 t17 t18:oF)(zf:oD):=zT zf 0 3 (Dt::t4::Ea::zT zf 6 10 (t16::t17::t18::zT zf 19 7 ([])))
def LZ(t4 Ea:oF)(zf:oD):=zT zf 0 4 (t4::Ea::zT zf 6 20 ([]))
def oq(K:KV):KE:=kZ f117 [1,1,1,1] K
def Ac(K:KV):KE:=aj Q (cd f117 (b1 122)) (oq K) (xx xf (oq K) 0) (rk f117 K)
section
variable {K:KV}{Dt t4 Ea t16 t17 t18:oF}  
def Wl{K:KV}(h:box Q 240 Z (λa=>alc Q 34 λb=>lN 238 H λc=>bT .eql 3 c (ci 0) λd w=>cond d (bld Q 34 #[] (λa=>sto Q 34 b a λ_=>bA Q [(some 34,b)] K) w) (bv Q 238 H (ci 0) (λe=>ld Q 34 e λf=>alc Q 34 λg=>sto Q 34 g f λ_=>slc Q 238 H (some (ci 1)) none none λh=>lN 238 h λi=>Ac K (LY a b g h i (ci 0) (zV (zV (zV zu 0 [H,Z]) 8 [H,c,d]) 12 [H,e,f,H]))) w)) w):Gives Q 117 #[H,Z] w K:=aw func117 kr (mpK h)
def Tc(Inv:oF->oG->Prop)(μ:oF->oG->Nat)(g:Inv t18 w)(j:∀(a:oF) (f:oD) (w:oG) (m:Nat),Inv a w->m=μ a w ->
  lS a t17 (λb w=>cond b (bv Q 238 t16 a (λb=>ld Q 34 b λb=>alc Q 34 λe=>sto Q 34 e b λ_=>call Q 70 #[.func (.func 129) #[] #[Dt,Ea,e]] λb=>sto Q 34 Ea b λ_=>nC a λa w=>(Inv a w)/\((μ a w)<m)) w) (oq K (LZ t4 Ea (zV (zV f 3 [Dt]) 16 [t16,t17,a,b])) w)) w):Ac K (LY Dt t4 Ea t16 t17 t18 zf) w:=by refine aZ (cd f117 (b1 244)) (zr [(7,1),(18,7)]) kr (vP [18] Inv) (vQ [18] μ) g ?_;intro d k i;have h:=j _ (zM zf (gd d) (zr [(7,1),(18,7)])) k _ i rfl;revert h;generalize (oq K)=qc0;exact mpF
def Td(h:ld Q 34 Ea (λa=>sto Q 34 t4 a λ_=>bA Q [(some 34,t4)] K) w):oq K (LZ t4 Ea zf) w:=mpK h
end
attribute [irreducible] oq Ac
def Tb{K:KV}(h:aL (λS w=>hL S 240 Z λa=>hI S 34 U H λb=>hL S 32 b λb=>hI S 34 Y H λc=>hL S 32 c λc=>bS Q a #[b,c] (λa=>aL λ_=>K a) w) w.drew):Gives Q 129 #[H,Z,U,Y] w K:=aw func129 kr (mpK h)
def Wg{K:KV}(h:alc Q 34 (λa=>call Q 117 #[H,.func (.func 118) #[] #[]] λb=>sto Q 34 a b λ_=>bA Q [(some 34,a)] K) w):Gives Q 109 #[H] w K:=aw func109 kr (mpK h)
def SW{K:KV}(h:blt Q .max #[32,32] 32 #[false,false] #[Z,H] K w):Gives Q 118 #[Z,H] w K:=aw func118 kr (mpK h)
def Wh{K:KV}(h:box Q 34 Z (λa=>box Q 34 H λb w=>aL (λS w=>hL S 34 a λa=>hL S 34 b λc=>hL S 34 b λb=>cH Q 238 2 #[(0,a),(1,c)] (λa=>bw S λS=>call Q 109 #[a] λa=>bw S λS w=>hld S (bF .eql 34 a b) λa=>K a w) w) w.drew) w):Gives Q 89 #[Z,H] w K:=aw func89 kr (mpK h)
def Xk{K:KV}(h:box Q 34 U (λe=>call Q 110 #[Z] λb w=>aT b true (λc=>bT .gtr 32 H (cu 0) (λa=>c [H,a]) w) (λk=>k [uu,uu] w) λa=>pick b (gd a 1) cF λa w=>aT a true (λd=>bT .sub 3 Z (ci 1) (λa=>bv Q 34 e a λb=>ld Q 32 b λc=>bF .geq 32 c H λe=>d [Z,a,b,c,H,e]) w) (λk=>k [uu,uu,uu,uu,uu,uu] w) λb=>pick a (gd b 5) cF K) w):Gives Q 95 #[U,Z,H] w K:=aw func95 kr (mpK h)
def Xe{K:KV}(h:box Q 34 Z (λa=>box Q 49 H λb=>ld Q 49 b λc=>call Q 58 #[c] λc w=>aT c true (λc=>ld Q 34 a (λa=>aq Q 49 b 0 λd=>ld Q 3 d λe=>aq Q 49 b 1 λb=>ld Q 32 b λf=>call Q 95 #[a,e,f] λg=>c [a,d,e,b,f,g]) w) (λk=>k [uu,uu,uu,uu,uu,uu] w) λb=>pick c (gd b 5) cF K) w):Gives Q 77 #[Z,H] w K:=aw func77 kr (mpK h)
def VO{K:KV}(h:box Q 34 Z (λa=>box Q 49 H λb w=>aL (λS w=>hL S 49 b λc=>call Q 58 #[c] (λc=>aL λS w=>hG c true S (aq Q 49 b 0) λd=>hG c true S (ld Q 3 d) λd=>hG c true S (bT .sub 3 d (ci 1)) λd=>hG c true S (bv Q 34 a d) λd=>hG c true S (ld Q 32 d) λd=>hG c true S (aq Q 49 b 1) λe=>hG c true S (ld Q 32 e) λe=>hG c true S (bT .sub 32 e (cu 1)) λe=>hG c true S (bF .eql 32 d e) λd=>hld S (pick c d cF) λc=>hG c true S (aq Q 49 b 2) λb=>hG c true S (ld Q 34 b) λb=>hG c true S (ld Q 34 a) λa=>xG c true (call Q 89 #[b,a]) (λb=>aL λS w=>hld S (pick c b cF) λa=>K a w) w) w) w.drew) w):Gives Q 78 #[Z,H] w K:=aw func78 kr (mpK h)
end
section
def vCs(V:List Int):oE:=V.map u6
def leV(V W:List Int):Bool:=(List.range 6).all λk=>decide (V.getD k 0<=W.getD k 0)
def bE{V:List Int}:(vCs V).length=V.length:=by simp[vCs]
def BX{V:List Int}{k:Nat}(a:V.length=6)(b:k<6):(vCs V)[k]? = some (u6 (V.getD k 0)):=by
 have:k<V.length:=by omega
 simp[vCs,List.getD,gE this]
def zh2{V W:List Int}:vCs V=vCs W↔V=W:=by
 constructor
 .intro h
  have:=qH (List.map intOf) h
  simpa[vCs,u6,intOf,Function.comp_def]using this
 .rintro rfl;rfl
def Qu{V:List Int}:∀v∈vCs V,v.oneCell'=true:=by intro v a;obtain⟨x,_,rfl⟩:=qT.1 a;rfl
def aK{n:Nat}(h:Below n w S)(o:Oth b S O)(c:n<=b):Below n w O :=
 ⟨o.os.trans h.os,o.tape.trans h.tape,o.output.trans h.output,by rw[o.size];exact h.size,λk a=>(o.other k oo).trans (h.block k a)⟩
def Za{V:List Int}(g:V.length=6):∃a b c d e f,V=[a,b,c,d,e,f]:=by
 match V,g with
 | [a,b,c,d,e,f],_=>exact⟨a,b,c,d,e,f,rfl⟩
def Xr{q:Nat}{K:KV}(d:P.underlying t=some (.slice e))(b:∀w,(sizeOf e).run P w=.ok s w){n:Nat}{k:IntKind}(g:q<=n)(f:n<=c)(h:K (.slice (if c=q then av else av.map (·.add (q*s))) (n-q) (c-q)) w):slc P t (.slice av n c) (some (.int k (q:Int))) none none K w:=by
 have a:(Instr.sliceBounds true n c (some (.int k (q:Int))) none none).run P w=.ok (q,n,c) w:=by
  have:=run_sliceBound (P:=P) w k (q:Int) n .sliceB oo oo
  simp[Instr.sliceBounds]at this |-;rw[this];simp
 unfold slc;refine eJ (w':=w) ?_ h;simp only[Instr.sliceAt,Instr.slice,jX,jW,jU,jY d,b,a]
attribute [local irreducible] bin un conv call bS blt slc aq fld bv idx lkp fJ nl eSt rng nxt ent ext alc box bld cH ld sto bj fK mkS ifc pick rdy wts aT sti cond bA Gives aj iK kH cOp
section
variable  {K:KV}
def zaG{o:Int}(h:K (.bool (bO o)) w):call Q 110 #[iv o] K w:=by
 refine ao (goK func110) (Te (cJ ?_));unfold bO at h;by_cases a:o≥1
 .rw[show decide (1<=o)=true from qF a,qY]at h;exact ck a (kq (bR a h))
 .rw[show decide (1<=o)=false from qE a,qZ]at h;exact dt a (bG a h)
def ziO{V:List Int}{o s:Int}(d:V.length=6)(h:∀S,Below w.heap.size w S->K (.bool (bO o&&(decide (s>0)&&decide (V.getD (o-1).toNat 0≥s)))) S):call Q 95 #[.agg (vCs V).toArray,iv o,u6 s] K w:=by
 refine ao (goK func95) (Xk ?_);refine bU λg b e j=>?_;have b:blk g w.heap.size 34 (vCs V):=by obtain⟨_,_,_,_,_,_,rfl⟩:=Za d;simpa[Value.cells,vCs,u6]using b
 have h:=h _ e;refine zaG ?_;cases c:bO o with
 | false =>
  rw[c,qZ]at h;exact js (cA (js (cA h)))
 | true =>
  rw[c,qY]at h;refine my (dE (dD ?_));by_cases a:s>0
  .rw[show decide (s>0)=true from qF a,qY]at h;have i:1<=o/\o<=6:=by simpa[bO]using c
   obtain⟨k,f⟩:∃k:Nat,k=(o-1).toNat:=⟨_,rfl⟩
   rw[<-f]at h;refine ck a (nT (by
    rw[eY oo oo,show (o-1)=(k:Nat)by omega];exact ixV rfl oo (by rw[oK];exact lK (v:=u6 (V.getD k 0)) b (BX d oo) (cJ (bR a h)))))
  .rw[show decide (s>0)=false from qE a,qZ]at h;exact dt a (bG a h)
def Wf{G:List Int}(hG:G.length=6)(A:∀k,k<6->∀f,Below w.heap.size w f->∀K':KV,(∀S,Below f.heap.size f S->K' (u6 (G.getD k 0)) S)->bS Q Z #[iv (k:Nat)] K' f)(h:∀O,Below w.heap.size w O->K (.agg (vCs G).toArray) O):call Q 70 #[Z] K w:=by
 refine ao (goK func70) (Wk ?_);refine cD (z:=.agg #[u6 0,u6 0,u6 0,u6 0,u6 0,u6 0]) kr λf p x I=>?_;have p:blk f w.heap.size 34 [u6 0,u6 0,u6 0,u6 0,u6 0,u6 0]:=by simpa[Value.cells,u6]using p
 refine T9 (Inv:=λi u=>∃(k:Nat) (g:oE),i=iv (k:Nat)/\k<=6/\g.length=6/\(∀j,j<k->g[j]? = some (u6 (G.getD j 0)))/\blk u w.heap.size 34 g/\Below w.heap.size w u) (μ:=λi _=>6-(intOf i).toNat)
  ⟨0,_,rfl,by omega,rfl,λj l=>by omega,p,x⟩ ?_
 rintro _ F S m ⟨k,g,rfl,H,B,d,b,o⟩ C;refine aW ?_;by_cases c:k<6
 .refine aG oo (A k c S o _ λt r=>?_);have a:=ae r b b.lt;refine ixV rfl c (by
   rw[oK];refine dw kf a oo rfl λJ q E=>aY oo oo ?_;refine⟨⟨k+1,_,ivS,by omega,by rw[qN];exact B,λj l=>?_,q,aK (o.trans (r.mono o.size)) E oA⟩,by rw[C];show 6-((k:Int)+1).toNat<6-(k:Int).toNat;omega⟩;by_cases e:j=k
   .subst e;rw[jB oo]
   .rw[jA oo];exact d j oo)
 .refine aB oo (Ta ?_);have c:k=6:=by omega
  subst c;have y:g=vCs G:=by
   refine List.ext_getElem? λj=>?_;by_cases l:j<6
   .rw[d j l,BX hG l]
   .rw[jC oo,jC (by rw[bE];omega)]
  subst y;have s:((vCs G).drop 0).take 6=vCs G:=by rw[oX,tL oo]
  refine ldA (n:=6) (vs:=vCs G) underlying34 rfl kr b s oo ?_;refine fY (n:=6) kr oo b oo Qu λt a D=>?_;have a:blk t w.heap.size 34 (vCs G):=by
   have e:(vCs G).take 0++vCs G++(vCs G).drop (0+6)=vCs G:=by rw[qX,oV,oS oo,oW]
   rwa[e]at a
  exact uO (v:=.agg (vCs G).toArray) (λ_=>ldA (n:=6) (vs:=vCs G) underlying34 rfl kr a s oo) (h _ (aK o D oA))
def jV(A B:List Int):List Int:=(List.range 6).map λk=>if A.getD k 0<B.getD k 0 then B.getD k 0 else A.getD k 0
def tq{B:List Int}:(jV A B).length=6:=by simp[jV]
def Yy{B:List Int}{k:Nat}(a:k<6):(jV A B).getD k 0=if A.getD k 0<B.getD k 0 then B.getD k 0 else A.getD k 0:=by unfold jV;rw[oN,qC,List.getElem?_range a];rfl
def zjm{B:List Int}(f:B.length=6):jV A B=B↔leV A B=true:=by
 unfold leV;rw[jR];constructor
 .intro h k a;have a:k<6:=by simpa using a
  have:=Yy (A:=A) (B:=B) a
  rw[h]at this;rw[oP];split at this<;>omega
 .intro h;refine List.ext_getElem? λk=>?_;by_cases a:k<6
  .have d:=Yy (A:=A) (B:=B) a;have e:=h k (by simpa using a);rw[oP]at e;have b:(jV A B).getD k 0=(jV A B)[k]'(by rw[tq];exact a):=by rw[oN,gE (by rw[tq];exact a)];rfl
   have c:B.getD k 0=B[k]'oo:=by rw[oN,gE oo];rfl
   rw[gE (by rw[tq];exact a),gE oo, <-b, <-c,d]
   congr 1
   split<;>omega
  .rw[jC (by rw[tq];omega),jC oo]
def sA{V:List Int}(a:V.length=6):(Value.agg (vCs V).toArray).cells.toList=vCs V:=by obtain⟨_,_,_,_,_,_,rfl⟩:=Za a;simp[Value.cells,vCs,u6]
def yX{V:List Int}(a:V.length=6)(h:∀S,blk S w.heap.size 34 (vCs V)->Below w.heap.size w S->S.heap.size=w.heap.size+1->K (pA w.heap.size 0) S):box Q 34 (.agg (vCs V).toArray) K w :=
 bU λS c b s=>h S (by rwa[sA a]at c) b s
def IU(h:∀S,blk S w.heap.size 34 (vCs [0,0,0,0,0,0])->Below w.heap.size w S->S.heap.size=w.heap.size+1->K (pA w.heap.size 0) S):alc Q 34 K w :=
 cD (z:=.agg #[u6 0,u6 0,u6 0,u6 0,u6 0,u6 0]) kr λS a b s=>h S (by simpa[Value.cells,vCs,u6]using a) b s
def tT{V:List Int}(c:V.length=6)(a:blk w b 34 (vCs V))(h:K (.agg (vCs V).toArray) w):ld Q 34 (pA b 0) K w :=
 ldA (n:=6) (vs:=vCs V) underlying34 rfl kr a (by rw[oX,tL (by rw[bE];omega)]) (by rw[bE];omega) h
def Fx{V W:List Int}(f:V.length=6)(c:W.length=6)(d:blk w b 34 (vCs V))(h:∀S,blk S b 34 (vCs W)->Oth b w S->K undef S):sto Q 34 (pA b 0) (.agg (vCs W).toArray) K w:=by
 have g:=bE (V:=V);refine fY (n:=6) kr (by rw[bE,c]) d oo Qu λS a o=>h S ?_ o;have e:(vCs V).take 0++vCs W++(vCs V).drop (0+6)=vCs W:=by rw[qX,oV,oS oo,oW]
 rwa[e]at a
def zg9{y:Int}(h:K (u6 (if x<y then y else x)) w):call Q 118 #[u6 x,u6 y] K w :=
 ao (goK func118) (SW (Uf h))
def zfY{a:Nat}{B:List Int}{k:Nat}(g:A.length=6)(i:B.length=6)(f:k<6)(m:blk w c E [.func (.func 118) #[] #[]])(j:blk w a 34 (vCs A))(l:blk w b 34 (vCs B))(h:K (u6 ((jV A B).getD k 0)) w.drew):call Q 129 #[iv (k:Nat),pA c 0,pA a 0,pA b 0] K w:=by
 refine ao (goK func129) (Tb ?_)
 refine ax (λx=>blk x c E [.func (.func 118) #[] #[]]/\blk x a 34 (vCs A)/\blk x b 34 (vCs B)) ⟨m.drew,j.drew,l.drew⟩ <|ac (v:=.func (.func 118) #[] #[]) (λx e _=>lK e.1 rfl) <|ac (λx e _=>ixV rfl f) <|ac (v:=u6 (A.getD k 0)) (λx e _=>lK e.2.1 (by rw[oK];exact BX g f)) <|ac (λx e _=>ixV rfl f) <|ac (v:=u6 (B.getD k 0)) (λx e _=>lK e.2.2 (by rw[oK];exact BX i f)) ?_
 refine cB rfl (zg9 (ax (λ_=>True) trivial ?_));rwa[Yy f]at h
end
end
section
attribute [local irreducible] bin un conv call bS blt slc aq fld bv idx lkp fJ nl eSt rng nxt ent ext alc box bld cH ld sto bj fK mkS ifc pick rdy wts aT sti cond bA Gives aj iK kH cOp
def oh(A:List Int)(x:Int)(a:Bool)(E:Int)(q:Nat):List Int×Int :=
 if nu A=false\/x<1\/MXA<x then (z54,1)else if a=false then (z54,10)else if E≠0 then (z54,E)else CN A q x
section
variable  {K:KV}
def Ec{q:Nat}{E:Int}(a:A.length=54)(B:q<54)(k:nu A=true->1<=x->x<=MXA->cx=true->∀d,Below w.heap.size w d->∀K':KV,(∀w2,Below d.heap.size d w2->K' (ci E) w2)->bS Q U #[] K' d)(l:cx=true->∀d b,Below w.heap.size w d->∀K':KV,K' (pA b q) d.drew->bS Q Z #[pA b 0] K' d)(h:∀S,Below w.heap.size w S->K (.tuple #[.agg ((oh A x cx E q).1.map iv).toArray,ci (oh A x cx E q).2]) S):call Q 318 #[.agg (A.map iv).toArray,ci x,.bool cx,U,Z] K w:=by
 refine ao (goK func318) (SQ ?_);refine RV3.make a λd C P=>?_;have i:((A.map iv).drop 0).take 54=A.map iv:=by rw[oX,tL (by simp[a])]
 refine ldA (n:=54) (vs:=A.map iv) underlying56 rfl kr C.r i (by simp[a]) ?_;refine zcS a λw2 F=>bH (PG ?_);have g:=C.fresh F;unfold oh at h;have H:MXA=1125899906842624:=rfl;rw[zcq];cases u:nu A with
 | false =>
  rw[oJ (.inl u)]at h;exact bc (yT (bc (g.no h)))
 | true =>
  have J:=Sk u;refine aD (aW ?_);by_cases m:x<1
  .rw[oJ (.inr (.inl m))]at h;exact aG m (yT (aG m (g.no h)))
  refine aB m (dE (yT ?_));by_cases z:1125899906842624<x
  .rw[oJ (.inr (.inr z))]at h;exact aG z (g.no h)
  refine aB z (bH ?_);rw[oI (by rw[u];simp;omega)]at h;cases cx with
  | false =>
   rw[oJ rfl]at h;exact bc (g.no h)
  | true =>
   rw[oI oB]at h;refine aD (PH (k u oo oo rfl w2 g.bel _ λL G=>bo ?_));have f:=g.fresh G;by_cases s:E≠0
   .rw[oJ s]at h;exact aG s (f.no h)
   refine aB s (l rfl L _ f.bel _ ?_);rw[oI s]at h;have f:=f.drew;have I:=J q B;unfold CN at h;rw[H]at I h;refine au (lK (v:=iv (nA A q)) f.r (Hl oo) (aY oo oo (au (dw kf f.r (by simp[a];exact B) rfl λM p D=>?_))));have e:(A.map iv).set q (ci (nA A q+x))=(A.set q (nA A q+x)).map iv:=by rw[List.map_set];rfl
   rw[e]at p;have y:RV3 w M (A.set q (nA A q+x)):=⟨p,D.blk f.t oo,gI f.bel D oA⟩
   have O:(A.set q (nA A q+x)).length=54:=by simp[a]
   refine au (lK (v:=iv (nA A q+x)) p (by
    rw[Hl oo];simp[nA,List.getD,a,B]) (dE ?_))
   by_cases c:1125899906842624<nA A q+x
   .rw[oJ c]at h;exact aG c (y.no h)
   rw[oI c]at h;refine aB c ?_;have j:(((A.set q (nA A q+x)).map iv).drop 0).take 54=(A.set q (nA A q+x)).map iv:=by rw[oX,tL (by simp[a])]
   exact ldA (n:=54) (vs:=(A.set q (nA A q+x)).map iv) underlying56 rfl kr p j (by simp[a]) (zcN (N:=54) underlying56 rfl kr y.t rfl (by simp[a]) (zbe _) λS o=>h S (gI y.bel o oo))
def VU{b:Bool}{E:Int}(h:K (ci (if b=true then E else 0)) w):call Q 320 #[.bool b,ci E] K w:=by
 refine ao (goK func320) (VZ ?_);cases b with
 | true=>exact bc h
 | false=>exact aD h
end
end
end Go.Proofs.YtgohpbmmcgenpaaGreatDoor
