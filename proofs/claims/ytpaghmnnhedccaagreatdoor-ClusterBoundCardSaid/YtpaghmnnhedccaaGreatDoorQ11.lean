import Derived.Test.YtpaghmnnhedccaaGreatDoorQ10
set_option linter.all false
namespace Go.Proofs.YtpaghmnnhedccaaGreatDoor
set_option maxRecDepth 100000
set_option maxHeartbeats 4000000
open Go.Proofs.Tryz
open Go.RowKit
variable {w w' w0 w2 S O:oG}{K:KV}{zf:Nat->oF}{b c o i g m s j f z d c2 D B' hi:Nat}{a av a2:Option Addr}{x v r P0:Int}{E t e:TypeId}{A:List Int}{B1 N R:KE}{xs ys vs:oE}{cx cy:Bool}{α:Type}{T:List (Int×Int)}{k':IntKind}{X0:List Nat}{X1 Z1 N2 O2 P2 Q2 R2 T2 U2 H Z U Y J C:oF}
section
instance:Inhabited (EV×Int):=⟨(evZ,0)⟩
def tl(A:List EV)(v:List Int):List EV:=((zA A v).take 16).map (·.1)
def ze9{A:List EV}{v:List Int}{n:Nat}:(lh A v n).length<=A.length:=by
 have:=wA (l:=lh A v n) (l':=A.zipIdx.map toI) Qr λx c=>by
  obtain⟨p,a,_,_,b⟩:=NN.1 c;exact qU.2 ⟨p,a,b⟩
 rwa[oY,List.length_zipIdx]at this
def Pu{α:Type}{enc:α->oE}{s:Nat}(a:∀x,(enc x).length=s):∀(L:List α) (q:Nat),(L.flatMap enc).drop (q*s)=(L.drop q).flatMap enc
 | [],q=>by simp
 | x::L,0=>by simp
 | x::L,q+1=>by
  rw[jI,List.drop_succ_cons,qS,oS (by rw[a,Nat.succ_mul];omega),oV,a,show (q+1)*s-s=q*s by rw[Nat.succ_mul];omega,Pu a L q]
def Pv{α:Type}{enc:α->oE}{s:Nat}(a:∀x,(enc x).length=s):∀(L:List α) (q:Nat),(L.flatMap enc).take (q*s)=(L.take q).flatMap enc
 | [],q=>by simp
 | x::L,0=>by simp
 | x::L,q+1=>by
  rw[jI,List.take_succ_cons,qT,tL (by rw[a,Nat.succ_mul];omega),a,show (q+1)*s-s=q*s by rw[Nat.succ_mul];omega,Pv a L q,jI]
section
variable {P:Program}
def zkT{cs:Array Bool}{x:Option Addr}(d:P.underlying t=some (.slice e))(b:∀w,(sizeOf e).run P w=.ok s w)(a:m<=c)(h:K (.slice av m c) w):blt P .append #[t,t] E cs #[.slice av m c,.slice x 0 c2] K w:=by refine qz (v:=.slice av m c) (w':=w) ?_ h;rw[BigFrame.builtin_append];cases av<;>cases x<;>simp[Builtin.append_,jZ d,b,Builtin.lenOf,Builtin.firstCells,jX,jY,Result.andThen,a,storeCells,loadCells,loadCellsFrom]
end
attribute [local irreducible] bin un conv call bA blt slc ao fld aW idx lkp fk mW eSt rng nxt ent ext alc box bld bM ld sto aU fl mkS ifc pick rdy wts aM sti cond aY Gives ai iy ke cOp
def za3{x:EV×Int}(h:nX w (K (iv (if x.1.s<=v then -1 else 1)))):call Q 275 #[.agg (itC x).toArray,u6 v] K w:=by
 refine aj (goK func275) (RN (bu λc b d e=>?_));have b:=cZ b
 refine aJ (off:=0) kr (nB (lK (v:=u6 x.1.s) b rfl (iG ?_)))
 have:=h c d
 by_cases a:x.1.s<=v
 .rw[oJ a]at this;exact ay a this
 .rw[oI a]at this;exact ax a this
def zhA{n B:Nat}{L:List (EV×Int)}(N:w.ownsRow B 214 15 (.slice a n c) n (L.flatMap itC))(M:L.length=n)(hn:n<=1000000)(W:L.Pairwise λx y=>x.1.s<y.1.s)(h:∀w' (q:Nat),q<=n->L.drop q=L.filter (λp=>decide (v<p.1.s))->Below w.heap.size w w'->K (iv (q:Nat)) w'):call Q 262 #[.slice a n c,u6 v] K w:=by
 refine aj (goK func262) (Vr (aj (goK func274) (pS (bv underlying157 ?_))));refine pf (Inv:=λi j X=>∃p q:Nat,i=iv (p:Nat)/\j=iv (q:Nat)/\p<=q/\q<=n/\(∀(k:Nat) x,L[k]? = some x->k<p->x.1.s<=v)/\(∀(k:Nat) x,L[k]? = some x->q<=k->v<x.1.s)/\Below w.heap.size w X) (μ:=λi j _=>(intOf j).toNat-(intOf i).toNat)
  ⟨0,n,rfl,rfl,qG _,Nat.le_refl _,λk x _ e=>by omega,λk x b e=>by have:=(gS b).1;omega,jU _ _⟩ ?_
 rintro _ _ Y O mu ⟨p,q,rfl,rfl,V,r,H,I,u⟩ z;have A:=cn N (w':=O) λk e=>u.block k (jT N k e).2;have g:∀(i j:Nat) x y,L[i]? = some x->L[j]? = some y->i<j->x.1.s<y.1.s:=λi j x y b f D=>by
  obtain⟨R,rfl⟩:=gS b;obtain⟨S,rfl⟩:=gS f;exact List.pairwise_iff_getElem.1 W i j R S D
 refine aL ?_;by_cases T:p<q
 .refine ay oo (aR oo oo (dE underlying3 underlying147 ?_));rw[show IntKind.u64.wrap ((p:Int)+(q:Nat))=((p+q:Nat):Int)by rw[eJ];omega];refine Hq oo ?_;rw[show Int.fdiv ((p+q:Nat):Int) (2 ^ (min (1:Int).toNat IntKind.u64.bits))=(((p+q) / 2:Nat):Int)by
   rw[show (2:Int) ^ (min (1:Int).toNat IntKind.u64.bits)=2 from rfl,Int.fdiv_eq_ediv_of_nonneg _ oo];omega]
  refine dE underlying147 underlying3 ?_;rw[fM oo oo];generalize Z:(p+q) / 2=m;have E:p<=m:=by omega
  have F:m<q:=by omega
  obtain⟨x,b⟩:=gX (L:=L) (i:=m) oo;refine BE (i:=m) (enc:=itC) (s:=15) (L:=L) (x:=x) underlying157 kf underlying214 rfl kr Ck A M b λ_=>bS rfl (za3 λP C=>aL ?_);have d:=tB u C;by_cases t:x.1.s<=v
  .rw[oJ t];refine ay oo (aR oo oo ⟨⟨m+1,q,ivS,rfl,F,r,λk y f e=>?_,I,d⟩,?_⟩)
   .by_cases o:k=m
    .subst o;rw[b]at f;cases f;exact t
    .have:=g k m y x f b oo;omega
   .rw[z];show (q:Int).toNat-((m:Int)+1).toNat<(q:Int).toNat-(p:Int).toNat;omega
  .rw[oI t];refine ax oo ⟨⟨p,m,rfl,rfl,E,by omega,H,λk y f e=>?_,d⟩,?_⟩
   .by_cases o:k=m
    .subst o;rw[b]at f;cases f;omega
    .have:=g m k x y b f oo;omega
   .rw[z];show (m:Int).toNat-(p:Int).toNat<(q:Int).toNat-(p:Int).toNat;omega
 .have G:p=q:=by omega
  subst G;have J:=Sd (p:=λp=>decide (v<p.1.s)) (l:=L) (i:=p) (λk x b e=>qE (by have:=H k x b e;omega)) λk x b e=>qF (I k x b e);refine ax oo (ph (aL ?_));by_cases U:p<n
  .have b:L[p]? = some L[p]:=gE oo;generalize L[p]=x at b;refine bU oo (BE (i:=p) (enc:=itC) (s:=15) (L:=L) (x:=x) underlying157 kf underlying214 rfl kr Ck A M b λ_=>bS rfl (za3 λP C=>aT ?_));have d:=tB u C;exact bI oo (bo (bj (h P p r J d)))
  .exact cJ oo (bw oo (bo (bj (h O p r J u))))
def zkd(x y:EV×Int)(W:oG):Calls Q 264 (#[.agg (itC x).toArray,.agg (itC y).toArray]++#[]) W λe S => e=.returned (ci (re x.2 y.2))/\∃q os',S=Go.Sort.grow (W.drewN q) os':=by
 have a:Gives Q 264 #[.agg (itC x).toArray,.agg (itC y).toArray] W λv S => v=ci (re x.2 y.2)/\∃q os',S=Go.Sort.grow (W.drewN q) os':=by
  refine M9 ?_;refine Un (Un ?_);generalize d:W.alloc (.cells (Value.agg (itC x).toArray).cells 214)=w1;have c:blk w1 W.heap.size 214 (itC x):=by
   rw[<-d];unfold Go.Proofs.YtpaghmnnhedccaaGreatDoor.blk;rw[heap_alloc_new];rfl
  generalize b:w1.alloc (.cells (Value.agg (itC y).toArray).cells 214)=O;have g:blk O w1.heap.size 214 (itC y):=by
   rw[<-b];unfold Go.Proofs.YtpaghmnnhedccaaGreatDoor.blk;rw[heap_alloc_new];rfl
  have f:blk O W.heap.size 214 (itC x):=by
   rw[<-b];exact ae (bX (World.grownBy_alloc _ _ none) oA (λk i=>by cases i)) c c.lt
  refine aJ (off:=14) kr (lK (v:=u6 x.2) f rfl ?_);refine aJ (off:=14) kr (lK (v:=u6 y.2) g rfl ?_);refine zbX ⟨rfl,0,#[.cells (Value.agg (itC x).toArray).cells 214,.cells (Value.agg (itC y).toArray).cells 214],?_⟩;rw[<-b, <-d];unfold Go.Sort.grow World.drewN World.alloc
  simp only[Array.push_eq_append,Array.append_assoc,List.append_toArray,jF,oV];rfl
 rw[show (#[.agg (itC x).toArray,.agg (itC y).toArray]++#[]:Array oF)=#[.agg (itC x).toArray,.agg (itC y).toArray]from rfl];unfold Gives at a;exact Calls.mono a λ_ _ ⟨v,h,j,l⟩=>⟨by rw[h,j],l⟩
def zhY{G:List (EV×Int)}{B n:Nat}(k:w.ownsRow B 214 15 (.slice a n c) n (G.flatMap itC))(g:G.length=n)(i:n<4611686018427387904)(h:∀(S:oG) (G':List (EV×Int)),G'.Perm G->G'.Pairwise (λx y=>¬y.2<x.2)->S.ownsRow B 214 15 (.slice a n c) n (G'.flatMap itC)->w.grownBy S (Value.slice a n c).ownBlock->K (.tuple #[]) S):call Q 263 #[.slice a n c,.func (.func 264) #[] #[]] K w :=
 zhZ oo Ck QV Tryz.sortIt (λW=>by kernel_rfl) (λW=>by kernel_rfl) (swoZ (λx:EV×Int=>x.2)) (enters_of func264 kr rfl) ⟨_,func263,by kernel_rfl,by kernel_rfl⟩ zkd k g i
  λS G' j l d f=>h S G' j (l.imp λ{x y} e b=>e (by show re y.2 x.2<0;unfold re;rw[oJ b];decide)) d f
end
def LP(h:bT .eql 121 H (.pointer none) (λa w=>cond a (K cN w) (aU H (λa=>ao Q 156 a 3 λa=>ld Q 148 a λa=>call Q 256 #[a,Z] K) w)) w):Gives Q 234 #[H,Z] w K:=au func234 kr (mpK h)
def Cx(d b e c f a C3 C4 C5:oF)(zf:oD):=d::b::zf 2::e::zf 4::c::zf 6::f::zT zf 8 4 (a::zf 13::zf 14::C3::C4::C5::zT zf 18 15 ([]))
def rO(K:KV):KE:=kZ f214 [1,1] K
def Bs(K:KV):KE:=ai Q (cd f214 [1,0,1,0]) (rO K) (xx xf (rO K) 0) (rk f214 K)
def XR(h:call Q 234 #[Z,H] (λU=>lN 187 U λJ=>Bs K (Cx Z C Y uu uu uu U J (ci 0) (zV (zV (zV zu 2 [H]) 8 [cu 0,ci 0]) 13 [Z,H]))) w):Gives Q 214 #[Z,C,H,Y] w K:=au func214 kr (mpK h)
def Ud(Inv:oF->oG->Prop)(μ:oF->oG->Nat)(c:Inv U2 w)(d:∀(a:oF) (b:oD) (w:oG) (m:Nat),Inv a w->m=μ a w ->
  lS a U (λc w=>cond c (aW Q 187 Z a (λb=>ld Q 36 b λb=>call Q 164 #[Y,J,b] λc=>bF .lss 2 c H λd w=>cond d (bF .sub 2 H c (λa=>K (.tuple #[b,a])) w) (nC a (λa w=>(Inv a w)/\((μ a w)<m)) w)) w) (rO K (Cx Y J H C P2 (b 12) Z U a (zV b 18 [c])) w)) w):Bs K (Cx Y J H C P2 Q2 Z U U2 zf) w:=by refine lV (cd f214 (b1 52)) [(8,2),(11,2),(17,16)] 17 zf c d ?_;intro e f;exact mpF
def Ue(h:K (.tuple #[cu 0,ci 0]) w):rO K (Cx X1 Z1 H Z U Y J C U2 zf) w:=mpK h
attribute [irreducible] rO Bs
def YX(h:bT .geq 2 H (ci 1) (λb w=>aM b true (λb=>bT .leq 2 H (ci 1125899906842624) (λa=>b [H,a]) w) (λk=>k [uu,uu] w) λa=>pick b (gd a 1) cF K) w):Gives Q 265 #[H] w K:=au func265 kr (mpK h)
def Wa(h:call Q 265 #[Z] (λa=>un Q .not a λb w=>aM b false (λb=>call Q 265 #[H] (λa=>un Q .not a λc=>b [H,a,c]) w) (λk=>k [uu,uu,uu] w) λa=>pick b cT (gd a 2) λa w=>cond a (K (ci 0) w) (bT .add 2 Z (ci 1) (λa=>bT .quo 2 a (ci 2) λa=>blt Q .min #[2,2] 2 #[false,false] #[H,a] K) w)) w):Gives Q 252 #[Z,H] w K:=au func252 kr (mpK h)
def mH(of0 b a c d:oF)(zf:oD):=of0::zf 1::b::a::c::d::zT zf 6 13 ([])
def nl(K:KV):KE:=kZ f246 [1,1,1] K
def Bx(K:KV):KE:=ai Q (cd f246 (b1 58)) (nl K) (xx xf (nl K) 0) (rk f246 K)
def rQ(K:KV)(B1:KE):KE:=kY f246 (b1 467) B1 (xx xf (nl K) 0) K
def xm(K:KV)(B1:KE):KE:=ai Q (cd f246 (b1 466)) (rQ K B1) (xx xf (nl K) 0) (rk f246 K)
def Ya(h:Bx K (mH H (ci 0) (ci 0) (ci 1) uu zu) w):Gives Q 246 #[H] w K:=au func246 kr (mpK h)
def Uy(Inv:vI 3)(μ:vM 3)(j:Inv Y Z U w)(l:∀(b a d:oF) (f:oD) (w:oG) (m:Nat),Inv b a d w->m=μ b a d w ->
  bT .leq 3 d (ci 6) (λc w=>cond c (xm K (λe S=>(Inv (gd e 2) (gd e 3) (gd e 4) S)/\((μ (gd e 2) (gd e 3) (gd e 4) S)<m)) (mH H b a d (f 5) (zV f 6 [d,c])) w) (nl K (mH H b a d (f 5) (zV f 6 [d,c])) w)) w):Bx K (mH H Y Z U J zf) w:=by refine dC (cd f246 (b1 116)) (zr [(2,16)]) kr (vP [2,3,4] Inv) (vQ [2,3,4] μ) j ?_;intro g i k;have h:=l _ _ _ (zM zf (gd g) (zr [(2,16)])) i _ k rfl;refine Eq.mp (qH (λc=>ai Q c _ _ _ _ i) (by kernel_rfl:(rep [1,0] (cd f246 (b1 466)) (cd f246 (b1 116)))=(cd f246 (b1 116)))) ?_;revert h;delta xm rQ;generalize (cd f246 (b1 466))=xc0;exact mpF
def Ux(h:bA Q Z #[H] (λa=>bF .gtr 2 a U λb w=>cond b (rQ K B1 (mH Z H a H a (zV zf 10 [Z,H,a,a,U,b,H,a])) w) (rQ K B1 (mH Z Y U H a (zV zf 10 [Z,H,a,a,U,b])) w)) w):xm K B1 (mH Z Y U H J zf) w:=by delta xm;revert h;exact mpF
def Uz(h:K H w):nl K (mH J H Z U Y zf) w:=mpK h
def JY(h:nC H (λa=>B1 (mH Y J Z a U (zV zf 8 [H,a]))) w):rQ K B1 (mH Y J Z H U zf) w:=by delta rQ;revert h;exact mpF
attribute [irreducible] nl Bx rQ xm
def Y9(h:box Q 42 Z (λc=>box Q 3 U λb=>box Q 36 H λa=>call Q 246 #[.func (.func 247) #[] #[b,c,a]] K) w):Gives Q 221 #[Z,U,H] w K:=au func221 kr (mpK h)
def kt(a A2 b c d D5 D6 D7:oF)(zf:oD):=a::zf 1::zf 2::A2::b::c::zf 6::d::zT zf 8 19 (D5::D6::D7::zT zf 30 15 ([]))
def kB(K:KV):KE:=kZ f247 [1,1,1] K
def xW(K:KV):KE:=ai Q (cd f247 (b1 58)) (kB K) (xx xf (kB K) 0) (rk f247 K)
def ol(K:KV)(B1:KE):KE:=kY f247 (b1 935) B1 (xx xf (kB K) 0) K
def uE(K:KV)(B1:KE):KE:=ai Q (cd f247 (b1 934)) (ol K B1) (xx xf (kB K) 0) (rk f247 K)
def Uw(h:ld Q 3 U (λc=>bF .eql 3 H c λd w=>aM d false (λc=>bT .sub 3 H (ci 1) (λa=>ao Q 42 Z 0 λb=>aW Q 35 b a λd=>ld Q 4 d λe=>un Q .not e λf=>c [H,a,b,d,e,f]) w) (λk=>k [uu,uu,uu,uu,uu,uu] w) λa=>pick d cT (gd a 5) λe w=>aM e false (λd=>bT .sub 3 H (ci 1) (λa=>ao Q 42 Z 1 λb=>aW Q 35 b a λc=>ld Q 4 c λe=>d [H,a,b,c,e]) w) (λk=>k [uu,uu,uu,uu,uu] w) λb=>pick e cT (gd b 4) λf w=>cond f (K (ci 0) w) (ao Q 42 Z 3 (λg=>ld Q 39 g λY=>lN 39 Y λJ=>xW K (kt H C uu (ci 0) uu Y J (ci 0) (zV (zV zu 1 [U,Z]) 8 [H,c,d,d,gd a 0,gd a 1,gd a 2,gd a 3,gd a 4,gd a 5,e,e,gd b 0,gd b 1,gd b 2,gd b 3,gd b 4,f,g]))) w)) w):Gives Q 247 #[H,U,Z,C] w K:=au func247 kr (mpK h)
def Rr(Inv:oF->oF->oG->Prop)(μ:oF->oF->oG->Nat)(i:Inv C T2 w)(k:∀(d a:oF) (e:oD) (w:oG) (m:Nat),Inv d a w->m=μ d a w ->
  lS a H (λb w=>cond b (uE K (λb S=>(Inv (gd b 5) (gd b 29) S)/\((μ (gd b 5) (gd b 29) S)<m)) (kt Y J Z d (e 7) U H a (zV e 30 [b])) w) (kB K (kt Y J Z d (e 7) U H a (zV e 30 [b])) w)) w):xW K (kt Y J Z C P2 U H T2 zf) w:=by refine dC (cd f247 (b1 116)) (zr [(5,1),(7,1),(29,15)]) kr (vP [5,29] Inv) (vQ [5,29] μ) i ?_;intro f g j;have h:=k _ _ (zM zf (gd f) (zr [(5,1),(7,1),(29,15)])) g _ j rfl;refine Eq.mp (qH (λc=>ai Q c _ _ _ _ g) (by kernel_rfl:(rep [1,1,0] (cd f247 (b1 934)) (cd f247 (b1 116)))=(cd f247 (b1 116)))) ?_;revert h;delta uE ol;generalize (cd f247 (b1 934))=xc0;exact mpF
def Rq(h:aW Q 39 Y J (λa=>ld Q 83 a λb=>alc Q 83 λH=>sto Q 83 H b λ_=>ao Q 83 H 0 λc=>ld Q 36 c λd=>ld Q 36 C λe=>bF .eql 36 d e λf w=>cond f (ao Q 83 H 2 (λg=>ld Q 81 g λh=>call Q 212 #[h,Z] λi=>blt Q .max #[2,2] 2 #[false,false] #[U,i] λj=>ol K B1 (kt Z C N2 j H Y R2 J (zV zf 31 [a,b,c,d,e,f,U,g,h,Z,i,j]))) w) (ol K B1 (kt Z C N2 U H Y R2 J (zV zf 31 [a,b,c,d,e,f])) w)) w):uE K B1 (kt Z C N2 U H Y R2 J zf) w:=by delta uE;revert h;exact mpF
def Rs(h:K H w):kB K (kt X1 Z1 Z H U Y J C zf) w:=mpK h
def FY(h:nC C (λa=>B1 (kt X1 Z1 H Z U Y J a (zV zf 43 [a]))) w):ol K B1 (kt X1 Z1 H Z U Y J C zf) w:=by delta ol;revert h;exact mpF
attribute [irreducible] kB xW ol uE
section
attribute [local irreducible] bin un conv call bA blt slc ao fld aW idx lkp fk mW eSt rng nxt ent ext alc box bld bM ld sto aU fl mkS ifc pick rdy wts aM sti cond aY Gives ai iy ke cOp
def wC{B:Nat}{n:Nat}{v:oF}(h:w.ownsRow B E s v n xs)(f:B'<=B):w.ownsRow B' E s v n xs:=by refine⟨h.1,h.2.imp id ?_⟩;rintro⟨g,a,b,c,d,e⟩;exact⟨g,a,b,c,qR f d,e⟩
def zjv{B:Nat}{n:Nat}{enc:α->oE}{L:List α}(t:∀x,(enc x).length=s)(h:w.ownsRow B E s (.slice a n c) n (L.flatMap enc))(f:m<=n):w.ownsRow B E s (.slice a m c) m ((L.take m).flatMap enc):=by
 by_cases k:n=0
 .subst k
  have:m=0:=by omega
  subst this;rcases h.2 with⟨i,_⟩|⟨g,e,d,i,l,o,p,q,r,u⟩
  .rw[i];exact World.ownsRow_nil _ _ _ _
  .exact⟨by simp,.inr ⟨g,e,d,i,l,o,p,q,r,by simp⟩⟩
 .obtain⟨g,d,rfl,b⟩:=gy h oo;have j:(L.take m).flatMap enc=d.take (m*s):=by
   rw[<-Pv t, <-b.take,List.take_take,Nat.min_eq_left (Nat.mul_le_mul_right _ f)]
  refine Opn.own ⟨b.blk,b.lo,qR f b.nc,b.cm,b.len,j.symm,?_⟩;rw[j,qA,b.len,Nat.min_eq_left];exact Nat.mul_le_mul_right _ (qR f b.nc)
def zfT{Z:List α}:Z.take (min 16 Z.length)=Z.take 16:=by
 by_cases h:Z.length<=16
 .rw[Nat.min_eq_right h,List.take_length,tL h]
 .rw[Nat.min_eq_left oo]
def zaM{A:List EV}{v:List Int}{n:Nat}:lh A v (n+1)=lh A v n++(xO A n).filter λp=>decide (v.getD n 0<p.1.s):=by unfold lh;rw[List.range_succ,List.flatMap_append];simp
def zjT{v:List Int}{k:Nat}(h:k<v.length):(vCs v)[k]? = some (u6 (v.getD k 0)):=by unfold vCs;rw[qC,oN,gE h];rfl
def zhS{Rw:List iQ}{V v:List Int}{A:List EV}{c:Int}(h:LoM w g Rw V c)(aw:nG Rw=yp A)(hA:∀e∈A,e.q<6)(aH:A.Pairwise λa b=>a.q=b.q->a.s<b.s)(hl:A.length<=30000)(hv:v.length=6)(hK:∀w' D fc,w'.ownsRow w.heap.size 54 14 (.slice D (tl A v).length fc) (tl A v).length ((tl A v).flatMap evC)->Below w.heap.size w w'->K (.slice D (tl A v).length fc) w'):call Q 243 #[pB g,.agg (vCs v).toArray,ci 16] K w:=by
 refine aj (goK func243) (OH (zq hv λw1 v1 b1 s1=>zb7 (aA (aq (SB ?_)))));have I:=h.below b1;have c0:((loC Rw V c).drop 0).take 6=Rw.map lrV:=by
  unfold loC;rw[oX,qJ (by rw[oY,h.l6];omega),tL (by rw[oY,h.l6];omega)]
 refine ldA (n:=6) (vs:=Rw.map lrV) underlying158 rfl kr I.b c0 (by rw[oY,h.l6]) ?_;obtain⟨ii,av,aG,aF,an⟩:=info_parts Xx
 refine Ma (Inv:=λa t O=>∃(k:Nat) (D:Option Addr) (fc:Nat),t=iv (k:Nat)/\k<=6/\Below w.heap.size w O/\blk O w.heap.size 38 (vCs v)/\a=.slice D (lh A v k).length fc/\O.ownsRow (w.heap.size+1) 214 15 (.slice D (lh A v k).length fc) (lh A v k).length ((lh A v k).flatMap itC)) (μ:=λ_ t _=>6-(intOf t).toNat)
  ⟨0,none,0,rfl,by omega,b1,v1,rfl,World.ownsRow_nil _ _ _ _⟩ ?_
 rintro al _ dd w2 mu ⟨k,D,fc,rfl,f,P,v2,rfl,ho⟩ aE;have ab:(lh A v k).length<=30000:=qR ze9 hl;refine aL ?_;by_cases o:k<6
 .refine ay oo ?_;have W:6-(intOf (iv ((k:Int)+1))).toNat<mu:=by rw[aE];show 6-((k:Int)+1).toNat<6-((k:Nat):Int).toNat;omega
  have am:k<Rw.length:=by rw[h.l6];exact o
  have hr:Rw[k]? = some Rw[k]:=gE am;generalize Rw[k]=r at hr;have N:r.it=xO A k:=by
   have I:(nG Rw)[k]? = some r.it:=by unfold nG;rw[qC,hr];rfl
   rw[aw,NJ o]at I;exact(Option.some.inj I).symm
  have F:=h.row k r hr;have M:=cn F (w':=w2) λk f=>P.block k (jT F k f).2;have aK:r.it.length<=30000:=by rw[N];exact qR zhJ hl
  refine Yw (v:=lrV r) underlying158 kf kf o (by rw[qC,hr];rfl) (ixV rfl o (lK (v:=u6 (v.getD k 0)) v2 (by rw[oK];exact zjT oo) ?_));refine zhA M rfl oo (by rw[N];exact zfM aH) λw3 q hq hd b3=>?_;have af:=cn M (w':=w3) λk f=>b3.block k (jT M k f).2
  have B:=cn ho (w':=w3) λk f=>b3.block k (jT ho k f).2;have l:=P.trans (b3.mono P.size);have v3:=ae b3 v2 v2.lt;have C:lh A v (k+1)=lh A v k++r.it.drop q:=by rw[zaM, <-N,hd]
  have aa:(lh A v k).length<=fc:=by
   rcases B.2 with⟨d,h0⟩|⟨_,_,_,d,_,_,I,_⟩
   .simp only[Value.slice.injEq]at d;omega
   .simp only[Value.slice.injEq]at d;omega
  by_cases hz:r.it.length=q
  .have X:q<=r.cap:=by
    rcases af.2 with⟨d,h0⟩|⟨_,_,_,d,_,_,I,_⟩
    .omega
    .unfold lrV at d;simp only[Value.slice.injEq]at d;omega
   refine Yx (q:=q) underlying157 (s:=15) kf hq oo ?_;rw[show r.it.length-q=0 by omega];refine zkT (s:=15) underlying157 kf aa (aR oo oo ⟨⟨k+1,D,fc,qH iv (by push_cast;rfl),o,l,v3,?_,?_⟩,W⟩)
   .rw[C,show r.it.drop q=[]from List.drop_eq_nil_of_le oo,oW]
   .rw[C,show r.it.drop q=[]from List.drop_eq_nil_of_le oo,oW];exact B
  .obtain⟨gb,U,ha,op⟩:=gy af oo;have X:=op.nc;refine Yx (q:=q) underlying157 (s:=15) kf hq X ?_;rw[oI (by omega : ¬r.cap=q),ha,show (Option.map (λx:Addr=>x.add (q*15)) (some ⟨gb,0,none⟩))=some ⟨gb,0+q*15,none⟩by rw[jP,zw]];have Y:(U.drop (0+q*15)).take ((r.it.length-q)*15)=(r.it.drop q).flatMap itC:=by
    rw[<-Pu Ck, <-op.take,List.drop_take,oK,Nat.mul_sub_right_distrib]
   refine zaT (s:=15) (m:=r.it.length-q) (g:=gb) (q:=0+q*15) (zs:=U) (ys:=(r.it.drop q).flatMap itC) underlying157 av aG aF an rfl oo B op.blk (by rw[qa Ck,qB]) Y (λu a=>by
    obtain⟨x,_,hx⟩:=List.mem_flatMap.1 a;exact QV x u hx) oo oo v3.lt λa' c' w4 r4 g4=>?_
   have R:Below (w.heap.size+1) w3 w4:=bX g4 v3.lt λk f=>(jT B k f).1;have E:(lh A v (k+1)).length=(lh A v k).length+(r.it.length-q):=by rw[C,oT,qB]
   refine aR oo oo ⟨⟨k+1,a',c',qH iv (by push_cast;rfl),o,l.trans (R.mono oo),ae R v3 oo,by rw[E],?_⟩,W⟩;rw[E,C,List.flatMap_append];exact r4
 .have aB:k=6:=by omega
  subst aB;refine ax oo (Mc (zhY ho rfl oo λw3 G' hp hs G g3=>?_));have hG:=zfP hA hp hs;subst hG;have hn:(lh A v 6).length=(zA A v).length:=hp.length_eq.symm;have ak:Below w.heap.size w2 w3:=bX g3 P.size λk f=>by have:=(jT ho k f).1;omega
  have l:=P.trans ak;rw[hn]at G ab |-;generalize hZ:zA A v=Z at G ab |-;have aa:Z.length<=fc:=by
   rcases G.2 with⟨d,h0⟩|⟨_,_,_,d,_,_,I,_⟩
   .simp only[Value.slice.injEq]at d;omega
   .simp only[Value.slice.injEq]at d;omega
  have hT:(Z.take 16).length=min 16 Z.length:=qA;have J:tl A v=(Z.take 16).map (·.1):=by unfold tl;rw[hZ]
  have G:w3.ownsRow (w.heap.size+1) 214 15 (.slice D (Z.take 16).length fc) (Z.take 16).length ((Z.take 16).flatMap itC):=by
   have:=zjv Ck G (m:=(Z.take 16).length) oo
   rwa[show Z.take (Z.take 16).length=Z.take 16 by rw[hT];exact zfT]at this
  refine bv underlying157 (Vf (QX ?_));rw[show (if (if (Z.length:Int)<16 then (Z.length:Int)else 16)<0 then (0:Int)else if (Z.length:Int)<16 then (Z.length:Int)else 16)=((Z.take 16).length:Nat)by rw[hT];split<;>split<;>omega];refine VG (m:=(Z.take 16).length) underlying157 (s:=15) kf oo (bv underlying157 ?_);generalize Z.take 16=T at G hT J |-
  have aI:T.length<=16:=by omega
  obtain⟨ei,ap,au,ar,ao⟩:=info_parts Ws;refine Mb (Inv:=λa t O=>∃(j:Nat) (p:Option Addr) (y:Nat),t=iv (j:Nat)/\j<=T.length/\a=.slice p j y/\Below w3.heap.size w3 O/\O.ownsRow w3.heap.size 54 14 (.slice p j y) j (((T.take j).map (·.1)).flatMap evC)) (μ:=λ_ t _=>T.length-(intOf t).toNat)
   ⟨0,none,0,rfl,qG _,rfl,jU _ _,World.ownsRow_nil _ _ _ _⟩ ?_
  rintro ah _ dd w4 aM ⟨j,p,y,rfl,hj,rfl,b4,o4⟩ ad;have ai:=b4.size;refine aL ?_;by_cases ac:j<T.length
  .have hx:T[j]? = some T[j]:=gE ac;have ag:(T.take (j+1)).map (·.1)=(T.take j).map (·.1)++[T[j].1]:=by rw[List.take_add_one,hx,jJ];rfl
   generalize T[j]=x at hx ag;have r4:=cn G (w':=w4) λk f=>b4.block k (jT G k f).2;refine ay oo (BE (i:=j) (enc:=itC) (s:=15) (L:=T) (x:=x) underlying157 kf underlying214 rfl kr Ck r4 rfl hx λ_=>?_);refine bO (z:=.agg (itC (evZ,0)).toArray) kr λw5 z5 b5 s5=>?_
   have z5:=cZ z5
   refine eW (n:=15) (vs:=itC x) kr rfl z5 (by show 0+15<=15;omega) (QV _) λw6 z6 p6=>?_;have z6:blk w6 w4.heap.size 214 (itC x):=z6;refine aJ (off:=0) kr (ldA (n:=14) (vs:=evC x.1) underlying54 rfl kr z6 rfl rfl ?_);have S:Below w4.heap.size w4 w6:=aD b5 p6 oA
   refine nV [evV x.1] underlying30 (s:=14) kr kr oo rfl oB dc rfl (by
    intro v hv;rw[mS hv];rfl) λw7 e7 b7 s7=>?_
   have e7:blk w7 w6.heap.size 54 (evC x.1):=by simpa[Value.cells,evV]using e7
   have H:=S.trans (b7.mono S.size);have o7:=cn o4 (w':=w7) λk f=>H.block k (jT o4 k f).2;refine wK (enc:=evC) (x:=x.1) underlying30 ap au ar ao rfl oo (λ_=>rfl) o7 e7 (Cf _) oo oo (qR ai H.size) λa' c' w8 r8 g8 b8 _=>?_
   refine aR oo oo ⟨⟨j+1,a',c',qH iv (by push_cast;rfl),ac,rfl,(b4.trans (H.mono ai)).trans b8,by rw[ag];exact r8⟩,?_⟩;rw[ad];show T.length-((j:Int)+1).toNat<T.length-(j:Int).toNat;omega
  .have az:j=T.length:=by omega
   subst az;rw[List.take_length, <-J]at o4;have aC:(tl A v).length=T.length:=by rw[J,oY]
   refine ax oo (Md ?_);rw[<-aC]at o4 |-;exact hK w4 p y (wC o4 l.size) (l.trans (b4.mono l.size))
def zl5{p:Nat}{L:List (List Int)}{v:List Int}(h:GoM w p L)(m:j<6)(e:L[j]? = some v)(c:nX w (K (.agg (vCs v).toArray))):call Q 167 #[pB p,iv ((j:Int)+1)] K w:=by
 have a:=h.v6 v (mO e);refine aj (goK func167) (PE (Jj λq i d o=>Wd (fF (zdf (bc ?_)))));rw[show bB ((j:Int)+1)=true by unfold bB;simp;omega];refine bZ (aA (bL oo oo (aq (Sw ?_))));have f:=h.below d;rw[show (j:Int)+1-1=(j:Nat)by omega];refine fg underlying164 (s:=6) kf oo oo ?_;rw[oQ]
 refine ldA (n:=6) (vs:=vCs v) underlying38 rfl kr f.b (by rw[oK];exact Zv h.v6 e) (by rw[bh];exact a) (Fw (W:=v) rfl a i λl k g=>?_);exact uT (v:=.agg (vCs v).toArray) (λ_ c=>tQ a k c) (c l (aD d g oA))
def zhg{p:Nat}{L:List (List Int)}{Rw:List iQ}{V v:List Int}{A:List EV}{c:Int}(m:GoM w p L)(u:j<6)(n:L[j]? = some v)(h:LoM w g Rw V c)(k:nG Rw=yp A)(r:∀e∈A,e.q<6)(l:A.Pairwise λa b=>a.q=b.q->a.s<b.s)(x:A.length<=30000)(t:∀S f i,S.ownsRow w.heap.size 54 14 (.slice f (tl A v).length i) (tl A v).length ((tl A v).flatMap evC)->Below w.heap.size w S->K (.slice f (tl A v).length i) S):call Q 219 #[pB p,iv ((j:Int)+1),pB g,ci 16] K w:=by refine aj (goK func219) (LG (Wd (aA (zl5 m u n λB d=>zhS (h.below d) k r l x (m.v6 v (mO n)) λz f i y o=>?_))));exact t z f i (wC y d.size) (tB d o)
section
open Go.ChangeMaps
def wnC(p:Int×Int):oE:=[u6 p.1,iv p.2]
def Xn(p:Int×Int):∀v∈wnC p,v.oneCell'=true:=by intro v a;simp only[wnC,oO,oR,or_false]at a;rcases a with rfl|rfl<;>rfl
def zhc:(Tryz.prog.info? 287).map (λi=>(i.zero,i.size,i.bytes))=some (some (.pointer none),1,8):=by kernel_rfl
def zbi:(Tryz.prog.info? 290).map (λi=>(i.zero,i.size,i.bytes))=some (some (.agg (wnC (0,0)).toArray),2,16):=by kernel_rfl
section
variable {ws:List (Int×Option Nat)}
def DmW.isw(h:DmW w d m ws)(l:b∈wB ws):∃k a t x,blk w b 292 (wtC k a t x)/\1<=a/\a<=Cw/\k≠0/\(k,some b)∈ws:=by obtain⟨p,f,e⟩:=ti.1 l;obtain⟨o,a,t,x,c,n,g,i,j⟩:=h.wt p f;rw[c]at e;cases e;exact⟨p.1,a,t,x,n,g,i,j,by rw[<-c];exact f⟩
def Mr{k a t d x':Int}(h:blk w b 292 (wtC k a t x))(c:blk w b 292 (wtC v r d x')):k=v/\a=r:=by unfold blk at h c;rw[h]at c;simp[wtC,u6,iv]at c;exact⟨c.1,c.2.1⟩
end
section
variable {ws:List (Int×Option Nat)}
def zbH{f:oF}{pr:Nat->Bool}(h:DmW w d m ws)(hf:∀b∈wB ws,∀(w1:oG) (K1:KV),Below w.heap.size w w1->(nX w1 (K1 (.bool (pr b))))->bA Q f #[pB b] K1 w1)(hK:∀w' a c (g:List Nat),Below w.heap.size w w'->g.length<=32->(∀b∈g,b∈wB ws/\pr b=true)->(∀b∈wB ws,pr b=true->b∈g)->w'.ownsRow (w.heap.size+1) 287 1 (.slice a g.length c) g.length (g.flatMap λb=>[pB b])->K (.slice a g.length c) w'):call Q 241 #[pB d,f] K w:=by
 refine aj (goK func241) (KG (Wc (aA (aq (DZ (lK (v:=.map (some m)) h.b rfl ?_))))));refine Ql underlying167 h.mb λw1 Y b1 s1=>?_;have ax:=h.mb.lt;have H:=Y.nodup.2.1;obtain⟨ii,ai,al,ak,ag⟩:=info_parts zhc
 refine HP (Inv:=λl R=>∃(D:List Int) (g:List Nat) (a:Option Addr) (c:Nat),l=.slice a g.length c/\IT u6 pV R w.heap.size m ws D/\Below w.heap.size w R/\w.heap.size+1<=R.heap.size/\g.length<=D.length/\(∀b∈g,b∈wB ws/\pr b=true)/\(∀p∈ws,p.1∈D->∀b,p.2=some b->pr b=true->b∈g)/\R.ownsRow (w.heap.size+1) 287 1 (.slice a g.length c) g.length (g.flatMap λb=>[pB b])) (μ:=λ_ R=>iV R m w.heap.size)
  ⟨[],[],none,0,rfl,Y,b1,by omega,Nat.le_refl _,by simp,by simp,World.ownsRow_nil _ _ _ _⟩ ?_
 rintro _ dd w2 mu ⟨D,g,a,c,rfl,M,b2,az,av,B,n,ro⟩ V;have au:D.length<=ws.length:=by
  have:=wA M.nodup.1 M.nodup.2.2
  simpa using this
 have ar:=h.few;have ah:=h.below b2;refine PW M oo (λL=>?_) λx v w3 o ay E ae o3 G=>?_
 .refine sU rfl (aA (HQ (zhW ro rfl oo (λb T=>?_) λw4 ad q r4 g4=>?_)))
  .obtain⟨k,a1,t,y,i,_⟩:=ah.isw (B b T).1;exact⟨k,a1,t,y,i⟩
  .have P:=q.length_eq;rw[<-P]at r4 |-;refine hK w4 a c ad (b2.trans (bX g4 b2.size λk F=>by have:=(jT ro k F).1;omega)) oo (λb T=>B b (q.mem_iff.1 T)) (λb T C=>q.mem_iff.2 ?_) r4;obtain⟨p,W,e⟩:=ti.1 T;exact n p W (L p.1 (qU.2 ⟨p,W,rfl⟩)) b e C
 .have ap:D.length<ws.length:=by
   have:=wA E.nodup.1 E.nodup.2.2
   simp only[oT,oY,List.length_singleton]at this;omega
  obtain⟨b,a1,t,y,X,aw,_⟩:=h.wt _ o;simp only at X;subst X;have U:b∈wB ws:=ti.2 ⟨_,o,rfl⟩;have I:Below w.heap.size w w3:=fR b2 o3 oA;have ab:=cn ro λk F=>o3.other k (by have:=(jT ro k F).1;omega);have Z:∀p∈ws,∀j,p.2=some j->p.1∈D++[x]->p.1∈D\/j=b:=λp q j e A=>by
   rcases oU.1 A with A|A
   .exact .inl A
   .rw[List.mem_singleton]at A;have i:=mY (x:=p.1) (v:=p.2) H q;have h2:=mY H o;rw[A,h2,e]at i;exact .inr (Option.some.inj (Option.some.inj i)).symm
  refine sU rfl (aV (Ph ae (bj ?_)));refine hf b U w3 _ I λw4 S=>?_;have N:=E.below S;have J:=tB I S;have O:=cn ab λk F=>S.block k (jT ab k F).2;have s3:w3.heap.size=w2.heap.size:=o3.size;have s4:=S.size;have aa:iV w4 m w.heap.size=iV w3 m w.heap.size:=ED E S;cases C:pr b with
  | false =>
   refine aA ⟨⟨D++[x],g,a,c,rfl,N,J,by omega,by rw[oT];omega,B,λp q A j e r=>?_,O⟩,by rw[V,aa];exact G⟩;rcases Z p q j e A with i|rfl
   .exact n p q i j e r
   .rw[C]at r;cases r
  | true =>
   refine aV (nV [pB b] underlying346 (s:=1) kr kr oo rfl oB dc rfl (by
    intro v hv;rw[mS hv];rfl) λw5 e5 b5 s5=>?_)
   have e5:=cZ e5
   have z:=N.below b5;have ac:=cn O λk F=>b5.block k (jT O k F).2;have an:iV w5 m w.heap.size=iV w4 m w.heap.size:=ED N b5;refine wK (enc:=λb=>[pB b]) (x:=b) underlying346 ai al ak ag rfl oo (λ_=>rfl) ac e5 (by intro u hu;rw[mS hu];rfl) oo oo oo λa' c' w6 r6 g6 b6 _=>?_
   have k6:∀k,k<w.heap.size+1->k<w5.heap.size->w6.heap[k]? = w5.heap[k]? := λk F P=>g6.block k P λe=>by have:=(jT ac k e.symm).1;omega
   have am:=z.kept (k6 _ oo z.lt.2) (k6 _ oo z.lt.1);have ao:iV w6 m w.heap.size=iV w5 m w.heap.size:=xd (k6 _ oo z.lt.2) (k6 _ oo z.lt.1);have P:(g++[b]).length=g.length+1:=by simp
   refine⟨⟨D++[x],g++[b],a',c',by rw[P],am,(tB J b5).trans (b6.mono oo),by have:=b6.size;omega,by simp;omega,λj af=>?_,λp q A j e r=>?_,by rw[P];exact r6⟩,by rw[V,ao,an,aa];exact G⟩
   .rcases oU.1 af with i|i
    .exact B j i
    .rw[mS i];exact⟨U,C⟩
   .rcases Z p q j e A with i|rfl
    .exact List.mem_append_left _ (n p q i j e r)
    .simp
end
def Yr(w S:oG)(ws:List (Int×Option Nat)):Prop:=∀b∈wB ws,∀k a t x,blk w b 292 (wtC k a t x)->∃c x',blk S b 292 (wtC k a c x')
def DmW.turn{ws:List (Int×Option Nat)}(h:DmW w d m ws)(hc:Ch (wB ws) w w')(hs:Yr w w' ws):DmW w' d m ws where
 b:=h.b.ch hc λhh=>by
  obtain⟨k,a,t,x,hb,_⟩:=h.isw hh;exact qI rfl (hb.ne h.b dc)
 mb:=h.mb.kept (hc.block m h.mb.lt λb=>by
  obtain⟨k,a,t,x,hb,_⟩:=h.isw b;exact h.mb.ne hb rfl)
 wt:=λp hp=>by
  obtain⟨b,a,t,x,hb,hw,h1,h2,h3⟩:=h.wt p hp;obtain⟨t',x',hw'⟩:=hs b (ti.2 ⟨p,hp,hb⟩) _ _ _ _ hw;exact⟨b,a,t',x',hb,hw',h1,h2,h3⟩
 few:=h.few
def atW(w:oG)(b:Nat):Int:=match w.heap[b]? with
 | some (.cells cs _ _)=>intOf (cs[2]?.getD (ci 0))
 | _=>0
def zio{k a t:Int}(h:blk w b 292 (wtC k a t x)):atW w b=t:=by unfold blk at h;unfold atW;rw[h];rfl
section
variable {ws:List (Int×Option Nat)}
def zby{B n:Nat}{K2:oF->KV}(k:w.ownsRow B 287 1 (.slice a n c) n (X0.flatMap λb=>[pB b]))(e:X0.length=n)(d:X0[j]? = some b)(h:∀u,K2 u (pB b) w):aW Q 346 (.slice a n c) (iv (j:Nat)) (λu w=>ld Q 287 u (K2 u) w) w:=by
 have l:j<n:=by rw[<-e];exact(gS d).1
 obtain⟨g,i,rfl,f⟩:=gy k oo;refine fQ underlying346 (s:=1) kf oo oo ?_;rw[oQ];refine lK (v:=pB b) f.blk ?_ (h _)
 have:=f.cell (s:=1) (enc:=λb=>[pB b]) (λ_=>rfl) e d (show 0<1 by omega)
 rw[oK,show j*1=j*1+0 by omega,this];rfl
def zgP(h:DmW w d m ws)(hK:∀w' a c (T:List (Int×Int)),Below w.heap.size w w'->T.length<=32->(∀x∈T,∃b t y,(x.1,some b)∈ws/\blk w b 292 (wtC x.1 x.2 t y))->(∀p∈ws,∃x∈T,x.1=p.1)->w'.ownsRow w.heap.size 290 2 (.slice a T.length c) T.length (T.flatMap wnC)->K (.slice a T.length c) w'):call Q 218 #[pB d] K w:=by
 refine aj (goK func218) (Lu (zbH h (pr:=λ_=>true) (λb z I a A C=>bS rfl (aj (goK func242) (Js (C I (jU _ _))))) λI a c e A ac U D ro=>bv underlying346 ?_));obtain⟨ii,S,aa,Z,R⟩:=info_parts zbi
 refine Jt (Inv:=λo i wr=>∃(j:Nat) (T:List (Int×Int)) (J:Option Addr) (L:Nat),i=iv (j:Nat)/\j<=e.length/\o=.slice J j L/\T.length=j/\Below I.heap.size I wr/\(∀(k:Nat) x,T[k]? = some x->∃b t y,e[k]? = some b/\(x.1,some b)∈ws/\blk w b 292 (wtC x.1 x.2 t y))/\wr.ownsRow I.heap.size 290 2 (.slice J j L) j (T.flatMap wnC)) (μ:=mV e.length)
  ⟨0,[],none,0,rfl,qG _,rfl,rfl,jU _ _,λk x l=>by simp at l,World.ownsRow_nil _ _ _ _⟩ ?_
 rintro _ _ dd w2 mu ⟨j,T,J,L,rfl,hj,rfl,f,B,P,M⟩ W;refine aL ?_;by_cases G:j<e.length
 .have z:e[j]? = some e[j]:=gE G;generalize e[j]=b at z;have ab:=cn ro (w':=w2) λk r=>B.block k (jT ro k r).2;obtain⟨k,u,t,y,g,_,_,_,H⟩:=h.isw (U b (mO z)).1;have E:=ae B (ae A g g.lt) (qQ g.lt A.size)
  refine ay oo (zby ab rfl z λ_=>aq (Ei (ldA (n:=2) (vs:=wnC (k,u)) underlying290 rfl kr E rfl rfl ?_)));refine nV [.agg (wnC (k,u)).toArray] underlying324 (s:=2) kr kr oo rfl oB dc rfl (by
   intro v hv;rw[mS hv];rfl) λw5 O N s5=>?_
  have O:=cZ O
  have r5:=cn M (w':=w5) λk r=>N.block k (jT M k r).2;refine wK (enc:=wnC) (x:=(k,u)) underlying324 S aa Z R rfl oo (λ_=>rfl) r5 O (Xn _) oo oo (qR B.size N.size) λa' c' w6 r6 g6 b6 _=>aR oo oo ?_;refine⟨⟨j+1,T++[(k,u)],a',c',ivS,G,rfl,by simp[f],(tB B N).trans b6,λq x l=>?_,r6⟩,mD W⟩
  by_cases hq:q<T.length
  .rw[qO hq]at l;exact P q x l
  .have X:q<(T++[(k,u)]).length:=(gS l).1;have Y:q=T.length:=by simp at X;omega
   subst Y;rw[qP oA,jO]at l;cases l;exact⟨b,t,y,by rw[f];exact z,H,g⟩
 .have V:j=e.length:=by omega
  refine ax oo (Ju ?_);rw[<-f]at M |-;refine hK w2 J L T (tB A B) oo (λx l=>?_) (λp hp=>?_) (wC M A.size)
  .obtain⟨k,r⟩:=List.getElem?_of_mem l;obtain⟨b,t,y,_,C,h2⟩:=P k x r;exact⟨b,t,y,C,h2⟩
  .obtain⟨b,u,t,y,z,hw,_⟩:=h.wt p hp;obtain⟨k,r⟩:=List.getElem?_of_mem (D b (ti.2 ⟨p,hp,z⟩) rfl);have F:k<T.length:=by rw[f,V];exact(gS r).1
   obtain⟨b',t',y',C,h2,h3⟩:=P k _ (gE F);rw[r]at C;cases C;exact⟨_,List.getElem_mem F,(Mr h3 hw).1⟩
def ziK{f:Int}(h:DmW w d m ws)(e:∀w' a c (T:List (Int×Int)),DmW w' d m ws->Ch (wB ws) w w'->Yr w w' ws->T.length<=32->(∀x∈T,∃b t y,(x.1,some b)∈ws/\blk w b 292 (wtC x.1 x.2 t y))->w'.ownsRow w.heap.size 290 2 (.slice a T.length c) T.length (T.flatMap wnC)->K (.slice a T.length c) w'):call Q 220 #[pB d,u6 f] K w:=by
 refine aj (goK func220) (ME (bu λw0 J b0 s0=>?_));have J:blk w0 w.heap.size 36 [u6 f]:=J;have h0:=h.below b0;refine zbH h0 (pr:=λb=>decide (atW w0 b<=f)) (λb A w1 K1 L h1=>bS rfl (aj (goK func245) (Kx ?_))) λw1 a c z L ap ag an ro=>bv underlying346 ?_
 .obtain⟨k,C,t,y,g,_⟩:=h0.isw A;rw[zio g]at h1;have ac:=(ae L g g.lt).drew;have W:=(ae L J J.lt).drew;refine ah (λ_=>aq) (ah (λ_=>Zm) (ah (v:=u6 t) (λ_=>lK ac rfl) (ah (v:=u6 f) (λ_=>lK W rfl) (ah (v:=.bool (decide (t<=f))) (λ_=>iG) (h1 _ (jU _ w1).drew)))))
 obtain⟨ii,af,al,ak,ad⟩:=info_parts zbi;have p:=tB b0 L;have S:∀k∈wB ws,k<w.heap.size:=λk I=>h.lt k (by simp[I]);have ar:=h.below p;have W:=ae L J J.lt
 refine Ky (Inv:=λo i a=>∃(j:Nat) (T:List (Int×Int)) (X:Option Addr) (Y:Nat),i=iv (j:Nat)/\j<=z.length/\o=.slice X j Y/\T.length=j/\Ch (wB ws) w1 a/\Yr w1 a ws/\(∀x∈T,∃b t y,(x.1,some b)∈ws/\blk w b 292 (wtC x.1 x.2 t y))/\a.ownsRow w1.heap.size 290 2 (.slice X j Y) j (T.flatMap wnC)) (μ:=mV z.length)
  ⟨0,[],none,0,rfl,qG _,rfl,rfl,Ch.refl _ _,λb _ k a t x A=>⟨t,x,A⟩,λx l=>by simp at l,World.ownsRow_nil _ _ _ _⟩ ?_
 rintro _ _ dd w2 mu ⟨j,T,X,Y,rfl,hj,rfl,O,N,H,hT,Z⟩ ai;refine aL ?_;by_cases P:j<z.length
 .have A:z[j]? = some z[j]:=gE P;generalize z[j]=b at A;have B:=(ag b (mO A)).1;have am:=cn ro (w':=w2) λk I=>N.block k (jT ro k I).2 λhh=>by have:=S k hh;have:=(jT ro k I).1;omega
  obtain⟨k,C,t,y,g,_,_,_,R⟩:=h.isw B;have r:=ae p g g.lt;obtain⟨t2,V,D⟩:=H b B _ _ _ _ r;have n2:=W.ch N λhh=>by have:=S _ hh;omega
  refine ay oo (zby am rfl A λ_=>aq (Ei (ldA (n:=2) (vs:=wnC (k,C)) underlying290 rfl kr D rfl rfl ?_)));refine nV [.agg (wnC (k,C)).toArray] underlying324 (s:=2) kr kr oo rfl oB dc rfl (by
   intro v hv;rw[mS hv];rfl) λw5 e5 b5 s5=>?_
  have e5:=cZ e5
  have r5:=cn Z (w':=w5) λk I=>b5.block k (jT Z k I).2;have U:=N.size;refine wK (enc:=wnC) (x:=(k,C)) underlying324 af al ak ad rfl oo (λ_=>rfl) r5 e5 (Xn _) oo oo (qR U b5.size) λa' c' w6 r6 g6 b6 _=>?_;have u:=(b5.mono U).trans b6;have aa:b<w1.heap.size:=r.lt;have E:=(ae u D aa).drew
  have n6:=(ae u n2 W.lt).drew;refine ah (v:=u6 f) (λ_=>lK n6 rfl) (ah (λ_=>aq) (ah (λ_=>SQ) (ah (v:=u6 V) (λ_=>lK E rfl) ?_)));refine ah (v:=u6 (IntKind.u64.wrap (f+V))) (λ_=>xE) (ah (λ_=>aq) (ah (λ_=>Zm) ?_));refine cq kf E (by show 0+2<4;omega) rfl λw7 z7 o7=>?_;have z7:blk w7 b 292 (wtC k C (IntKind.u64.wrap (f+V)) V):=z7
  refine aq (SQ (lK (v:=u6 V) z7 rfl (VU (Vf (aq (SQ ?_))))));refine cq kf z7 (by show 0+3<4;omega) rfl λw8 z8 o8=>aR oo oo ?_;obtain⟨t8,y8,z8⟩:∃t' x',blk w8 b 292 (wtC k C t' x'):=⟨_,_,z8⟩
  have c6:Ch (wB ws) w1 w6.drew:=(N.add u).add (jU _ w6).drew;have c8:Ch (wB ws) w1 w8:=(c6.trans (Ch.of_oth o7 B:Ch (wB ws) _ _) λx l=>.inl l).trans (Ch.of_oth o8 B:Ch (wB ws) _ _) λx l=>.inl l;refine⟨⟨j+1,T++[(k,C)],a',c',ivS,P,rfl,by simp[O],c8,λb' ab k' ao t' y' G=>?_,λx l=>?_,cn r6 λq hq=>?_⟩,mD ai⟩
  .by_cases F:b'=b
   .subst F;obtain⟨rfl,rfl⟩:=Mr G r;exact⟨_,_,z8⟩
   .obtain⟨t3,y3,h3⟩:=H b' ab _ _ _ _ G;exact⟨t3,y3,o8.blk (o7.blk (ae u h3 G.lt).drew F) F⟩
  .rcases oU.1 l with l|l
   .exact hT x l
   .rw[mS l];exact⟨b,t,y,R,g⟩
  .have:=(jT r6 q hq).1
   exact(o8.other q oo).trans (o7.other q oo)
 .have au:j=z.length:=by omega
  refine ax oo (Kz ?_);rw[<-O]at Z |-;have M:Ch (wB ws) w w2:=(Ch.of_below p:Ch (wB ws) w w1).trans N λx l=>.inl l;have sa:Yr w w2 ws:=λb A k a t x hw=>H b A k a t x (ae p hw hw.lt);exact e w2 X Y T (h.turn M sa) M sa oo hT (wC Z p.size)
def zl4{v:Option Nat}(h:K (.bool v.isSome) w):bin Q .neq 287 cx cy (pV v) (.pointer none) K w:=by
 cases v with
 | none=>exact dZ (by unfold eqG eqGuard;rfl) kr h
 | some b=>exact dZ (by unfold eqG eqGuard;rfl) kr h
def zkW{v:Option Nat}(h:K (.bool v.isNone) w):bin Q .eql 287 cx cy (pV v) (.pointer none) K w:=by
 cases v with
 | none=>exact dZ (by unfold eqG eqGuard;rfl) kr h
 | some b=>exact dZ (by unfold eqG eqGuard;rfl) kr h
def DmW.get(h:DmW w d m ws){v:Option Nat}(e:dA ws x=some v):∃b a t y,v=some b/\blk w b 292 (wtC x a t y)/\1<=a/\a<=Cw/\x≠0/\b∈wB ws:=by obtain⟨b,a,t,y,c,j,f,g,i⟩:=h.wt _ (wY e);exact⟨b,a,t,y,c,j,f,g,i,ti.2 ⟨_,wY e,c⟩⟩
def ziO{node j:Int}(h:DmW w d m ws)(M:∀w' C e,DmW w' d m C->Ch (m::wB ws) w w'->(∀k∈wB C,k∈wB ws\/w.heap.size<=k)->K (ci e) w'):call Q 215 #[pB d,u6 node,iv x,u6 j] K w:=by
 have B:∀e,K (ci e) w:=λe=>M w ws e h (Ch.refl _ _) λk g=>.inl g;refine aj (goK func215) (MF (Wc (aA (aL ?_))));by_cases D:x<1
 .exact mF D (bI D (iH (cA (iH (cA (aV (B 1)))))))
 refine df D (cH (bw D ?_));by_cases F:1125899906842624<x
 .exact mF F (bI F (iH (cA (aV (B 1)))))
 refine df F (aT (bw F ?_));by_cases u:node=0
 .exact mF u (bI u (aV (B 1)))
 refine df u (cH (bw u ?_));by_cases T:4611686018427387904<j
 .exact ay T (B 1)
 refine ax T (aq (DZ (lK (v:=.map (some m)) h.b rfl (Tc (x:=node) (z0:=(none:Option Nat)) u6K underlying167 kf h.mb (KB (zl4 ?_))))));cases U:dA ws node with
 | some v =>
  obtain⟨b,a,t,y,rfl,z,aa,ab,_,O⟩:=h.get U;refine aV (aq (Ei (MV (lK (v:=iv a) z rfl (QX (aq (Ei (MV (cq kf z (by show 0+0+1<4;omega) rfl λs n H=>?_)))))))));have n:blk s b 292 (wtC node (if a<x then x else a) t y):=n;have P:∀p∈ws,∀J,p.2=some J->J=b->p.1=node:=λp i J e e' => by
   obtain⟨l,S,W,Y,c,r,_⟩:=h.wt p i;rw[e]at c;cases c;subst e';exact(Mr r z).1
  refine M s ws 0 ⟨H.blk h.b (λe=>z.ne h.b dc e.symm),h.mb.oth H (λe=>h.mb.ne z e.symm),λp i=>?_,h.few⟩ (Ch.of_oth H (oH _ O)) λk g=>.inl g;obtain⟨l,S,W,Y,c,r,G,L,h7⟩:=h.wt p i;by_cases o:l=b
  .have:=P p i l c o
   subst o;rw[this];exact⟨l,_,_,_,c,n,by split<;>omega,by unfold Cw at *; split<;>omega,u⟩
  .exact⟨l,S,W,Y,c,H.blk r o,G,L,h7⟩
 | none =>
  refine aA (KF (aq (DZ (lK (v:=.map (some m)) h.b rfl (zcd underlying167 h.mb (bR ?_))))));by_cases G:(32:Int)<=(ws.length:Nat)
  .exact ay G (B 7)
  refine ax G (aq (DZ (lK (v:=.map (some m)) h.b rfl ?_)));refine ck (vs:=wnC (node,x)) kr (ck (vs:=wtC node x j 1) kr (bu λs n l s2=>?_));have n:=cZ n
  have f:=h.below l;refine vT (v:=some w.heap.size) (x:=node) u6K underlying167 f.mb λX V I=>?_;rw[yY U]at V;have q:∀{k:Nat} {cs:oE} {E:TypeId},blk s k E cs->k≠m:=λhb=>f.mb.ne hb;have R:wB (ws++[(node,some w.heap.size)])=wB ws++[w.heap.size]:=by unfold wB;rw[List.filterMap_append];rfl
  refine M X _ 0 ⟨I.blk f.b (q f.b),V,λp i=>?_,by simp;omega⟩ (((Ch.of_below l:Ch (m::wB ws) w s)).trans (Ch.of_oth I oB:Ch (m::wB ws) s X) λx a=>.inl a) λk g=>?_
  .rcases oU.1 i with i|i
   .obtain⟨b4,Z,t4,y4,N,A,L⟩:=f.wt p i;exact⟨b4,Z,t4,y4,N,I.blk A (q A),L⟩
   .rw[mS i];exact⟨_,_,_,_,rfl,I.blk n (q n),by omega,by unfold Cw;omega,u⟩
  .rw[R]at g;rcases oU.1 g with g|g
   .exact .inl g
   .rw[mS g];exact .inr oA
def zgO(h:DmW w d m ws)(g:∀S r,DmW S d m (ud ws x)->Ch [m] w S->K (.bool r) S):call Q 168 #[pB d,u6 x] K w:=by
 refine aj (goK func168) (Lt (Wc (fF (aq (DZ (lK (v:=.map (some m)) h.b rfl (Tc (x:=x) (z0:=(none:Option Nat)) u6K underlying167 kf h.mb (zkW (bZ ?_)))))))));cases i:dA ws x with
 | none =>
  have:=g w false (by rw[PV (wy.1 i)];exact h) (Ch.refl _ _)
  exact aV this
 | some v =>
  obtain⟨b,a,t,y,rfl,_⟩:=h.get i;refine aA (aq (DZ (lK (v:=.map (some m)) h.b rfl (zd0 (x:=x) u6K underlying167 h.mb λs o f=>?_))));refine g s true ⟨f.blk h.b (h.mb.ne h.b),o,λp n=>?_,qR (List.length_filter_le _ _) h.few⟩ (Ch.of_oth f oB);obtain⟨k,j,q,u,e,c,l⟩:=h.wt p (zK.1 n).1;exact⟨k,j,q,u,e,f.blk c (h.mb.ne c),l⟩
end
end
def PI.nle{s:PL}(h:PI s):s.N.length<=30:=by
 rw[Wy λx f=>by
  obtain⟨o,q,a,b,c,d,e,_⟩:=h.ids x f;exact⟨o,q,a,b,c,d,e⟩]
 have g:=h.own 1;have i:=h.own 2;have j:=h.own 3;have k:=h.own 4;have l:=h.own 5;have m:=h.own 6;omega
def Em(s:PL)(i a:Int):Int:=if bB i=true then Ik (aN s.N a) (i-1).toNat else 0
def zh7{k:Nat}(a:k<6):0<=Ik A k:=by
 rw[Zy A a];cases h:nI A with
 | false=>exact Int.le_refl _
 | true =>
  unfold nI at h;simp only[oM,jS,jQ,oP]at h;exact h.1.2 k a
def zhl{s:PL}{i node:Int}:0<=Em s i node:=by
 unfold Em;split
 .rename_i h;unfold bB at h;simp only[oM,oP]at h;exact zh7 oo
 .exact Int.le_refl _
def SH:fU Q 83 0 0 b o K w:=aJ kr
def Zf:fU Q 83 2 2 b o K w:=aJ kr
section
variable {q:LB}{s:PL}
def zjm{B n:Nat}{L:List Int}{K2:oF->KV}(k:w.ownsRow B 36 1 (.slice a n c) n (L.map u6))(i:L.length=n)(e:L[j]? = some x)(h:∀u,K2 u (u6 x) w):aW Q 187 (.slice a n c) (iv (j:Nat)) (λu w=>ld Q 36 u (K2 u) w) w:=by
 have l:j<n:=by rw[<-i];exact(gS e).1
 obtain⟨g,b,rfl,f⟩:=gy k oo;refine fQ underlying187 (s:=1) kf oo oo ?_;rw[oQ];refine lK (v:=u6 x) f.blk ?_ (h _);have d:(b.take (n*1))[j]? = some (u6 x):=by rw[f.take,qC,e];rfl
 rw[jN oo]at d;rw[oK,Nat.mul_one];exact d
def zj5{i d:Int}(h:PM w q s)(hi:PI s)(A:∀w' a b,Below w.heap.size w w'->K (.tuple #[u6 a,iv b]) w'):call Q 214 #[pB q.p,iv i,u6 d,iv x] K w:=by
 obtain⟨O,o⟩:=hi.tk;have L:=hi.nle;refine aj (goK func214) (XR (aj (goK func234) (LP (DW (aA (aq (BO (lK (v:=pB q.t) h.b (by rw[oK];exact h.c18) (Rd o h.tm (by unfold tr;rw[oY];omega) λE a c r y=>bv underlying187 ?_)))))))));have n:(eA (tr s.N) d).length<=(tr s.N).length+1:=Tw _ _;have G:(tr s.N).length=s.N.length:=by unfold tr;rw[oY]
 generalize eA (tr s.N) d=P at r n |-;refine Ud (Inv:=λj I=>∃k:Nat,j=iv (k:Nat)/\k<=P.length/\Below E.heap.size E I) (μ:=mU P.length) ⟨0,rfl,qG _,jU _ _⟩ ?_;rintro _ J F M ⟨k,rfl,C,g⟩ m;have e:=tB y g;refine aL ?_;by_cases f:k<P.length
 .have D:P[k]? = some P[k]:=gE f;generalize P[k]=id at D;have u:=cn r (w':=F) λk C=>g.block k (jT r k C).2;refine ay oo (zjm u rfl D λ_=>NG (h.below e) hi λH z=>aL ?_);have l:=tB e z;by_cases B:(if bB i=true then Ik (aN s.N id) (i-1).toNat else 0)<x
  .exact ay B (nL (A H _ _ l))
  .refine ax B (aR oo oo ⟨⟨k+1,ivS,f,tB g z⟩,?_⟩);exact mD m
 .exact ax oo (Ue (A F 0 0 e))
def zd2(h:∀b,K (.bool b) w):call Q 265 #[iv x] K w:=by
 refine aj (goK func265) (YX (bR ?_));by_cases a:x≥1
 .exact bU a (iG (bI a (h _)))
 .exact cJ a (bw a (h _))
def zhQ{y:Int}(h:∀z,K (iv z) w):call Q 252 #[iv x,iv y] K w:=by
 refine aj (goK func252) (Wa (zd2 λb=>bc ?_));cases b with
 | false=>exact iH (cA (aV (h 0)))
 | true =>
  refine fF (zd2 λb=>bc (bZ ?_));cases b with
  | false=>exact aV (h 0)
  | true=>exact aA (xE (zaV oo (Vf (h _))))
def zk5{x:ND}(b:x.A.length=54){K2:oF->KV}(h:∀S,blk S w.heap.size 83 (ndC x)->Below w.heap.size w S->K2 (pB w.heap.size) (undef) S):alc Q 83 (λp=>sto Q 83 p (.agg (ndC x).toArray) (K2 p)) w:=by
 refine bO (z:=.agg (ndE ⟨0,0,z54⟩).toArray) kr λg a d j=>?_;have a:=cZ a
 have e:=Hy b;refine eW (n:=56) (vs:=ndC x) kr e a (by rw[Cp];omega) (by rw[<-Vi b];exact WC x) λi c f=>?_;rw[qY,oV,oS (by rw[Cp];omega),oW]at c;exact h i c (aD d f oA)
def OQ(s:PL)(i j:Int):Prop:=1<=j/\j<=6/\j≠i/\s.I.getD (j-1).toNat false=true/\s.L.getD (j-1).toNat false=false
def zia{t:STA}{i d j:Int}(M:1<=j/\j<=6)(k:SK w t)(S:t.I=s.I)(T:t.L=s.L)(hi:blk w c 3 [iv i])(D:blk w o 42 (saC t))(N:blk w g 36 [u6 d])(h:∀w' n,(0<n->OQ s i j)->Below w.heap.size w w'->K (iv n) w'):call Q 247 #[iv j,pB c,pB o,pB g] K w:=by
 refine aj (goK func247) (Uw (lK (v:=iv i) hi rfl (aT ?_)));have G:∀{w':oG},Below w.heap.size w w'->K (iv 0) w':=λb=>h _ 0 (λh=>by omega) b;by_cases a:j=i
 .exact mF a (bI a (iH (cA (aV (G (jU _ _))))))
 have r:(j-1).toNat<6:=by omega
 have H:j-1=((j-1).toNat:Nat):=by omega
 refine df a (bL oo oo (MT ?_));rw[H];refine fg underlying35 (s:=1) kf oo oo ?_;refine lK (v:=.bool (t.I.getD (j-1).toNat false)) D (by rw[oQ,Nat.mul_one];exact(qH (λn=>(saC t)[n]?) oo).trans (zkH k r)) (bc (bw a ?_));cases U:t.I.getD (j-1).toNat false with
 | false=>exact iH (cA (aV (G (jU _ _))))
 | true =>
 refine fF (bL oo oo (MU ?_));rw[H];refine fg underlying35 (s:=1) kf oo oo ?_;refine lK (v:=.bool (t.L.getD (j-1).toNat false)) D (by rw[oQ,Nat.mul_one];exact(qH (λn=>(saC t)[n]?) oo).trans (zgr k r)) (bZ ?_);cases V:t.L.getD (j-1).toNat false with
 | true=>exact aV (G (jU _ _))
 | false =>
 have W:OQ s i j:=⟨M.1,M.2,a,by rw[<-S];exact U,by rw[<-T];exact V⟩
 have B:=Et k.i6 k.l6 k.v6;refine aA (pZ (lK (v:=.slice t.na t.nodes.length t.nc) D B (bv underlying39 ?_)));have J:=k.few;refine Rr (Inv:=λn i Y=>∃(q:Nat) (v:Int),i=iv (q:Nat)/\n=iv v/\q<=t.nodes.length/\Below w.heap.size w Y) (μ:=mV t.nodes.length) ⟨0,0,rfl,rfl,qG _,jU _ _⟩ ?_;rintro _ _ Z X mu ⟨q,v,rfl,rfl,hq,u⟩ C;refine aL ?_;by_cases f:q<t.nodes.length
 .have E:t.nodes[q]? = some t.nodes[q]:=gE f;generalize t.nodes[q]=x at E;have F:=(k.bel u oA).nr;obtain⟨p1,o1,m⟩:=F.some_ oo;have y:=F.A54 x (mO E);refine ay oo (Rq ?_);rw[m];refine fQ underlying39 (s:=56) kf oo oo ?_;rw[oQ]
  refine zff F m E (zk5 y λw3 O P=>?_);have e:=tB u P;have z:=ae e N N.lt;refine SH (lK (v:=u6 x.id) O rfl (lK (v:=u6 d) z rfl (aT ?_)));have l:t.nodes.length-(intOf (iv ((q:Int)+1))).toNat<mu:=by rw[C];show t.nodes.length-((q:Int)+1).toNat<t.nodes.length-((q:Nat):Int).toNat;omega
  by_cases p:x.id=d
  .refine ay p (Zf (ldA (n:=54) (vs:=x.A.map iv) underlying81 rfl kr O (by
    show ((ndC x).drop 2).take 54=_;unfold ndC;rw[List.drop_succ_cons,List.drop_succ_cons,oX,tL (by simp[y])]) (by simp[y]) (Jf y λa R=>QX (FY (aR oo oo ⟨⟨q+1,_,ivS,rfl,f,tB e R⟩,l⟩)))))
  .exact ax p (FY (aR oo oo ⟨⟨q+1,v,ivS,rfl,f,e⟩,l⟩))
 .exact ax oo (Rs (h X v (λ_=>W) u))
def zk0{t:STA}{i c:Int}(k:SK w t)(H:t.I=s.I)(J:t.L=s.L)(h:∀w' j,(j=0\/OQ s i j)->Below w.heap.size w w'->K (iv j) w'):call Q 221 #[.agg (saC t).toArray,iv i,u6 c] K w:=by
 refine aj (goK func221) (Y9 (bu λq e B U=>bu λE f F V=>bu λw3 r C W=>?_));have e:=cZ e
 have f:blk E q.heap.size 3 [iv i]:=f;have r:blk w3 E.heap.size 36 [u6 c]:=r;have g:=F.trans (C.mono oo);have b:=tB B g;have e:=ae g e e.lt;have f:=ae C f f.lt;refine aj (goK func246) (Ya ?_);refine Uy (Inv:=λa m j R=>∃(x y z:Int),a=iv x/\m=iv y/\j=iv z/\1<=z/\z<=7/\0<=y/\(x=0\/OQ s i x)/\Below w3.heap.size w3 R) (μ:=λ_ _ j _=>7-(intOf j).toNat)
  ⟨0,0,1,rfl,rfl,rfl,by omega,by omega,by omega,.inl rfl,jU _ _⟩ ?_
 rintro _ _ _ S P mu ⟨x,y,z,rfl,rfl,rfl,M,T,O,D,d⟩ A;refine iG ?_;by_cases v:z<=6
 .have o:7-(intOf (iv (z+1))).toNat<mu:=by rw[A];show 7-(z+1).toNat<7-z.toNat;omega
  have u:=tB b d;refine ay v (Ux (bS rfl (zia ⟨M,v⟩ (k.bel u oA) H J (ae d f f.lt) (ae d e e.lt) (ae d r r.lt) λX n N G=>cH ?_)));have l:=tB d G;by_cases p:y<n
  .exact ay p (JY (aR oo oo ⟨⟨z,n,z+1,rfl,rfl,rfl,by omega,by omega,by omega,.inr (N oo),l⟩,o⟩))
  .exact ax p (JY (aR oo oo ⟨⟨x,y,z+1,rfl,rfl,rfl,by omega,by omega,O,D,l⟩,o⟩))
 .exact ax v (Uz (h P x D (tB b d)))
end
section
open Go.ChangeMaps
def Vg{l:PL}{x:AK}:(mkP i l x).q=i:=by show ((i:Int)+1-1).toNat=i;omega
def zcf{l:PL}{x:AK}{r:Bool}(h:r=true↔evC (mkP i l x)=evC evZ):r=false:=by
 cases r with
 | false=>rfl
 | true =>
  have:=qH (λl=>l[0]?) (h.1 rfl)
  simp[evC,mkP,mkE,iv,evZ]at this;omega
abbrev rpC(R:RpB)(i:Nat):oE:=[iv ((i+1:Nat)),pB R.q.p,pB R.g,pB R.h,pB R.e,pB R.d]
section
variable {R:RpB} {l:PL}{W:HM}{Rw:List iQ}{c:Int}{L:List (List Int)}{x:AK}
def YV{y:oG}{e:Int}{a:EV}(d:blk y z 54 (evC evZ))(c:blk y b 54 (evC a))(h:∀S,Oth b y S->K (.tuple #[evV evZ,ci e]) S):jo K (dY Z U H (pB b) (pB z) (ci e) (.bool false) zf) y :=
 ym (aA (yn (dh d (eX (e':=evZ) c λi g f=>CD g (h i f)))))
def YW{y wB:oG}{e H:EV}(h:RpM w0 R (i+1) l W Rw c L)(hi:PI l)(J:fS l.V e=true)(m:co e=true)(I:c<1000000)(O:PM y R.q (eff e l))(c2:Ch R.q.wv w0 y)(x:blk y z 54 (evC e))(E:blk y b 54 (evC H))(w:∀k∈R.q.l,k<b)(D:Below wB.heap.size wB w0)(u:wB.heap.size<=b)(j:∀w' a,RpM w' R (i+1) (eff e l) W a (c+1) L->Ch (RpF R Rw) wB w'->(∀k∈lrB a,k∈lrB Rw\/wB.heap.size<=k)->nG a=Fy (nG Rw) e c->K (.tuple #[evV e,ci 0]) w'):jo K (dY (pB R.p) X1 Z1 (pB b) (pB z) (ci 0) (.bool true) zf) y:=by
 have Y:=h.b.ch c2 (h.wq h.pq);have C:=h.g.ch c2 λk f=>h.wq (h.gq k f);refine ym (aV ?_);refine aw (λv=>blk v R.p 133 (rpC R i)/\blk v z 54 (evC e)) ⟨Y.drew,x.drew⟩ ?_;refine hZ (hW SI (ac (v:=pB R.g) (λv d _ j=>lK d.1 rfl j) (ac (λv d _ j=>dh d.2 j) ?_)));have s:=c2.add (jU _ y).drew;have Z:y.drew.heap.size=y.heap.size:=rfl;have sz:=c2.size;have S:=D.size
 refine zdY h hi J m I O.drew s λU a P t N M=>?_;have o:∀{k:Nat} {cs:oE},blk y k 54 cs->k∉R.g::lrB Rw:=λf r=>(oO.1 r).elim (λe=>f.ne C.b dc e) λr=>C.ty f dc r;have A:=x.drew.ch t (o x);have n:=E.drew.ch t (o E)
 refine yn (dh A (eX (e':=e) n λX T F=>CD T (j X a (P.othE (B:=b) w n oA F) ?_ (λk f=>(N k f).imp id λr=>by omega) M)));have X1:Ch (RpF R Rw) wB w0:=Ch.of_below D;have G:Ch (RpF R Rw) wB y:=X1.trans c2 λk f=>.inl (fG.2 (.inl f))
 have Z1:=(G.add (jU _ y).drew).trans t λk f=>.inl (fG.2 ((oO.1 f).elim (λh=>.inr (.inl h)) λh=>.inr (.inr (.inl h))));exact Z1.add (aD (jU _ U) F u)
def zd3(h:RpM w R (i+1) l W Rw c L)(J:PI l)(hi:i<6)(hG:l.G.length<=1000000)(hc:c<1000000)(no:∀w' e,NoP i l x e->Below w.heap.size w w'->K (.tuple #[evV evZ,ci e]) w')(T:∀w' g,gF (mkP i l x) l=0->wJ ((i:Int)+1) l x->RpM w' R (i+1) (eff (mkP i l x) l) W g (c+1) L->Ch (RpF R Rw) w w'->(∀k∈lrB g,k∈lrB Rw\/w.heap.size<=k)->nG g=Fy (nG Rw) (mkP i l x) c->K (.tuple #[evV (mkP i l x),ci 0]) w'):call Q 213 #[pB R.p,.agg (akC x).toArray] K w:=by
 have u:=h.pm.lt;refine aj (goK func213) (JO (My λw1 z1 b1 s1=>il λN M b2 s2=>?_));have O:=b1.trans (b2.mono oo);have h2:=h.below O;have z2:=ae b2 z1 z1.lt;refine aw (λy=>blk y R.p 133 (rpC R i)/\blk y w.heap.size 46 (akC x)) ⟨h2.b.drew,z2.drew⟩ ?_;refine hZ (hW rS (ac (v:=pB R.q.p) (λy d _ a=>lK d.1 rfl a) ?_))
 refine hZ (hW sY (ac (v:=iv ((i:Int)+1)) (λy d _ a=>lK (v:=iv ((i:Int)+1)) d.1 (show some (iv ((i+1:Nat)))=some (iv ((i:Int)+1))from qH (λz=>some (iv z)) (by push_cast;rfl)) a) (ac (λy d _ a=>JT d.2 a) ?_)));have m:=h2.below (jU _ N).drew;have f:Below w.heap.size w N.drew:=O.drew;have nq:∀k,w.heap.size<=k->k∉R.q.wv:=λk X hh=>by have:=u k (LB.wl k hh);omega
 have l2:=M.lt;have ah:w1.heap.size=w.heap.size+1:=s1;have ag:N.drew.heap.size=N.heap.size:=rfl;have A:gF (mkP i l x) l=0->fS l.V (mkP i l x)=true/\co (mkP i l x)=true:=λo=>⟨((mE J).1 o).rdy,((mE J).1 o).may⟩
 refine⟨?_,?_⟩
 .refine ze2 m.pm J hi hG (λF e3 ab t=>?_) λF o D p3 c3=>?_
  .refine hRT (hE2 (?_));have S:=(tB f t)
   have B:=ae t M.drew M.drew.lt;refine il λY I C s4=>aB trivial (eX (e':=evZ) I λw5 n s=>aB trivial ?_);have j:=aD C s oA;refine dh n (ck (vs:=evC evZ) kr (zC 6 oo kr kr (AQ _) (AQ _) λr E=>?_));rw[E.2 rfl];exact YV n (ae j B B.lt) λH o6=>no H e3 ab (aD (tB S j) o6 oo)
  .have B:=M.drew.ch c3 (nq _ oo);have af:=c3.size;refine hRT (hE2 (?_));refine il λY I C s4=>aB trivial (eX (e':=mkP i l x) I λw5 n s=>aB trivial ?_);have j:=aD C s oA;refine dh n (ck (vs:=evC evZ) kr (zC 6 oo kr kr (AQ _) (AQ _) λr E=>?_));rw[zcf E]
   exact YW (wB:=w) m J (A o).1 (A o).2 hc (p3.below j) (c3.add (j.mono af)) n (ae j B B.lt) (λk X=>by have:=u k X;omega) f oo λH g Z a2 a3 a4=>T H g o D Z a2 a3 a4
 .refine il λF z3 t s3=>aB (by
   have:=m.below t
   exact⟨this.b,ae t z2.drew z2.drew.lt⟩) ?_
  have h3:=m.below t;have B:=ae t M.drew M.drew.lt;have P:=tB f t;refine ze2 h3.pm J hi hG (λY e4 ad C=>?_) λY o D p4 U=>?_
  .have I:=ae C z3 z3.lt;have t4:=ae C B B.lt;have aa:=tB P C;refine hRT (hE2 (?_));refine eX (e':=evZ) I λw5 n s=>aB trivial ?_;refine dh n (ck (vs:=evC evZ) kr (zC 6 oo kr kr (AQ _) (AQ _) λr E=>?_));rw[E.2 rfl];exact YV n (s.blk t4 oo) λH o6=>no H e4 ad (aD (aD aa s oo) o6 oo)
  .have I:=z3.ch U (nq _ oo);have t4:=B.ch U (nq _ oo);refine hRT (hE2 (?_));refine eX (e':=mkP i l x) I λw5 n s=>aB trivial ?_;have ai:=U.size;refine dh n (ck (vs:=evC evZ) kr (zC 6 oo kr kr (AQ _) (AQ _) λr E=>?_));rw[zcf E]
   have c5:Ch R.q.wv N.drew w5:=((Ch.of_below t:Ch R.q.wv N.drew F).trans U λy a=>.inl a).add (aD (jU _ Y) s oo);exact YW (wB:=w) m J (A o).1 (A o).2 hc (p4.oth s λa=>by have:=u _ a;omega) c5 n (s.blk t4 oo) (λk X=>by have:=u k X;omega) f oo λH g Z a2 a3 a4=>T H g o D Z a2 a3 a4
def ziX{f t n a:Int}{V:List Int}(h:RpM w R (i+1) l W Rw c L)(hV:V.length=6)(hp:PI l)(hi:i<6)(hG:l.G.length<=1000000)(hc:c<1000000)(no:nX w (K (.slice none 0 0)))(X:∀w' m z av cv,gF (mkP i l ⟨5,n,f,z,0,0⟩) l=0->VR w' av 1 cv [mkP i l ⟨5,n,f,z,0,0⟩]->RpM w' R (i+1) (eff (mkP i l ⟨5,n,f,z,0,0⟩) l) W m (c+1) L->Ch (RpF R Rw) w w'->(∀k∈lrB m,k∈lrB Rw\/w.heap.size<=k)->nG m=Fy (nG Rw) (mkP i l ⟨5,n,f,z,0,0⟩) c->K (.slice av 1 cv) w'):call Q 228 #[pB R.p,.agg (mgC 2 f t V X1 n a).toArray] K w:=by
 generalize O:mgC 2 f t V X1 n a=ms;have M:(Value.agg ms.toArray).cells.toList=ms:=by simp[Value.cells]
 have m1:ms[1]? = some (iv f):=by rw[<-O];rfl
 have A:ms[10]? = some (u6 n):=by
  rw[<-O];unfold mgC;rw[show 10=3+7 by rfl,eB (n:=3) rfl,show 7=6+1 by rfl,eB (n:=6) (by rw[bh,hV])];rfl
 have S:ms[11]? = some (iv a):=by
  rw[<-O];unfold mgC;rw[show 11=3+8 by rfl,eB (n:=3) rfl,show 8=6+2 by rfl,eB (n:=6) (by rw[bh,hV])];rfl
 refine aj (goK func228) (FP (bu λB C E s1=>?_));rw[M]at C;have h1:=h.below E;refine aw (λy=>blk y R.p 133 (rpC R i)/\blk y w.heap.size 282 ms) ⟨h1.b.drew,C.drew⟩ ?_;refine hZ (hW rS (ac (v:=pB R.q.p) (λy d _ g=>lK d.1 rfl g) ?_))
 refine hZ (hW sY (ac (v:=iv ((i:Int)+1)) (λy d _ g=>lK (v:=iv ((i:Int)+1)) d.1 (show some (iv ((i+1:Nat)))=some (iv ((i:Int)+1))from qH (λz=>some (iv z)) (by push_cast;rfl)) g) ?_));refine hW MO (ac (v:=u6 n) (λy d _ g=>lK d.2 A g) (hW MP (ac (v:=iv a) (λy d _ g=>lK d.2 S g) ?_)));have J:=h1.below (jU _ B).drew;refine NG J.pm hp λw2 b2=>?_
 have r:Below B.heap.size B w2:=(jU _ B).drew.trans b2;have j:=tB E r;have h2:=h.below j;have Y:=ae r C C.lt;refine aB ⟨h2.b,Y⟩ (zhQ λz=>hRT (aT ?_));by_cases hz:z=0
 .exact ay hz (no w2 j)
 refine ax hz (MO (lK (v:=u6 n) Y A (BP (lK (v:=iv f) Y m1 ?_))));refine ck (vs:=akC ⟨5,n,f,z,0,0⟩) kr (zd3 h2 hp hi hG hc (λU e P b3=>bo (bj ?_)) λU m h0 _ r3 c3 n3 i3=>bo (bj ?_))
 .have o:=tB j b3;refine il λw4 Z F s4=>eX (e':=evZ) Z λw5 z5 T=>aZ ?_;have D:=aD (tB o F) T o.size;exact ay (P.elim (λh=>qI rfl h.1.1) λh=>by rw[h.2.2];exact h.2.1) (no w5 D)
 .refine il λw4 Z F s4=>eX (e':=mkP i l ⟨5,n,f,z,0,0⟩) Z λw5 z5 T=>aZ (ax oB (dh z5 ?_));have u:=aD F T oA;refine nV [evV (mkP i l ⟨5,n,f,z,0,0⟩)] underlying30 (s:=14) kr kr oo rfl oB dc rfl (by
   intro v hv;rw[mS hv];rfl) λw6 I b6 s6=>?_
  have x:=tB u b6;have aa:=j.size;have s3:=c3.size;have H:Ch (RpF R Rw) w w6:=((Ch.of_below j:Ch (RpF R Rw) w w2).trans c3 λk N=>.inl N).add (x.mono oo);have I:blk w6 w5.heap.size 54 (evC (mkP i l ⟨5,n,f,z,0,0⟩)):=by simpa[Value.cells,evV]using I
  exact X w6 m z _ _ h0 (VR.one I) (r3.below x) H (λk N=>(n3 k N).imp id λa=>by omega) i3
def zdv{n a f t:Int}{V:List Int}(q:n≠0)(j:1<=a/\a<=Cw)(d:V.length=6)(y:leV V (List.replicate 6 1099511627776)=true)(u:bB f=true)(x:bB t=true)(e:f≠t)(h:nX w (K (.bool true))):call Q 201 #[.agg (mgC 2 f t V (.slice none 0 0) n a).toArray] K w:=by
 generalize c:mgC 2 f t V (.slice none 0 0) n a=ms;have l:(Value.agg ms.toArray).cells.toList=ms:=by simp[Value.cells]
 have z:ms[0]? = some (kv8 2):=by rw[<-c];rfl
 have r:ms[1]? = some (iv f):=by rw[<-c];rfl
 have s:ms[2]? = some (iv t):=by rw[<-c];rfl
 have A:(ms.drop 3).take 6=vCs V:=by
  rw[<-c];unfold mgC;rw[show 3=[Value.int .u8 2,iv f,iv t].length+0 by rfl,qS,oS oB];simp only[oV,oZ,List.length_nil,jO];rw[oX,qJ (by rw[bh];omega),tL (by rw[bh];omega)]
 have B:ms[9]? = some (.slice none 0 0):=by
  rw[<-c];unfold mgC;rw[show 9=3+6 by rfl,eB (n:=3) rfl,show 6=6+0 by rfl,eB (n:=6) (by rw[bh,d])];rfl
 have m:ms[10]? = some (u6 n):=by
  rw[<-c];unfold mgC;rw[show 10=3+7 by rfl,eB (n:=3) rfl,show 7=6+1 by rfl,eB (n:=6) (by rw[bh,d])];rfl
 have i:ms[11]? = some (iv a):=by
  rw[<-c];unfold mgC;rw[show 11=3+8 by rfl,eB (n:=3) rfl,show 8=6+2 by rfl,eB (n:=6) (by rw[bh,d])];rfl
 refine aj (goK func201) (LW (bu λE b o D=>?_));rw[l]at b;refine BP (lK (v:=iv f) b r (Vh (bc ?_)));rw[u];refine fF (yO (lK (v:=iv t) b s (Vh (bc ?_))));rw[x];refine bZ (fF (BP (lK (v:=iv f) b r (yO (lK (v:=iv t) b s (aT (bZ (df e ?_))))))));refine SG (ldA (n:=6) (vs:=vCs V) underlying38 rfl kr b A (by rw[bh];exact d) (zaq d λC p=>bc ?_));rw[y]
 have g:=ae p b b.lt;have k:=tB o p;refine bw e (aA (SF (lK (v:=kv8 2) g z (IU (aT (ax dc (aT (Tl (ay rfl ?_)))))))));unfold Cw at j;refine Ee (lK (v:=.slice none 0 0) g B (bv underlying30 (aT (bU oB ?_))));refine MO (lK (v:=u6 n) g m (aZ (bI oB (bU q ?_))));refine MP (lK (v:=iv a) g i (bR (bI q (bU j.1 ?_))))
 exact MP (lK (v:=iv a) g i (iG (bI j.1 (by have:=h C k;simpa[gd,j.2]using this))))
end
end
def Cv(x:AK):Prop:=(0<=x.n/\x.n<M64)/\(0<=x.r/\x.r<M64)/\(0<=x.f/\x.f<M64)
structure DuI(n i:Nat) (s:RS) (W:HM):Prop where
 pi:PI s.l
 hk:HK s.l.V W
 ok:okL eff OK (pl0 n) s.A
 st:s.l=dU eff (pl0 n) s.A
 ft:∀e∈s.A,tT e
 fw:∀p∈W,tT p.2
 nw:∀p∈W,p.2.q≠i
def WM{E:List EV}:∀{l:PL},okL eff OK l E->∀e∈E,co e=true:=by
 induction E with
 | nil=>intro l _ e a;cases a
 | cons x E ih=>intro l h e a;exact(oO.1 a).elim (λb=>b ▸ h.1.may) (ih h.2 e)
def NH{V:List Int}:∀{L:List EV} {W:HM},∀p∈my V W L,p∈W\/p.2∈L/\V.getD p.2.q 0<p.2.s
 | [],_,p,hp=>.inl hp
 | e::L,W,p,hp=>by
  rcases NH (L:=L) (W:=Qb V W e) p hp with h|h
  .unfold Qb at h;split at h
   .rename_i b;rcases oU.1 h with h|h
    .exact .inl h
    .have a:=mS h
     have : ¬e.s<=V.getD e.q 0:=λc=>by have:=(Ke b.1).2 c;rw[b.2.1]at this;cases this
     rw[a];exact .inr ⟨by simp,by show V.getD e.q 0<e.s;omega⟩
   .exact .inl h
  .exact .inr ⟨oH _ h.1,h.2⟩
section
variable {n:Nat}{s:RS}{W W':HM}{l':PL}{F L:List EV}{P':List (List Int)}
def DG.sub{l:PL}(h:DG l W l' W' F):∀p∈W',p∈W:=by
 induction h with
 | nil=>exact λ_ h=>h
 | snoc h hn ih=>exact λp a=>ih p (zK.1 a).1
def DuI.hear(h:DuI n i s W)(hL:∀e∈L,tT e/\(e.q=i->e.s<=s.l.V.getD i 0))(f:DG s.l (my s.l.V W L) l' W' F):DuI n i ⟨l',s.A++F,P'⟩ W':=by
 obtain⟨g,j,t,k,m,o⟩:=f.inv h.pi h.hk.puts;have b:∀p∈my s.l.V W L,tT p.2/\p.2.q≠i:=λp a=>by
  rcases NH p a with c|⟨c,r⟩
  .exact⟨h.fw p c,h.nw p c⟩
  .exact⟨(hL _ c).1,λe=>by have:=(hL _ c).2 e;rw[e]at r;omega⟩
 refine⟨g,j,sS.2 ⟨h.ok,?_⟩,?_,λe d=>?_,λp a=>(b p (f.sub p a)).1,λp a=>(b p (f.sub p a)).2⟩
 .rw[<-h.st];exact k
 .show l'=dU eff (pl0 n) (s.A++F);rw[qf, <-h.st];exact m
 .rcases oU.1 d with d|d
  .exact h.ft e d
  .obtain⟨_,p,a,rfl⟩:=o e d;exact(b p a).1
def LY{l:PL}{x:AK}(a:PI l)(b:Cv x):tT (mkP i l x):=by
 refine⟨λv d=>?_,b.1,b.2.1,b.2.2⟩;have e:(mkP i l x).V=l.V:=zce a.v6;rw[e]at d;obtain⟨k,c,rfl⟩:=List.mem_iff_getElem.1 d
 have:=(a.vb k (by rw[<-a.v6];exact c)).1
 rwa[oN,gE c]at this
def DuI.make{x:AK}(h:DuI n i s W)(g:Cv x)(f:gF (mkP i s.l x) s.l=0):DuI n i ⟨eff (mkP i s.l x) s.l,s.A++[mkP i s.l x],P'⟩ W:=by
 have a:=(mE h.pi).1 f;refine⟨h.pi.eff a,⟨h.hk.key,h.hk.may,h.hk.nd,λp c=>?_,h.hk.few⟩,sS.2 ⟨h.ok,by rw[<-h.st];exact⟨a,trivial⟩⟩,by rw[qf, <-h.st];rfl,λe b=>(oU.1 b).elim (h.ft e) λb=>by rw[mS b];exact LY h.pi g,h.fw,h.nw⟩;have d:=congrFun (EL h.pi a) p.2.q;unfold kV upD at d;show (eff (mkP i s.l x) s.l).V.getD p.2.q 0<p.2.s
 rw[d,oI (by rw[Vg];exact h.nw p c)];exact h.hk.new p c
end
def X7{i:Nat}:∀{F:List EV} {l:PL},PI l->okL eff OK l F->(∀e∈F,e.q≠i)->(dU eff l F).V.getD i 0=l.V.getD i 0
 | [],_,_,_,_=>rfl
 | e::F,l,hp,hok,ho=>by
  have c:=X7 (i:=i) (hp.eff hok.1) hok.2 λx d=>ho x (oH _ d);have a:=congrFun (EL hp hok.1) i;unfold kV upD at a;rw[oI (λb=>ho e oB b.symm)]at a;exact c.trans a
def XJ{i:Nat}:∀{F:List EV} {l:PL},PI l->okL eff OK l F->l.V.getD i 0<=(dU eff l F).V.getD i 0
 | [],_,_,_=>Int.le_refl _
 | e::F,l,hp,hok=>by
  have c:=XJ (i:=i) (hp.eff hok.1) hok.2;have b:=congrFun (EL hp hok.1) i;unfold kV upD at b;refine Int.le_trans ?_ c;rw[b];split
  .rename_i d;have a:=hok.1.rdy;unfold fS at a;simp only[oM,oP]at a
   have:e.s=l.V.getD e.q 0+1:=a.2.1
   rw[d];omega
  .exact Int.le_refl _
structure TT where
 t:Nat->Int
 E:List EV
 P:List EV
instance:CoeFun TT λ_=>Nat->Int:=⟨TT.t⟩
structure TOK(n:Nat) (T:TT):Prop where
 hist:HistL n T.E
 le:∀e∈T.E,e.s<=T e.q
 isP:∀e∈T.E,(e.k=5\/e.k=7)\/e∈T.P
structure LeT(T T':TT):Prop where
 le:∀q,T q<=T' q
 ex:∃X,T'.E=T.E++X/\∀e∈X,T e.q<e.s
 p:∀e∈T.P,e∈T'.P
def LeT.refl{T:TT}:LeT T T:=⟨λ_=>Int.le_refl _,⟨[],by rw[oW],by simp⟩,λ_ h=>h⟩
def LeT.mem{T T':TT}(h:LeT T T'){e:EV}(b:e∈T.E):e∈T'.E:=by obtain⟨X,a,_⟩:=h.ex;rw[a];exact List.mem_append_left _ b
def LK.growX{n:Nat}{E X:List EV}{l:PL}(h:LK n E l)(i:∀e∈X,l.V.getD e.q 0<e.s):LK n (E++X) l:=by
 have b:∀e∈X,¬kn EV.q EV.s (kV l) e=true:=λe g b=>by
  have d:=zlf.1 b
  have:=i e g
  unfold kV at d;omega
 refine⟨?_,λf a c k=>?_⟩
 .unfold stL stD;rw[List.filter_append,List.filter_eq_nil_iff.2 b,oW];exact h.st
 .rcases oU.1 a with a|a
  .exact h.cl f a c k
  .exact qI (zlf.2 c) (b f a)
def LK.run{n:Nat}{E:List EV}(a:HistL n E):∀{F:List EV} {l:PL},LK n E l->okL eff OK l F->(∀e∈F,e∈E)->LK n E (dU eff l F)
 | [],_,h,_,_=>h
 | e::F,l,h,hk,hm=>LK.run a (F:=F) (h.next a (hm e oL) hk.1.rdy).2 hk.2 λf b=>hm f (oH _ b)
def X8{b:Nat->Int}:∀{F:List EV} {l:PL},PI l->okL eff OK l F->(∀q,l.V.getD q 0<=b q)->(∀e∈F,e.s<=b e.q)->∀q,(dU eff l F).V.getD q 0<=b q
 | [],_,_,_,h,_=>h
 | e::F,l,hp,hk,h,hF=>X8 (F:=F) (hp.eff hk.1) hk.2 (λq=>by
   have a:=congrFun (EL hp hk.1) q;unfold kV upD at a;rw[a];split
   .rename_i d;rw[d];exact hF e oL
   .exact h q) λf c=>hF f (oH _ c)
structure EvT(T:TT) (e:EV):Prop where
 may:co e=true
 fit:tT e
 mem:e∈T.E
structure SiP(n i:Nat) (T:TT) (s:RS) (W:HM):Prop where
 d:DuI n i s W
 k:TOK n T
 t:s.l.V.getD i 0=T i
 lk:LK n T.E s.l
 vl:∀q,s.l.V.getD q 0<=T q
 a:∀e∈s.A,e∈T.E
 w:∀p∈W,p.2∈T.E
structure SdP(n i:Nat) (T:TT) (A L:List EV):Prop where
 k:TOK n T
 ok:okL eff OK (pl0 n) (A++L)
 t:(dU eff (pl0 n) A).V.getD i 0=T i
 lk:LK n T.E (dU eff (pl0 n) A)
 vl:∀q,(dU eff (pl0 n) A).V.getD q 0<=T q
 a:∀e∈A,e∈T.E
 ft:∀e∈A++L,tT e
 l:(∀e∈L,e∈T.E/\e.q≠i)\/∃e,L=[e]/\e.q=i/\e.V=(dU eff (pl0 n) A).V/\((e.k=5\/e.k=7)\/e∈T.P)
section
variable {n:Nat}{T T':TT}{s:RS}{W W':HM}{l':PL}{F L A:List EV}{P':List (List Int)}{e:EV}
def EvT.mono(h:EvT T e)(a:LeT T T'):EvT T' e:=⟨h.may,h.fit,a.mem h.mem⟩
def SiP.mono(h:SiP n i T s W)(b:LeT T T')(g:TOK n T')(hi:T' i=T i):SiP n i T' s W:=by obtain⟨X,e,f⟩:=b.ex;exact⟨h.d,g,h.t.trans hi.symm,by rw[e];exact h.lk.growX λe c=>Int.lt_of_le_of_lt (h.vl e.q) (f e c),λq=>Int.le_trans (h.vl q) (b.le q),λe c=>b.mem (h.a e c),λp j=>b.mem (h.w p j)⟩
def SdP.mono(h:SdP n i T A L)(c:LeT T T')(o:TOK n T')(hi:T' i=T i):SdP n i T' A L:=by
 obtain⟨X,e,m⟩:=c.ex;refine⟨o,h.ok,h.t.trans hi.symm,by rw[e];exact h.lk.growX λe b=>Int.lt_of_le_of_lt (h.vl e.q) (m e b),λq=>Int.le_trans (h.vl q) (c.le q),λe b=>c.mem (h.a e b),h.ft,?_⟩;rcases h.l with d|⟨e,f,g,j,k⟩
 .exact .inl λe b=>⟨c.mem (d e b).1,(d e b).2⟩
 .exact .inr ⟨e,f,g,j,k.imp id (c.p e)⟩
def SiP.tell(h:SiP n i T s W):∀e∈s.A,EvT T e:=λe b=>⟨WM h.d.ok e b,h.d.ft e b,h.a e b⟩
def SiP.hrd(h:SiP n i T s W)(hL:∀e∈L,EvT T e)(f:DG s.l (my s.l.V W L) l' W' F):(∀p∈W',p.2∈T.E)/\∀e∈F,e∈T.E/\e.q≠i/\tT e:=by
 obtain⟨_,_,_,_,_,j⟩:=f.inv h.d.pi h.d.hk.puts;have c:∀p∈my s.l.V W L,p.2∈T.E/\p.2.q≠i/\tT p.2:=λp b=>by
  rcases NH p b with a|⟨a,m⟩
  .exact⟨h.w p a,h.d.nw p a,h.d.fw p a⟩
  .refine⟨(hL _ a).mem,λg=>?_,(hL _ a).fit⟩
   have:=h.k.le _ (hL _ a).mem
   rw[g, <-h.t]at this;rw[g]at m;omega
 refine⟨λp b=>(c p (f.sub p b)).1,λe o=>?_⟩;obtain⟨_,p,b,rfl⟩:=j e o;exact c p b
def SiP.hear(h:SiP n i T s W)(hL:∀e∈L,EvT T e)(j:DG s.l (my s.l.V W L) l' W' F):SiP n i T ⟨l',s.A++F,P'⟩ W':=by
 have o:=h.d.hear (P':=P') (λe b=>⟨(hL e b).fit,λp=>by rw[h.t];have:=h.k.le _ (hL e b).mem;rwa[p]at this⟩) j;obtain⟨_,_,_,f,g,_⟩:=j.inv h.d.pi h.d.hk.puts;obtain⟨m,c⟩:=h.hrd hL j;refine⟨o,h.k,?_,?_,λq=>?_,λe b=>(oU.1 b).elim (h.a e) λb=>(c e b).1,m⟩
 .show l'.V.getD i 0=T i;rw[<-h.t,g];exact X7 h.d.pi f λe b=>(c e b).2.1
 .show LK n T.E l';rw[g];exact LK.run h.k.hist h.lk f λe b=>(c e b).1
 .show l'.V.getD q 0<=T q;rw[g];exact X8 h.d.pi f h.vl (λe b=>h.k.le e (c e b).1) q
def TT.add(T:TT)(i:Nat)(e:EV)(P:List EV):TT:=⟨λq=>if q=i then T q+1 else T q,T.E++[e],P⟩
def zdu{l:PL}{P:List EV}(m:TOK n T)(y:PI l)(g:LK n T.E l)(r:l.V.getD i 0=T i)(t:∀q,l.V.getD q 0<=T q)(b:OK e l)(d:e.q=i)(w:e.V=l.V)(u:∀e∈T.P,e∈P)(x:(e.k=5\/e.k=7)\/e∈P):LeT T (T.add i e P)/\TOK n (T.add i e P)/\LK n (T.E++[e]) (eff e l)/\(eff e l).V.getD i 0=T i+1/\∀q,(eff e l).V.getD q 0<=(T.add i e P) q:=by
 have p:=HistL.more m.hist g b (λk _=>by rw[w]) (λf a c=>by rw[c.symm.trans (c.trans rfl)]at *; rw[d,r, <-d, <-c];exact m.le f a);have o:e.s=T i+1:=by
  have:=(tC b.rdy).1
  rw[d,r]at this;omega
 have j:∀q,(eff e l).V.getD q 0=if q=i then T i+1 else l.V.getD q 0:=λq=>by
  have j:=congrFun (EL y b) q;unfold kV upD at j;rw[j,d,o]
 have v:∀q,T q<=(T.add i e P) q:=λq=>by
  show T q<=if q=i then T q+1 else T q
  split<;>omega
 refine⟨⟨v,⟨[e],rfl,λf a=>?_⟩,u⟩,⟨p,λf a=>?_,λf a=>?_⟩,((g.grow p ?_).next p oB b.rdy).2,by rw[j,oJ rfl],λq=>?_⟩
 .rw[mS a,d,o];omega
 .rcases oU.1 a with a|a
  .exact Int.le_trans (m.le f a) (v _)
  .rw[mS a,d,o];show _<=if i=i then T i+1 else T i
   rw[oJ rfl];exact Int.le_refl _
 .rcases oU.1 a with a|a
  .exact(m.isP f a).imp id (u f)
  .rw[mS a];exact x
 .rw[d,r,o];omega
 .rw[j];show _<=if q=i then T q+1 else T q
  split
  .rename_i h;rw[h];exact Int.le_refl _
  .exact t q
def SiP.make{x:AK}{P:List EV}(h:SiP n i T s W)(o:Cv x)(g:gF (mkP i s.l x) s.l=0)(j:∀e∈T.P,e∈P)(b:((mkP i s.l x).k=5\/(mkP i s.l x).k=7)\/mkP i s.l x∈P):LeT T (T.add i (mkP i s.l x) P)/\SiP n i (T.add i (mkP i s.l x) P) ⟨eff (mkP i s.l x) s.l,s.A++[mkP i s.l x],P'⟩ W:=by
 have c:=(mE h.d.pi).1 g;obtain⟨f,q,r,u,v⟩:=zdu h.k h.d.pi h.lk h.t h.vl c Vg (zce h.d.pi.v6) j b;refine⟨f,h.d.make o g,q,?_,r,v,λe b=>?_,λp m=>f.mem (h.w p m)⟩
 .show _=if i=i then T i+1 else T i
  rw[oJ rfl];exact u
 .exact(oU.1 b).elim (λb=>f.mem (h.a e b)) λb=>List.mem_append_right _ b
def SiP.off(h:SiP n i T s W):SdP n i T s.A []:=⟨h.k,by rw[oW];exact h.d.ok,by rw[<-h.d.st];exact h.t,by rw[<-h.d.st];exact h.lk,by rw[<-h.d.st];exact h.vl,h.a,λe b=>h.d.ft e (by rwa[oW]at b),.inl oB⟩
def SiP.offH(h:SiP n i T s W)(c:okL eff OK s.l L)(hL:∀e∈L,e∈T.E/\e.q≠i/\tT e):SdP n i T s.A L :=
 ⟨h.k,sS.2 ⟨h.d.ok,by rw[<-h.d.st];exact c⟩,by rw[<-h.d.st];exact h.t,by rw[<-h.d.st];exact h.lk,by rw[<-h.d.st];exact h.vl,h.a,λe b=>(oU.1 b).elim (h.d.ft e) λb=>(hL e b).2.2,.inl λe b=>⟨(hL e b).1,(hL e b).2.1⟩⟩
def LeT.P{P:List EV}(a:∀e∈T.P,e∈P):LeT T ⟨T.t,T.E,P⟩:=⟨λ_=>Int.le_refl _,⟨[],by rw[oW],by simp⟩,a⟩
def TOK.P{P:List EV}(h:TOK n T)(a:∀e∈T.P,e∈P):TOK n ⟨T.t,T.E,P⟩:=⟨h.hist,h.le,λe b=>(h.isP e b).imp id (a e)⟩
def SiP.offM{x:AK}(h:SiP n i T s W)(f:Cv x)(c:gF (mkP i s.l x) s.l=0)(b:((mkP i s.l x).k=5\/(mkP i s.l x).k=7)\/mkP i s.l x∈T.P):SdP n i T s.A [mkP i s.l x] :=
 ⟨h.k,sS.2 ⟨h.d.ok,by rw[<-h.d.st];exact⟨(mE h.d.pi).1 c,trivial⟩⟩,by rw[<-h.d.st];exact h.t,by rw[<-h.d.st];exact h.lk,by rw[<-h.d.st];exact h.vl,h.a,λe b=>(oU.1 b).elim (h.d.ft e) λb=>by rw[mS b];exact LY h.d.pi f,.inr ⟨_,rfl,Vg,by rw[<-h.d.st];exact zce h.d.pi.v6,b⟩⟩
def TT.on(T:TT)(n i:Nat)(A F:List EV):TT:=⟨λq=>if q=i then (dU eff (pl0 n) (A++F)).V.getD i 0 else T q,T.E++F.filter λe=>decide (e.q=i),T.P⟩
def SdP.on(h:SdP n i T A L)(j:Nat):LeT T (T.on n i A (L.take j))/\SiP n i (T.on n i A (L.take j)) ⟨dU eff (pl0 n) (A++L.take j),A++L.take j,gp0⟩ []:=by
 have g:okL eff OK (pl0 n) (A++L.take j):=by
  have:=h.ok
  rw[show A++L=(A++L.take j)++L.drop j by rw[jE,List.take_append_drop]]at this;exact(sS.1 this).1
 have u:∀e∈A++L.take j,tT e:=λe b=>h.ft e ((oU.1 b).elim (λh=>List.mem_append_left _ h) λh=>List.mem_append_right _ (List.mem_of_mem_take h));obtain⟨w,c⟩:=sS.1 g;have v:=ledger_sys.invs (Dd n) w;have r:DuI n i ⟨dU eff (pl0 n) (A++L.take j),A++L.take j,gp0⟩ []:=⟨ledger_sys.invs (Dd n) g,HK.nil,g,rfl,u,by simp,by simp⟩
 have o:∀F:List EV,L.take j=F->(∀e∈F,e∈T.E/\e.q≠i)->LeT T (T.on n i A (L.take j))/\SiP n i (T.on n i A (L.take j)) ⟨dU eff (pl0 n) (A++L.take j),A++L.take j,gp0⟩ []:=λF C m=>by
  rw[C]at r c |-;have d:F.filter (λe=>decide (e.q=i))=[]:=List.filter_eq_nil_iff.2 λe b H=>(m e b).2 (of_decide_eq_true H);have y:(dU eff (pl0 n) (A++F)).V.getD i 0=T i:=by
   rw[qf, <-h.t];exact X7 v c λe b=>(m e b).2
  have s:T.on n i A F=T:=by
   unfold TT.on;rw[d,oW,y]
   have:(λq=>if q=i then T i else T q)=T.t:=by
    funext q;split
    .rename_i e;rw[e]
    .rfl
   rw[this]
  rw[s];refine⟨.refl,r,h.k,y,?_,λq=>?_,λe b=>(oU.1 b).elim (h.a e) λb=>(m e b).1,by simp⟩
  .show LK n T.E (dU eff (pl0 n) (A++F));rw[qf];exact LK.run h.k.hist h.lk c λe b=>(m e b).1
  .show (dU eff (pl0 n) (A++F)).V.getD q 0<=T q;rw[qf];exact X8 v c h.vl (λe b=>h.k.le e (m e b).1) q
 rcases h.l with I|⟨e,rfl,x,G,b⟩
 .exact o _ rfl λe b=>I e (List.mem_of_mem_take b)
 cases j with
 | zero=>exact o [] rfl oB
 | succ j =>
  have D:List.take (j+1) [e]=[e]:=by simp
  rw[D]at r c |-;obtain⟨z,J,M,B,N⟩:=zdu h.k v h.lk h.t h.vl c.1 x G (P:=T.P) (λ_ h=>h) b;have p:dU eff (pl0 n) (A++[e])=eff e (dU eff (pl0 n) A):=by rw[qf];rfl
  have s:T.on n i A [e]=T.add i e T.P:=by
   unfold TT.on TT.add;rw[p,B,List.filter_cons,oJ (by rw[x];exact qF rfl),List.filter_nil]
   have:(λq=>if q=i then T i+1 else T q)=λq=>if q=i then T q+1 else T q:=by
    funext q;split
    .rename_i e;rw[e]
    .rfl
   rw[this]
  rw[s];refine⟨z,r,J,?_,?_,λq=>?_,λf d=>(oU.1 d).elim (λd=>z.mem (h.a f d)) λd=>List.mem_append_right _ d,by simp⟩
  .show (dU eff (pl0 n) (A++[e])).V.getD i 0=if i=i then T i+1 else T i
   rw[p,oJ rfl];exact B
  .show LK n (T.E++[e]) (dU eff (pl0 n) (A++[e]));rw[p];exact M
  .show (dU eff (pl0 n) (A++[e])).V.getD q 0<=_;rw[p];exact N q
end
def tsA(A:List Int):Int:=nA A 6+nA A 7+nA A 8+nA A 9+nA A 10+nA A 11-nA A 12-nA A 13-nA A 14-nA A 15-nA A 16-nA A 17
def zjP(h:VN A):tsA A<=(gL A).sum:=by have l:=h.l;have a:=l 0 oo;have b:=l 1 oo;have c:=l 2 oo;have d:=l 3 oo;have e:=l 4 oo;have f:=l 5 oo;simp only[jx,show List.range 6=[0,1,2,3,4,5]from rfl,jK,List.map_nil,List.sum_cons,List.sum_nil,Nat.reduceMul,Nat.reduceAdd]at a b c d e f;rw[PD];unfold tsA;omega
def zbJ(a:c<A.length):tsA (A.set c (nA A c+v))=tsA A+if c<6 then 0 else if c<12 then v else if c<18 then -v else 0:=by unfold tsA;simp only[oy a];unfold dlt;omega
def zbd(a:c<A.length):(gL (A.set c (nA A c+v))).sum=(gL A).sum+if c<6 then v else 0:=by rw[PD,PD];simp only[oy a];unfold dlt;omega
def usG(N:List ND)(id:Int)(g:GR):Int:=if g.b=0/\id∈cB N g.n then g.a else 0
def us(s:PL)(id:Int):Int:=(s.G.map (usG s.N id)).sum
def mkN(id:Int)(e:EV):Int:=if e.k=1/\idE e=id\/e.k=2/\e.n=id then e.a else 0
structure EI(E:List EV) (s:PL):Prop where
 ts:∀x∈s.N,tsA x.A=us s x.id
 gs:∀x∈s.N,(gL x.A).sum=(E.map (mkN x.id)).sum
 nd:∀e∈E,e.k=1->∃x∈s.N,x.id=idE e/\x.par=e.n
 rs:∀e∈E,e.k=2->cK s.N e.n=true
 gr:∀e∈E,e.k=3->∃g∈s.G,g.o=e.o/\g.q=e.r/\g.n=e.n/\g.a=e.a/\(g.b≠0->∃f∈E,f.k=4/\f.o=e.o/\f.f=e.r)
 ge:∀g∈s.G,∃e∈E,e.k=3/\e.o=g.o/\e.r=g.q/\e.n=g.n/\e.a=g.a
def ZD{x:GR}{φ:GR->Int}:∀{G:List GR},((ky x G).map φ).sum=φ x+(G.map φ).sum
 | []=>rfl
 | y::G=>by
  unfold ky;split
  .rfl
  .have:=ZD (x:=x) (φ:=φ) (G:=G)
   simp only[jK,List.sum_cons,this];omega
def zbL{o q b:Int}{φ:GR->Int}:∀{G:List GR},(∀y∈G,¬(y.o=o/\y.q=q))->(G.map (mj o q b))=G
 | [],_=>rfl
 | y::G,h=>by
  rw[jK,zbL (φ:=φ) λz a=>h z (oH _ a)];unfold mj;rw[oI (h y oL)]
def zao{o q b:Int}{φ:GR->Int}{g:GR}(a:g.o=o)(c:g.q=q):∀{G:List GR},G.Pairwise ltG->g∈G->((G.map (mj o q b)).map φ).sum=(G.map φ).sum-φ g+φ {g with b:=b}
 | [],_,h=>by cases h
 | y::G,d,h=>by
  have d:=List.pairwise_cons.1 d;have i:∀z∈G,y.o=o->y.q=q->¬(z.o=o/\z.q=q):=λz e k l ⟨m,n⟩=>by
   have:=d.1 z e
   unfold ltG at this;omega
  rcases oO.1 h with rfl|h
  .rw[jK,zbL (φ:=φ) λz e=>i z e a c]
   have:mj o q b g={g with b:=b}:=by unfold mj;rw[oJ ⟨a,c⟩]
   rw[this];simp only[jK,List.sum_cons];omega
  .have j:mj o q b y=y:=by
    unfold mj;rw[oI λf=>i g h f.1 f.2 ⟨a,c⟩]
   have:=zao a c (φ:=φ) (b:=b) d.2 h
   simp only[jK,List.sum_cons,j,this];omega
def zbE{α:Type}{φ ψ:α->Int}:∀{L:List α},(∀x∈L,φ x=ψ x)->(L.map φ).sum=(L.map ψ).sum
 | [],_=>rfl
 | x::L,h=>by
  simp only[jK,List.sum_cons,h x oL,zbE λy a=>h y (oH _ a)]
def Qt{α:Type}{φ:α->Int}:∀{L:List α},(∀x∈L,φ x=0)->(L.map φ).sum=0
 | [],_=>rfl
 | x::L,h=>by
  simp only[jK,List.sum_cons,h x oL,Qt λy a=>h y (oH _ a)];rfl
section
variable {E:List EV}{s:PL}{e:EV}
def EI.step(h:EI E s)(hi:PI s)(p:OK e s):EI (E++[e]) (eff e s):=by
 obtain⟨hq,ho⟩:=ue p.may;have a:=after hi p;have l:=hi.new p.may p.rdy;have L:∀id,((E++[e]).map (mkN id)).sum=(E.map (mkN id)).sum+mkN id e:=λid=>by
  rw[jJ,List.sum_append,jK,List.map_nil,List.sum_cons,List.sum_nil];omega
 have ae:∀g∈s.G,cB (eff e s).N g.n=cB s.N g.n:=λg z=>a.path _ (.inl (hi.gk g z).1);have I:∀id,(s.G.map (usG (eff e s).N id)).sum=us s id:=λid=>zbE λg z=>by
  unfold usG;rw[ae g z]
 have ac:∀f∈E,f.k=1->∃x∈(eff e s).N,x.id=idE f/\x.par=f.n:=λf d V=>by
  obtain⟨x,j,B,C⟩:=h.nd f d V;rcases kW hi p with⟨y,w,_⟩|⟨u,c,v,w,_⟩|⟨w,_⟩
  .exact⟨x,by show x∈(nop e s).ap s.N;rw[w];exact mc.2 (.inr j),B,C⟩
  .exact⟨dT u c v x,by show _∈(nop e s).ap s.N;rw[w];exact List.mem_map_of_mem j,(ig x).1.trans B,(ig x).2.trans C⟩
  .exact⟨x,by show x∈(nop e s).ap s.N;rw[w];exact j,B,C⟩
 have ai:∀f∈E,f.k=2->cK (eff e s).N f.n=true:=λf d W=>a.has _ (h.rs f d W)
 have P:∀{u:List Int} {c:Nat} {v:Int},nop e s=.bmp u c v->c<54->(∀id,us (eff e s) id=us s id+if id∈u then (if c<6 then 0 else if c<12 then v else if c<18 then -v else 0)else 0)->(∀id,mkN id e=if id∈u/\c<6 then v else 0) ->
   (∀x∈(eff e s).N,tsA x.A=us (eff e s) x.id)/\∀x∈(eff e s).N,(gL x.A).sum=((E++[e]).map (mkN x.id)).sum:=λ{u c v} w hc hu F=>by
  have X:(eff e s).N=s.N.map (dT u c v):=by show (nop e s).ap s.N=_;rw[w];rfl
  refine⟨λx j=>?_,λx j=>?_⟩<;>rw[X]at j<;>obtain⟨y,hy,rfl⟩:=qU.1 j<;>have hl:=hi.A54 y hy
  .rw[(ig y).1,hu, <-h.ts y hy];by_cases F:y.id∈u
   .rw[BI F,oJ F];exact zbJ oo
   .rw[zD F,oI F];omega
  .rw[(ig y).1,L,F, <-h.gs y hy];by_cases F:y.id∈u
   .rw[BI F];show (gL (y.A.set c (nA y.A c+v))).sum=_;rw[zbd oo];by_cases M:c<6
    .rw[oJ M,oJ ⟨F,M⟩]
    .rw[oI M,oI λi=>M i.2]
   .rw[zD F,oI λi=>F i.1];omega
 have ad:nop e s=.non->(eff e s).G=s.G->(∀id,mkN id e=0)->(∀x∈(eff e s).N,tsA x.A=us (eff e s) x.id)/\∀x∈(eff e s).N,(gL x.A).sum=((E++[e]).map (mkN x.id)).sum:=λw hG F=>by
  have X:(eff e s).N=s.N:=by show (nop e s).ap s.N=_;rw[w];rfl
  refine⟨λx j=>?_,λx j=>?_⟩<;>rw[X]at j
  .unfold us;rw[hG,I];exact h.ts x j
  .rw[L,F,h.gs x j];omega
 have gk:gop e=.non->(∀f∈E++[e],f.k=3->f∈E)->(eff e s).G=s.G/\(∀f∈E++[e],f.k=3->∃g∈(eff e s).G,g.o=f.o/\g.q=f.r/\g.n=f.n/\g.a=f.a/\(g.b≠0->∃R∈E++[e],R.k=4/\R.o=f.o/\R.f=f.r))/\∀g∈(eff e s).G,∃f∈E++[e],f.k=3/\f.o=g.o/\f.r=g.q/\f.n=g.n/\f.a=g.a:=λz J=>by
  have m:(eff e s).G=s.G:=by show (gop e).ap s.G=_;rw[z];rfl
  rw[m];refine⟨rfl,λf d O=>?_,λg z=>?_⟩
  .obtain⟨g,B,C,J,Y,Z,M⟩:=h.gr f (J f d O) O;exact⟨g,B,C,J,Y,Z,λc=>by obtain⟨R,a,b⟩:=M c;exact⟨R,List.mem_append_left _ a,b⟩⟩
  .obtain⟨f,a,b⟩:=h.ge g z;exact⟨f,List.mem_append_left _ a,b⟩
 have H:e.k≠1->∀f∈E++[e],f.k=1->∃x∈(eff e s).N,x.id=idE f/\x.par=f.n:=λhk f d V=>by
  rcases oU.1 d with d|d
  .exact ac f d V
  .rw[mS d]at V;exact qI V hk
 have D:(e.k=2->cK s.N e.n=true)->∀f∈E++[e],f.k=2->cK (eff e s).N f.n=true:=λhk f d W=>by
  rcases oU.1 d with d|d
  .exact ai f d W
  .rw[mS d]at W |-; exact a.has _ (hk W)
 have m0:e.k≠1->e.k≠2->∀id,mkN id e=0:=λB C id=>by unfold mkN;rw[oI λi=>i.elim (λi=>B i.1) λi=>C i.1]
 have only:e.k≠3->∀f∈E++[e],f.k=3->f∈E:=λJ f d O=>by
  rcases oU.1 d with d|d
  .exact d
  .rw[mS d]at O;exact qI O J
 rcases ov p.may with⟨k,_⟩|⟨k,_⟩|⟨k,_⟩|⟨k,b1,_⟩|⟨k,_⟩|⟨k,_⟩|k
 ·-- a node
  obtain⟨m,T,S⟩:=gk (by unfold gop;rw[k];rfl) (only oo);have X:(eff e s).N=dP ⟨idE e,e.n,z54.set e.q e.a⟩ s.N:=by show (nop e s).ap s.N=_;unfold nop;rw[oJ k];rfl
  have hz:z54.set e.q e.a=z54.set e.q (nA z54 e.q+e.a):=by rw[Ms];simp
  have ab:e.q<z54.length:=by simp[z54];omega
  refine⟨λx j=>?_,λx j=>?_,λf d V=>?_,D λh=>by omega,T,S⟩
  .show tsA x.A=((eff e s).G.map (usG (eff e s).N x.id)).sum;rw[m,I];rw[X]at j;rcases mc.1 j with rfl|j
   .show tsA (z54.set e.q e.a)=us s (idE e);rw[hz,zbJ ab,oJ hq,show us s (idE e)=0 from Qt λg z=>by
     unfold usG;rw[oI λi=>by have:=rA i.2;rw[l]at this;cases this]]
    decide
   .exact h.ts x j
  .rw[L];rw[X]at j;rcases mc.1 j with rfl|j
   .show (gL (z54.set e.q e.a)).sum=(E.map (mkN (idE e))).sum+mkN (idE e) e;rw[hz,zbd ab,oJ hq,Qt λf d=>?_,show mkN (idE e) e=e.a by unfold mkN;rw[oJ (.inl ⟨k,rfl⟩)]]
    .have:(gL z54).sum=0:=by decide
     omega
    .unfold mkN;rw[oI];rintro(⟨V,he⟩|⟨W,he⟩)
     .obtain⟨x,j,B,_⟩:=h.nd f d V;rw[nD.2 ⟨x,j,B.trans he⟩]at l;cases l
     .have:=h.rs f d W
      rw[he,l]at this;cases this
   .rw[h.gs x j]
    have:mkN x.id e=0:=by
     unfold mkN;rw[oI];rintro(⟨_,he⟩|⟨W,_⟩)
     .rw[nD.2 ⟨x,j,he.symm⟩]at l;cases l
     .omega
    omega
  .rcases oU.1 d with d|d
   .exact ac f d V
   .rw[mS d];exact⟨⟨idE e,e.n,z54.set e.q e.a⟩,by rw[X];exact mc.2 (.inl rfl),rfl,rfl⟩
 ·-- a raise
  obtain⟨m,T,S⟩:=gk (by unfold gop;rw[k];rfl) (only oo);have w:nop e s=.bmp [e.n] e.q e.a:=by unfold nop;rw[k];rfl
  obtain⟨t,g⟩:=P w oo (λa=>by rw[oJ (show e.q<6 from hq)];unfold us;rw[m,I];unfold us;split<;>omega) λid=>by
   unfold mkN;by_cases U:e.n=id
   .rw[oJ (.inr ⟨k,U⟩),oJ ⟨by rw[U];simp,hq⟩]
   .rw[oI (λi=>i.elim (λi=>by omega) λi=>U i.2),oI λi=>U (mS i.1).symm]
  exact⟨t,g,H oo,D λh=>(p.k2 h).1,T,S⟩
 ·-- a take
  have w:nop e s=.bmp (cB s.N e.n) (6+e.q) e.a:=by unfold nop;rw[k];rfl
  have m:(eff e s).G=ky ⟨e.o,e.r,e.n,e.a,0⟩ s.G:=by show (gop e).ap s.G=_;unfold gop;rw[oJ k];rfl
  have ah:cB (eff e s).N e.n=cB s.N e.n:=a.path _ (.inl (p.k3 k).2.1);obtain⟨t,g⟩:=P w oo (λa=>by
   unfold us;rw[m,ZD,I,oI (show ¬6+e.q<6 by omega),oJ (show 6+e.q<12 by omega)]
   have:usG (eff e s).N a ⟨e.o,e.r,e.n,e.a,0⟩=if a∈cB s.N e.n then e.a else 0:=by
    unfold usG;rw[ah];by_cases i:a∈cB s.N e.n
    .rw[oJ ⟨rfl,i⟩,oJ i]
    .rw[oI λh=>i h.2,oI i]
   rw[this];unfold us;omega) λid=>by rw[m0 oo oo,oI λi=>by omega]
  refine⟨t,g,H oo,D λh=>by omega,λf d O=>?_,λg z=>?_⟩
  .rw[m];rcases oU.1 d with d|d
   .obtain⟨g,B,C,J,Y,Z,M⟩:=h.gr f d O;exact⟨g,Ej.2 (.inr B),C,J,Y,Z,λc=>by obtain⟨R,a,b⟩:=M c;exact⟨R,List.mem_append_left _ a,b⟩⟩
   .rw[mS d];exact⟨_,Ej.2 (.inl rfl),rfl,rfl,rfl,rfl,λh=>qI rfl h⟩
  .rw[m]at z;rcases Ej.1 z with rfl|z
   .exact⟨e,by simp,k,rfl,rfl,rfl,rfl⟩
   .obtain⟨f,a,b⟩:=h.ge g z;exact⟨f,List.mem_append_left _ a,b⟩
 ·-- a free
  obtain⟨_,g0,aa,af,_⟩:=p.k4 k;obtain⟨gm,go,gq⟩:=yR aa;have ag:gOf s e=g0:=by unfold gOf;rw[aa];rfl
  have w:nop e s=.bmp (cB s.N g0.n) (12+e.q) g0.a:=by unfold nop;rw[k,ag];rfl
  have m:(eff e s).G=s.G.map (mj e.o e.f e.r):=by show (gop e).ap s.G=_;unfold gop;rw[k];rfl
  obtain⟨t,g⟩:=P w oo (λa=>by
   unfold us;rw[m,zao go gq hi.gs gm,I,oI (show ¬12+e.q<6 by omega),oI (show ¬12+e.q<12 by omega),oJ (show 12+e.q<18 by omega)];have B:usG (eff e s).N a g0=if a∈cB s.N g0.n then g0.a else 0:=by
    unfold usG;rw[ae g0 gm];by_cases i:a∈cB s.N g0.n
    .rw[oJ ⟨af,i⟩,oJ i]
    .rw[oI λh=>i h.2,oI i]
   have C:usG (eff e s).N a {g0 with b:=e.r} = 0:=by
    unfold usG;rw[oI λh=>by have:e.r=0:=h.1;omega]
   rw[B,C];unfold us;by_cases i:a∈cB s.N g0.n
   .rw[oJ i,oJ i];omega
   .rw[oI i,oI i];omega) λid=>by rw[m0 oo oo,oI λi=>by omega]
  refine⟨t,g,H oo,D λh=>by omega,λf d O=>?_,λg z=>?_⟩
  .rw[m];obtain⟨g,B,C,J,Y,Z,M⟩:=h.gr f (only oo f d O) O;refine⟨mj e.o e.f e.r g,List.mem_map_of_mem B,?_⟩;unfold mj;split
   .rename_i i;exact⟨C,J,Y,Z,λ_=>⟨e,by simp,k,i.1.symm.trans C,i.2.symm.trans J⟩⟩
   .exact⟨C,J,Y,Z,λc=>by obtain⟨R,a,b⟩:=M c;exact⟨R,List.mem_append_left _ a,b⟩⟩
  .rw[m]at z;obtain⟨y,hy,rfl⟩:=qU.1 z;obtain⟨f,a,b⟩:=h.ge y hy;refine⟨f,List.mem_append_left _ a,?_⟩;unfold mj;split<;>exact b
 ·-- a move
  obtain⟨m,T,S⟩:=gk (by unfold gop;rw[k];rfl) (only oo);have w:nop e s=.bmp [e.n] (18+6*e.q+(e.t-1).toNat) e.a:=by unfold nop;rw[k];rfl
  obtain⟨t,g⟩:=P w oo (λa=>by rw[oI (show ¬18+6*e.q+(e.t-1).toNat<6 by omega),oI (show ¬18+6*e.q+(e.t-1).toNat<12 by omega),oI (show ¬18+6*e.q+(e.t-1).toNat<18 by omega)];unfold us;rw[m,I];unfold us;split<;>omega) λid=>by rw[m0 oo oo,oI λi=>by omega]
  exact⟨t,g,H oo,D λh=>by omega,T,S⟩
 .obtain⟨m,T,S⟩:=gk (by unfold gop;rw[k];rfl) (only oo);obtain⟨t,g⟩:=ad (by unfold nop;rw[k];rfl) m (m0 oo oo);exact⟨t,g,H oo,D λh=>by omega,T,S⟩
 .obtain⟨m,T,S⟩:=gk (by unfold gop;rw[k];rfl) (only oo);obtain⟨t,g⟩:=ad (by unfold nop;rw[k];rfl) m (m0 oo oo);exact⟨t,g,H oo,D λh=>by omega,T,S⟩
def EI.run:∀{F E:List EV} {s:PL},EI E s->PI s->okL eff OK s F->EI (E++F) (dU eff s F)
 | [],E,_,h,_,_=>by rw[oW];exact h
 | e::F,E,s,h,hi,hk=>by
  have:=EI.run (F:=F) (h.step hi hk.1) (hi.eff hk.1) hk.2
  rw[jE]at this;exact this
def EI.of{n:Nat}(h:okL eff OK (pl0 n) E):EI E (dU eff (pl0 n) E):=EI.run (E:=[]) ⟨by simp[pl0],by simp[pl0],by simp,by simp,by simp,by simp[pl0]⟩ (Dd n) h
end
section
open Go.ChangeMaps
def StpX.nz{d:oG}{X X':RpX}(c:StpX S d X X')(a:∀k∈AF X,k<w.heap.size)(e:w.heap.size<=z)(f:z<S.heap.size):z∉AF X':=λb =>
 (c.af z b).elim (λh=>by have:=a z h;omega) λh=>by omega
def RepW.oth{X:RpX}{s:RS}(h:RepW w i X s)(o:Oth z w S)(b:z∉AF X):RepW S i X s:=h.keep λk a=>o.other k λe=>b (e ▸ a)
def StpX.oth{X X':RpX}(h:StpX w S X X')(o:Oth z S O)(a:w.heap.size<=z):StpX w O X X' :=
 ⟨h.R,h.m,h.ch.add (aD (jU _ S) o a),h.new⟩
def zk3(i:Nat)(s s':RS)(x:AK)(v:oF):Prop:=s'=s/\(∃e,NoP i s.l x e/\v=.tuple #[evV evZ,ci e])\/gF (mkP i s.l x) s.l=0/\wJ ((i:Int)+1) s.l x/\s'=⟨eff (mkP i s.l x) s.l,s.A++[mkP i s.l x],s.P⟩/\v=.tuple #[evV (mkP i s.l x),ci 0]
section
variable {X:RpX}{s:RS}{x:AK}
def RepW.add{b:oG}{a:List iQ}{e:EV}(h:RepW S i X s)(d:e.q<6)(g:RpM b X.R (i+1) (eff e s.l) X.W a ((s.A.length:Nat)+1) s.P)(c:Ch (RpF X.R X.Rw) S b)(f:nG a=Fy (nG X.Rw) e (s.A.length:Nat)):RepW b i {X with Rw:=a} ⟨eff e s.l,s.A++[e],s.P⟩:=by
 refine h.turn ?_ ?_ c
 .have:((s.A++[e]).length:Int)=(s.A.length:Nat)+1:=by rw[oT];push_cast;rfl
  show RpM b X.R (i+1) (eff e s.l) X.W a ((s.A++[e]).length:Nat) s.P;rw[this];exact g
 .show nG a=yp (s.A++[e]);rw[f,h.it,VE d]
def ze1{e a:EV}{v:oF}(c:blk w b 54 (evC a))(h:∀S,Oth b w S->K (.tuple #[evV a,v]) S):gC K (fT (pB X.R.p) U Y H (pB b) v Z zf) w :=
 JL (dh c (eX (e':=a) c λg f d=>CD f (h g d)))
def zdS{F:Int}(h:RepW w i X s)(hp:PI s.l)(hi:i<6)(hG:s.l.G.length<=1000000)(hA:s.A.length<1000000)(c:∀w' X' s' v,StpX w w' X X'->RepW w' i X' s'->zk3 i s s' x v->(x.r=0->gF (mkP i s.l x) s.l=0->X'.ws=X.ws)->X'.W=X.W->K v w'):call Q 197 #[pB X.R.p,.agg (akC x).toArray,u6 F] K w:=by
 have hX:=h.lt;refine aj (goK func197) (Me (My λm z1 b1 s1=>il λw2 J b2 s2=>LC (aA ?_)));have g:=b1.trans (b2.mono oo);have Z:=h.below g;have z2:=ae b2 z1 z1.lt;have l2:=J.lt;have t:w.heap.size<=m.heap.size:=by omega
 refine JT z2 (zd3 Z.rp hp hi hG oo (λw3 e E T=>bo (bj ?_)) λw3 O Y ab r3 U n3 i3=>bo (bj ?_))
 .have P:=g.trans (T.mono g.size);have t3:=ae T J J.lt;have z:m.heap.size∉AF X:=λD=>by have:=hX _ D;omega
  refine eX (e':=evZ) t3 λw4 u H=>aT ?_;have f:Below w.heap.size w w4:=aD P H t;have B:=h.below f;have N:=H.blk (ae T z2 z2.lt) (by omega:w.heap.size≠m.heap.size)
  have o:∀{a4:oF} {zf:oD} {w5:oG} {X':RpX},StpX w w5 X X'->RepW w5 i X' s->X'.W=X.W->m.heap.size∉AF X'->blk w5 m.heap.size 54 (evC evZ)->gC K (fT (pB X.R.p) (.agg (akC x).toArray) (u6 F) (pB w.heap.size) (pB m.heap.size) (ci e) a4 zf) w5:=λhs hr hW hz ht =>
   ze1 (X:=X) (e:=evZ) ht λM o6=>c M _ s _ (hs.oth o6 t) (hr.oth o6 hz) (.inl ⟨rfl,e,E,rfl⟩) (λa Y=>qI Y (E.old a)) hW
  by_cases L:e=11
  .refine bU L (BK (lK (v:=kv8 x.k) N rfl (aT (bI L (uf ?_)))));by_cases hk:x.k=3
   .refine ay hk <|aw (λy=>blk y X.R.p 133 (rpC X.R i)/\blk y w.heap.size 46 (akC x)) ⟨B.rp.b.drew,N.drew⟩ ?_;refine ac (λy d _ c=>aq c) (ac (λy d _ c=>rS c) (ac (v:=pB X.R.q.p) (λy d _ c=>lK d.1 rfl c) ?_));refine ac (λy d _ c=>aq c) (ac (λy d _ c=>sY c) (ac (v:=iv ((i+1:Nat))) (λy d _ c=>lK d.1 rfl c) ?_))
    refine ac (λy d _ c=>HZ c) (ac (v:=u6 x.n) (λy d _ c=>lK d.2 rfl c) (ac (λy d _ c=>Ia c) (ac (v:=iv x.a) (λy d _ c=>lK d.2 rfl c) ?_)));have aa:=B.below (jU _ w4).drew;refine zj5 aa.rp.pm hp λw5 ag ah b5=>?_;have j:Below w4.heap.size w4 w5:=(jU _ w4).drew.trans b5;have h5:=B.below j;have z5:=ae j N N.lt;have t5:=ae j u u.lt
    refine aw (λ_=>True) trivial (ac (λy _ _ c=>bo c) (ac (λy _ _ c=>bj c) ?_));refine aw (λy=>blk y X.R.p 133 (rpC X.R i)/\blk y w.heap.size 46 (akC x)) ⟨h5.rp.b.drew,z5.drew⟩ ?_;refine ac (λy d _ c=>aq c) (ac (λy d _ c=>MR c) (ac (v:=pB X.R.d) (λy d _ c=>lK d.1 rfl c) ?_));refine ac (λy d _ c=>Ia c) (ac (v:=iv x.a) (λy d _ c=>lK d.2 rfl c) ?_)
    have C:=h5.below (jU _ w5).drew;refine ziO C.dm λM af e6 d6 V n6=>?_;have S:Below w.heap.size w w5.drew:=(f.trans (j.mono f.size)).drew;have I:StpX w5.drew M X {X with ws:=af}:=.ws V n6;have dd:w5.drew.heap.size=w5.heap.size:=rfl;have ad:=t5.drew;have ai:=t5.lt
    have t6:blk M m.heap.size 54 (evC evZ):=ad.ch V λD=>z (ow.2 (.inr (.inr (.inr (.inr (mX.2 (.inr (oO.1 D))))))));exact o ((StpX.refl S).trans I) (C.want d6 V n6) rfl (I.nz hX t oo) t6
   .exact ax hk (o (.refl f) B rfl z u)
  .exact cJ L (bw L (uf (aA (o (.refl f) B rfl z u))))
 .have I:StpX w2 w3 X {X with Rw:=O}:=.rw U n3;have h3:=Z.add (by rw[Vg];exact hi) r3 U i3;have z:=I.nz hX t l2;have t3:blk w3 m.heap.size 54 (evC evZ):=J.ch U (Z.rp.out J dc dc dc λD=>by have:=h.rp.pm.lt _ D;omega);have sw:=(StpX.refl g:StpX w w2 X X).trans I
  refine eX (e':=mkP i s.l x) t3 λw4 u H=>aT (cJ dc (bw dc (uf (aA ?_))));exact ze1 (X:=X) (e:=mkP i s.l x) u λw5 o5=>c w5 _ _ _ ((sw.oth H t).oth o5 t) ((h3.oth H z).oth o5 z) (.inr ⟨Y,ab,rfl,rfl⟩) (λ_ _=>rfl) rfl
def zdi{u:Int}{V:List Int}{M:oF}(G:r=1\/r=2)(h:RepW w i X s)(hf:f<6)(E:V.length=6)(hA:s.P[f]? = some A)(g:∀(w1:oG) (K1:KV),Below w.heap.size w w1->(nX w1 (K1 (.bool true)))->call Q 201 #[.agg (mgC r ((f:Int)+1) ((i:Int)+1) V X1 P0 u).toArray] K1 w1)(U:∀w1,RepW w1 i X ⟨s.l,s.A,s.P.set f (jV A V)⟩->StpX w w1 X X->call Q (if r=1 then 227 else 228) #[pB X.R.p,.agg (mgC r ((f:Int)+1) ((i:Int)+1) V X1 P0 u).toArray] (λv w=>K (.tuple #[v,ci 0]) w) w1):call Q 206 #[pB X.R.p,.agg (mgC r ((f:Int)+1) ((i:Int)+1) V X1 P0 u).toArray,M] K w:=by
 generalize q:mgC r ((f:Int)+1) ((i:Int)+1) V X1 P0 u=ms at g U |-;have H:ms.length=12:=by rw[<-q];simp[mgC,bh,E]
 have F:(Value.agg ms.toArray).cells.toList=ms:=by simp[Value.cells]
 have m0:ms[0]? = some (kv8 r):=by rw[<-q];rfl
 have m1:ms[1]? = some (iv ((f:Int)+1)):=by rw[<-q];rfl
 have m2:ms[2]? = some (iv ((i:Int)+1)):=by rw[<-q];rfl
 have m3:(ms.drop 3).take 6=vCs V:=by
  rw[<-q];unfold mgC;rw[show 3=[Value.int .u8 r,iv ((f:Int)+1),iv ((i:Int)+1)].length+0 by rfl,qS,oS oB];simp only[oV,oZ,List.length_nil,jO];rw[oX,qJ (by rw[bh];omega),tL (by rw[bh];omega)]
 refine aj (goK func206) (JM (bu λw1 C D s1=>LC (aA ?_)));rw[F]at C;have t:∀{y:oG} {K:KV},blk y w.heap.size 282 ms->K (.agg ms.toArray) y->ld Q 282 (pB w.heap.size) K y:=λhy a=>ldA (n:=12) (vs:=ms) underlying282 rfl kr hy dTk H a;refine t C (g w1 _ D λw2 T=>bc ?_);have m:=tB D T;have h2:=h.below m;have W:=ae T C C.lt;refine GY (aA ?_)
 refine ah (λ_=>yO) (ah (v:=iv ((i:Int)+1)) (λ_=>lK W.drew m2) ?_);refine ah (λ_=>aq) (ah (λ_=>sY) (ah (v:=iv ((i+1:Nat))) (λ_=>lK h2.rp.b.drew rfl) ?_));refine ah (v:=.bool false) (λK a=>aZ (by rw[qE (by push_cast;simp)];exact a)) ?_;refine Ha (aA (GZ ?_));have o:Below w.heap.size w w2.drew.drew:=m.drew.drew;have c:=h.below o
 have S:blk w2.drew.drew w.heap.size 282 ms:=W;refine aw (λy=>blk y X.R.p 133 (rpC X.R i)/\blk y w.heap.size 282 ms) ⟨c.rp.b,S⟩ ?_;refine hZ (hW Zg (ac (v:=pB X.R.e) (λy d _ a=>lK d.1 rfl a) ?_));refine hW BP (ac (v:=iv ((f:Int)+1)) (λy d _ a=>lK d.2 m1 a) ?_);refine hW SG (ac (λy d _ a=>ldA (n:=6) (vs:=vCs V) underlying38 rfl kr d.2 m3 (by rw[bh];exact E) a) ?_)
 refine zjN c.rp.e hf hA E λB e4 z=>?_;have h4:RepW B i {X with Rw:=X.Rw} ⟨s.l,s.A,s.P.set f (jV A V)⟩:=c.turn (s':=⟨s.l,s.A,s.P.set f (jV A V)⟩) (c.rp.setE z e4) c.it (c.rp.sub2 z);have Y:=S.ch z λhh=>qI (mS hh) (S.ne c.rp.e.b dc);have N:StpX w B X X:=(StpX.refl o:StpX w _ X X).trans (.rw (c.rp.sub2 z) λk a=>.inl a)
 refine wZ underlying333 rfl (Value.int .u8) (id:oF->oF) λw5 I b5 s5=>?_;refine vT (v:=Value.func (.func 227) #[pB X.R.p] #[]) (x:=1) u8K underlying333 I λw6 J o6=>?_;refine vT (v:=Value.func (.func 228) #[pB X.R.p] #[]) (x:=2) u8K underlying333 J λw7 L o7=>?_;have j:=aD (aD b5 o6 oA) o7 oA;have h7:=h4.below j;have Z:=ae j Y Y.lt
 have O:StpX w w7 X X:=N.trans (.refl j);refine SF (lK (v:=kv8 r) Z m0 ?_);refine Tc (x:=r) (z0:=Value.nilFunc) u8K underlying333 kf L (t Z ?_)
 have:=U w7 h7 O
 rcases G with rfl|rfl
 .exact bS (all:=#[pB X.R.p,.agg ms.toArray]) rfl this
 .exact bS (all:=#[pB X.R.p,.agg ms.toArray]) rfl this
def zaG{B:Nat}{s:Nat}{v:oF}{n:Nat}(h:w.ownsRow B E s v n xs)(c:B'<=B):w.ownsRow B' E s v n xs :=
 ⟨h.1,h.2.imp id λ⟨g,a,b,e,d,r⟩=>⟨g,a,b,e,qR c d,r⟩⟩
def zfK{L:List EV}{V:List Int}{y:oF}(h:RepW w i X s)(hi:i<6)(E:PI s.l)(D:HK s.l.V X.W)(M:s.A.length<=999000)(u:VR w a c g L)(x:∀b o,a=some ⟨b,o,none⟩->b∉FF X)(U:∀e∈L,co e=true)(k:c<=16)(S:f<6)(T:f≠i)(r:V.length=6)(t:leV V (List.replicate 6 1099511627776)=true)(J:s.P[f]? = some A)(N:∀w' X' l' F m n,StpX w w' X X'->RepW w' i X' ⟨l',s.A++F,s.P.set f (jV A V)⟩->DG s.l (my s.l.V X.W L) l' X'.W F->dJ l'.V X'.W 6=none->X'.ws=X.ws->w'.ownsRow w.heap.size 54 14 (.slice m F.length n) F.length (F.flatMap evC)->K (.tuple #[.slice m F.length n,ci 0]) w'):call Q 206 #[pB X.R.p,.agg (mgC 1 ((f:Int)+1) ((i:Int)+1) V (.slice a c g) 0 0).toArray,y] K w:=by
 refine zdi (.inl rfl) h S r J (λa b H I=>zbr (u.bel H oA) k U r t (by unfold bB;simp;omega) (by unfold bB;simp;omega) oo I) λw1 z j=>?_;rw[oJ rfl];have v:=u.ch j.ch x;have hl:=u.len;refine zhM z.rp E D (by show ((s.A.length:Nat):Int)+100<=1000000;omega) v k r λG l' W' d F m n r2 C n2 o2 B k2 Z=>?_
 have Y:∀e∈F,e.q<6:=λe O=>(ue ((C.inv E D.puts).2.2.2.2.2 e O).1).1;refine N G {X with Rw:=d,W:=W'} l' F m n (j.trans (StpX.rww (W':=W') B k2)) (z.turn (W':=W') (s':=⟨l',s.A++F,s.P.set f (jV A V)⟩) ?_ ?_ B) C n2 rfl (zaG o2 j.ch.size)
 .show RpM G X.R (i+1) l' W' d ((s.A++F).length:Nat) _;rw[oT];push_cast;exact r2
 .show nG d=yp (s.A++F);rw[Z,z.it,zcy Y]
def zfJ{V:List Int}{g:oF}(h:RepW w i X s)(E:PI s.l)(hi:i<6)(hG:s.l.G.length<=1000000)(x:s.A.length<=999000)(D:v≠0)(y:1<=r/\r<=Cw)(B:f<6)(C:f≠i)(d:V.length=6)(e:leV V (List.replicate 6 1099511627776)=true)(u:s.P[f]? = some A)(I:∀S,StpX w S X X->RepW S i X ⟨s.l,s.A,s.P.set f (jV A V)⟩->K (.tuple #[.slice none 0 0,ci 0]) S)(m:∀S X' z av b,StpX w S X X'->gF (mkP i s.l ⟨5,v,(f:Int)+1,z,0,0⟩) s.l=0->RepW S i X' ⟨eff (mkP i s.l ⟨5,v,(f:Int)+1,z,0,0⟩) s.l,s.A++[mkP i s.l ⟨5,v,(f:Int)+1,z,0,0⟩],s.P.set f (jV A V)⟩->VR S av 1 b [mkP i s.l ⟨5,v,(f:Int)+1,z,0,0⟩]->X'.W=X.W->K (.tuple #[.slice av 1 b,ci 0]) S):call Q 206 #[pB X.R.p,.agg (mgC 2 ((f:Int)+1) ((i:Int)+1) V (.slice none 0 0) v r).toArray,g] K w:=by
 refine zdi (.inr rfl) h B d u (λM a N t=>zdv D y d e (by unfold bB;simp;omega) (by unfold bB;simp;omega) oo t) λM j a=>?_;rw[oI dc];refine ziX j.rp d E hi hG (by show ((s.A.length:Nat):Int)<1000000;omega) (λk n=>I k (a.trans (.refl n)) (j.below n)) λk c z av b q L J o H F=>?_
 exact m k {X with Rw:=c} z av b (a.trans (.rw o H)) q (j.add (by rw[Vg];exact hi) J o F) L rfl
end
end
end
end Go.Proofs.YtpaghmnnhedccaaGreatDoor
