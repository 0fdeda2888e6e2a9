import Derived.Test.YtpaghmnnhedccaaGreatDoorQ5
set_option linter.all false
namespace Go.Proofs.YtpaghmnnhedccaaGreatDoor
set_option maxRecDepth 100000
set_option maxHeartbeats 4000000
open Go.Proofs.Tryz
open Go.RowKit
variable {w w' w0 w2 S O:oG}{K:KV}{zf:Nat->oF}{b c o i g m s j f z d D hi:Nat}{a av a2:Option Addr}{x v r:Int}{E t e:TypeId}{A:List Int}{B1 N R:KE}{xs ys vs:oE}{cx cy:Bool}{T:List (Int×Int)}{N1:oE->oG->Prop}{X1 Z1 N2 O2 P2 Q2 R2 T2 U2 V2 X2 N3 O3 P3 Q3 T3 U3 V3 H Z U Y J C:oF}
def BY(h:box Q 187 H (λa=>K (.func (.func 336) #[] #[a])) w):Gives Q 325 #[H] w K:=au func325 kr (mpK h)
def iW(Y:YB)(a:Nat)(K:KV):KE:=xh Q Y a (cd f336 [1,0]) (rk f336 K) (xx xf (rk f336 K) 0) (rk f336 K)
def AE{Y:YB}(h:ld Q 187 H (λd=>lN 187 d λa=>bT .sub 3 a (ci 1) λc=>iW Y b K [Z,H,uu,c,d,a,c,uu,uu,uu,uu,uu,uu,uu,uu,uu,uu,uu,uu]) w):Fx Q Y b 336 [Z,H] w K:=zen (goK func336) func336 kr (mpK h)
def zj{Y:YB}{t15:oF}(i:Ew Y)(Inv:oF->oG->Prop)(μ:oF->oG->Nat)(f:Inv O2 w)(j:∀(a:oF) (l:oD) (w:oG) (m:Nat),Inv a w->m=μ a w ->
  bT .geq 3 a (ci 0) (λJ w=>cond J (ld Q 187 Z1 (λZ=>aW Q 187 Z a λc=>ld Q 36 c λU=>Uq Q Y b X1 #[a,U] λC=>un Q .not C λb w=>cond b (K (.tuple #[]) w) (bT .sub 3 a (ci 1) (λH w=>(Inv H w)/\((μ H w)<m)) w)) w) (K (.tuple #[]) w)) w):iW Y b K [X1,Z1,N2,O2,P2,Q2,R2,T2,J,V2,H,N3,O3,Z,Q3,t15,U,C,V3] w:=by refine Va i (cd f336 [1,0,0]) (zr [(3,1),(7,12)]) kr (vP [3] Inv) (vQ [3] μ) f ?_;intro e k g;have h:=j _ (gd e) k _ g rfl;exact mpK h
attribute [irreducible] iW
def BZ(h:call Q 337 #[H,Z] (λa=>bT .geq 3 a (ci 0) K) w):Gives Q 326 #[H,Z] w K:=au func326 kr (mpK h)
def vx(s0 c a b:oF)(zf:oD):=s0::c::zT zf 2 5 (a::b::zT zf 9 10 ([]))
def vy(zf:oD):=zT zf 0 19 ([])
def eH(K:KV):KE:=kZ f337 [1,1] K
def kI(K:KV):KE:=ai Q (cd f337 [1,0,1,0]) (eH K) (xx xf (eH K) 0) (rk f337 K)
def DB(h:lN 187 H (λZ=>kI K (vx H U Z (ci 0) (zV (zV zu 4 [ci 0]) 6 [H]))) w):Gives Q 337 #[H,U] w K:=au func337 kr (mpK h)
def Ct(Inv:oF->oG->Prop)(μ:oF->oG->Nat)(f:Inv Y w)(g:∀(a:oF) (e:oD) (w:oG) (m:Nat),Inv a w->m=μ a w ->
  lS a H (λd w=>cond d (aW Q 187 Z a (λb=>ld Q 36 b λb=>bF .eql 36 U b λc w=>cond c (K a w) (nC a (λb w=>(Inv b w)/\((μ b w)<m)) w)) w) (eH K (vy (zV (zV e 0 [Z,U]) 7 [H,a,d])) w)) w):kI K (vx Z U H Y zf) w:=by refine lV (cd f337 (b1 52)) [(4,2),(8,11)] 8 zf f g ?_;intro i j;exact mpF
def Cu(h:K (ci (-1)) w):eH K (vy zf) w:=mpK h
attribute [irreducible] eH kI
section
variable {S:List (Int×Int)}{rk:Int->Nat}
def zbu(c:TK T rk):∀(f:Nat) (id:Int),(cU T f id).length<=upT T rk id
 | 0,_=>qG _
 | f+1,id=>by
  cases a:dB T id with
  | false=>simp[cU,a]
  | true =>
   have d:=zbu c f (fm T id);have b:=NV c (qd a);have b:upT T rk (fm T id)<upT T rk id:=b;simp only[cU,a,if_true,oZ];omega
def zi5(e:(T.map (·.1)).Nodup):∀x∈T,∀y∈T,x.1=y.1->x=y:=by
 intro x f y g h;obtain⟨i,b,rfl⟩:=List.getElem_of_mem f;obtain⟨j,c,rfl⟩:=List.getElem_of_mem g;have d:=List.pairwise_iff_getElem.1 e;rcases Nat.lt_trichotomy i j with a|a|a
 .exact qI (by rw[List.getElem_map,List.getElem_map];exact h) (d i j (by simpa using b) (by simpa using c) a)
 .subst a;rfl
 .exact qI (by rw[List.getElem_map,List.getElem_map];exact h.symm) (d j i (by simpa using c) (by simpa using b) a)
def insA_fst{L:List (Int×Int)}{z:Int×Int}:((vO L i z).map (·.1)).Perm (z.1::L.map (·.1)):=by unfold vO;rw[jJ,jK];refine List.perm_middle.trans ?_;rw[<-jJ,List.take_append_drop]
structure RI(T S:List (Int×Int)) (l q:List Int):Prop where
 tk:∃rk,TK S rk
 ids:(S.map (·.1)).Perm l
 nd:l.Nodup
 par:∀n∈q,n∈l/\fm S n=fm T n
def RI.nil:RI T [] [] []:=⟨⟨_,TK.nil⟩,.refl _,List.nodup_nil,by simp⟩
def RI.has{l q:List Int}(h:RI T S l q){n:Int}:dB S n=true↔n∈l:=by rw[iA, <-h.ids.mem_iff,qU]
def RI.len{l q:List Int}(h:RI T S l q):S.length=l.length:=by have:=h.ids.length_eq;simpa using this
def RI.add{l q:List Int}(h:RI T S l q){n:Int}(u:n≠0)(B:n∉l)(E:x=0\/x∈l)(H:l.length<32)(A:x=0\/l.length<4):(nu S n x).2=0/\RI T (nu S n x).1 (n::l) q/\(x=fm T n->RI T (nu S n x).1 (n::l) (n::q)):=by
 obtain⟨rk,r⟩:=h.tk;have C:=h.len;have g:dB S n=false:=by
  cases w:dB S n with
  | false=>rfl
  | true=>exact qI (h.has.1 w) B
 have G:dB S 0=false:=by
  cases w:dB S 0 with
  | false=>rfl
  | true=>obtain⟨y,F,e⟩:=iA.1 w;exact qI e (r.nz y F)
 have o:x=0\/dB S x=true:=E.imp id λp=>h.has.2 p;have v : ¬(32<=S.length\/4<=(eA S x).length):=by
  have I:=Fv r x;have D:=zbu r (S.length+1) x;rintro(p|p)
  .omega
  .unfold eA at p;rcases A with rfl|A
   .rw[cU,G]at p;simp at p
   .omega
 have e:nu S n x=(vO S (Wt (λy=>decide (n<y.1)) S S.length) (n,x),0):=by
  unfold nu;rw[oI u,g,oI oB,oI (by rintro⟨a,b⟩;rcases o with c|c;exact a c;rw[c]at b;cases b),oI v]
 generalize Wt (λy=>decide (n<y.1)) S S.length=i at e;have d:((vO S i (n,x)).map (·.1)).Perm (n::l):=insA_fst.trans (h.ids.cons n);have j:(n::l).Nodup:=jG.2 ⟨B,h.nd⟩;have t:=zi5 (d.nodup_iff.2 j);have f:∀m∈q,m∈n::l/\fm (vO S i (n,x)) m=fm T m:=λm s=>by
  obtain⟨a,b⟩:=h.par m s;refine⟨oH _ a,?_⟩;rw[<-b];exact HA t (BT.2 (.inr (qd (h.has.2 a))))
 have k:fm (vO S i (n,x)) n=x:=HA t (BT.2 (.inl rfl));rw[e];refine⟨rfl,⟨⟨_,r.add u g o i⟩,d,j,f⟩,λz=>⟨⟨_,r.add u g o i⟩,d,j,λm s=>?_⟩⟩;rcases oO.1 s with rfl|s
 .exact⟨oL ..,k.trans z⟩
 .exact f m s
def XG(a:∀n,dB S n=dB T n):∀(f:Nat) (id:Int),(∀n∈cU T f id,fm S n=fm T n)->cU S f id=cU T f id
 | 0,_,_=>rfl
 | f+1,id,h=>by
  cases b:dB T id with
  | false=>simp[cU,a,b]
  | true =>
   have e:cU T (f+1) id=id::cU T f (fm T id):=by simp[cU,b]
   rw[e]at h |-;have c:=h id oB;simp only[cU,a,b,if_true,c];rw[XG a f (fm T id) λn d=>h n (by simp[d])]
def RI.err{l:List Int}{id:Int}(h:RI T S l (eA T x))(c:l.Perm (T.map (·.1))):(nu S id x).2=(nu T id x).2:=by
 have b:∀n,dB S n=dB T n:=λn=>by
  rw[Bool.eq_iff_iff,h.has,c.mem_iff,iA,qU]
 have a:S.length=T.length:=by rw[h.len,c.length_eq,oY]
 have e:eA S x=eA T x:=by
  unfold eA;rw[a];exact XG b _ _ λn d=>(h.par n d).2
 unfold nu;rw[b,b,a,e];split
 .rfl
 split
 .rfl
 split
 .rfl
 split<;>rfl
def XF(d:TK T rk):∀(f:Nat) (id:Int),upT T rk id<=f->∀i n,(cU T f id)[i]? = some n->n≠0/\dB T n=true/\((i+1=(cU T f id).length/\fm T n=0)\/(cU T f id)[i+1]? = some (fm T n))
 | 0,_,_,i,n,h=>by simp[cU]at h
 | f+1,id,hu,i,n,h=>by
  cases b:dB T id with
  | false=>simp[cU,b]at h
  | true =>
   have e:cU T (f+1) id=id::cU T f (fm T id):=by simp[cU,b]
   rw[e]at h |-;have p:upT T rk (fm T id)<upT T rk id:=NV d (qd b);cases i with
   | zero =>
    simp at h;subst h;refine⟨d.nz _ (qd b),b,?_⟩;cases a:dB T (fm T id)with
    | false =>
     left;refine⟨?_,?_⟩
     .cases f<;>simp[cU,a]
     .rcases d.up _ (qd b)with k|⟨y,q,j,_⟩
      .exact k
      .rw[iA.2 ⟨y,q,j⟩]at a;cases a
    | true =>
     right;obtain⟨g,rfl⟩:∃g,f=g+1:=⟨f-1,by
      have:0<upT T rk (fm T id):=by unfold upT;rw[a];exact Nat.succ_pos _
      omega⟩
     simp[cU,a]
   | succ i =>
    simp only[qK]at h |-;obtain⟨l,m,c⟩:=XF d f (fm T id) oo i n h;refine⟨l,m,?_⟩;rcases c with⟨c,o⟩|c
    .exact .inl ⟨by simp;omega,o⟩
    .exact .inr c
def NF(g:TK T rk):∀(f:Nat) (id:Int),(cU T f id).Pairwise λa b=>upT T rk b<upT T rk a
 | 0,_=>List.Pairwise.nil
 | f+1,id=>by
  cases h:dB T id with
  | false=>simp[cU,h]
  | true =>
   have e:cU T (f+1) id=id::cU T f (fm T id):=by simp[cU,h]
   rw[e,List.pairwise_cons];refine⟨?_,NF g f _⟩;have k:upT T rk (fm T id)<upT T rk id:=NV g (qd h);have i:∀(f:Nat) (j:Int),∀b∈cU T f j,upT T rk b<=upT T rk j:=by
    intro f
    induction f with
    | zero=>intro j b c;simp[cU]at c
    | succ f ih =>
     intro j b c;cases d:dB T j with
     | false=>simp[cU,d]at c
     | true =>
      simp only[cU,d,if_true,oO]at c;rcases c with rfl|c
      .exact Nat.le_refl _
      .have:=ih _ _ c
       have l:upT T rk (fm T j)<upT T rk j:=NV g (qd d);omega
   intro b c
   have:=i f _ b c
   omega
end
section
attribute [local irreducible] bin un conv call bA blt slc ao fld aW idx lkp fk mW eSt rng nxt ent ext alc box bld bM ld sto aU fl mkS ifc pick rdy wts aM sti cond aY Gives ai iy ke cOp
def chi(i c:Nat):Prop:=c=2*i+1\/c=2*i+2
def Hp(xs:List Int)(f a hi:Nat):Prop:=∀i c,a<=i->chi i c->c<hi->G xs (f+c)<=G xs (f+i)
structure HI(xs:List Int) (f lo hi r:Nat):Prop where
 own:∀i c,lo<=i->i≠r->chi i c->c<hi->G xs (f+c)<=G xs (f+i)
 far:∀p c,lo<=p->chi p r->chi r c->c<hi->G xs (f+c)<=G xs (f+p)
def HI.start{xs:List Int}{lo:Nat}(h:Hp xs f (lo+1) hi):HI xs f lo hi lo :=
 ⟨λi c b a d e=>h i c oo d e,λp c b a=>by unfold chi at a;omega⟩
def HI.stop{xs:List Int}{d r:Nat}(h:HI xs f d hi r)(j:∀c,chi r c->c<hi->G xs (f+c)<=G xs (f+r)):Hp xs f d hi:=by
 intro i c g a b;by_cases e:i=r
 .rw[e]at a |-; exact j c a b
 .exact h.own i c g e a b
def HI.swap{xs:List Int}{n r:Nat}(h:HI xs f n hi r)(u:n<=r)(x:f+hi<=xs.length)(b:chi r c)(m:c<hi)(v:G xs (f+r)<G xs (f+c))(w:∀c',chi r c'->c'<hi->G xs (f+c')<=G xs (f+c)):HI (swp xs (f+r) (f+c)) f n hi c:=by
 have e:=λk=>Gq (xs:=xs) (i:=f+r) (j:=f+c) (k:=k) (by unfold chi at b;omega) oo;refine⟨λi d l s a g=>?_,λp d l s a g=>?_⟩
 .rw[e,e];by_cases q:i=r
  .subst q;rw[oI (c:=f+i=f+c) oo,oJ rfl];by_cases o:d=c
   .rw[oJ oo];omega
   .rw[oI oo,oI (by unfold chi at a;omega)];exact w d a g
  .rw[oI (c:=f+i=f+c) oo,oI (c:=f+i=f+r) oo,oI (by unfold chi at a b;omega)];by_cases o:d=r
   .rw[oJ oo];subst o;exact h.far i c l a b m
   .rw[oI oo];exact h.own i d l q a g
 .have t:p=r:=by unfold chi at s b;omega
  subst t;rw[e,e];rw[oI (c:=f+p=f+c) (by unfold chi at b;omega),oJ rfl,oI (by unfold chi at a;omega),oI (by unfold chi at a b;omega)];exact h.own c d (by unfold chi at b;omega) (by unfold chi at b;omega) a g
def Hp.top{xs:List Int}(h:Hp xs f 0 hi):∀k,k<hi->G xs (f+k)<=G xs f:=by
 intro k
 induction k using Nat.strongRecOn with
 | _ k ih =>
  intro a;by_cases e:k=0
  .rw[e,qW];exact Int.le_refl _
  .have b:=h ((k-1) / 2) k oo (by unfold chi;omega) a;have c:=ih ((k-1) / 2) oo oo;omega
section
variable {n:Nat}{xs:List Int}
def Mk{K2:oF->oF->oF->oF->oF->oF->oG->Prop}(s:SD w g n c xs)(hi:i<n)(p:j<n)(h:∀O,SD O g n c (swp xs i j)->Oth g w O->K2 (pA g (0+j*1)) (uv (G xs j)) (pA g (0+i*1)) (uv (G xs i)) (pA g (0+i*1)) (pA g (0+j*1)) O):hld (λx=>SD x g n c xs) (λk w=>aW Q 187 (.slice (some ⟨g,0,none⟩) n c) (ci (j:Nat)) k w) (λd =>
   hld (λx=>SD x g n c xs) (λk w=>ld Q 36 d k w) (λe =>
   hld (λx=>SD x g n c xs) (λk w=>aW Q 187 (.slice (some ⟨g,0,none⟩) n c) (ci (i:Nat)) k w) (λf =>
   hld (λx=>SD x g n c xs) (λk w=>ld Q 36 f k w) (λl =>
   hld (λx=>SD x g n c xs) (λk w=>aW Q 187 (.slice (some ⟨g,0,none⟩) n c) (ci (i:Nat)) k w) (λm =>
   sto Q 36 m e (λ_t w =>
   aF (λS w =>
   hld S (λk w=>aW Q 187 (.slice (some ⟨g,0,none⟩) n c) (ci (j:Nat)) k w) (λo =>
   sto Q 36 o l (λ_t w=>K2 d e f l m o w) w)) w) w))))):=by refine ac (λx b _=>im p) <|ac (λx b _=>ldS b p) <|ac (λx b _=>im hi) <|ac (λx b _=>ldS b hi) <|ac (λx b _=>im hi) <|Lj s hi ?_;intro y q t;refine hRT <|ac (λx b _=>im p) <|Lj q p ?_;intro v r u;exact h v r (cj t u)
theorem Fz(a b:Nat):(a:Int)+(b:Int)=((a+b:Nat):Int):=rfl
theorem Bv(a:Nat):(a:Int)+1=((a+1:Nat):Int):=rfl
def zkf(a:Nat):(2:Int)*(a:Int)=((2*a:Nat):Int):=by omega
def xS{a:Nat}(h:0<a):(a:Int)-1=((a-1:Nat):Int):=by omega
def YT{a:Nat}(h:b<=a):(a:Int)-(b:Int)=((a-b:Nat):Int):=by omega
def X9{lo r ch:Nat}(l:Y=.slice (some ⟨g,0,none⟩) n c)(m:H=ci (f:Nat))(o:Z=ci (r:Nat))(p:U=ci (ch:Nat))(h:SD w g n c xs)(v:f+hi<=n)(z:r<hi)(y:chi r ch)(s:ch<hi)(A:∀c',chi r c'->c'<hi->G xs (f+c')<=G xs (f+ch))(a:∀S,¬G xs (f+r)<G xs (f+ch)->SD S g n c xs->Oth g w S->K (.tuple #[]) S)(q:∀e S,gd e 8=ci (ch:Nat)->G xs (f+r)<G xs (f+ch)->SD S g n c (swp xs (f+r) (f+ch))->Oth g w S->N1 e S):dl K N1 ((ka Y J H Z U zf)) w:=by
 subst l m o p;have k:n<=4611686018427387904:=by obtain⟨_,_,_,_,k⟩:=h;exact k
 refine AM <|aw (λx=>SD x g n c xs) h.drew <|ac (λx b _=>aR oo oo) ?_;rw[Fz];refine ac (λx b _=>im oo) <|ac (λx b _=>ldS b oo) <|ac (λx b _=>aR oo oo) ?_;rw[Fz];refine ac (λx b _=>im oo) <|ac (λx b _=>ldS b oo) <|xr <|hRT <|ac (λx b _=>xK) ?_;by_cases d:G xs (f+r)<G xs (f+ch)
 rotate_left
 .exact ay d (a _ d h.drew (bV (mh _ _)))
 refine ax oo <|aw (λx=>SD x g n c xs) h.drew.drew <|ac (λx b _=>aR oo oo) <|ac (λx b _=>aR oo oo) <|ac (λx b _=>aR oo oo) ?_;rw[Fz,Fz];refine ac (λx b _=>im oo) <|ac (λx b _=>ldS b oo) <|ac (λx b _=>aR oo oo) ?_;rw[Fz]
 refine ac (λx b _=>im oo) <|ac (λx b _=>ldS b oo) <|ac (λx b _=>im oo) <|Lj h.drew.drew oo ?_;intro B i t;refine hRT <|ac (λx b _=>im oo) <|Lj i oo ?_;intro C j u;exact q _ _ rfl d j (cj (cj (bV (bV (mh _ _))) t) u)
def ze8{lo:Nat}(J:SD w g n c xs)(H:f+hi<=n)(I:lo<hi\/lo=0)(S:Hp xs f (lo+1) hi)(h:∀w' ys,SD w' g n c ys->Oth g w w'->Rng f (f+hi) xs ys->Hp ys f lo hi->K (.tuple #[]) w'):call Q 140 #[.slice (some ⟨g,0,none⟩) n c,ci (lo:Nat),ci (hi:Nat),ci (f:Nat)] K w:=by
 have L:n<=4611686018427387904:=by obtain⟨_,_,_,_,L⟩:=J;exact L
 refine aj (goK func140) (Cb ?_);refine AL (Inv:=λr M=>∃(p:Nat) (z:List Int),r=ci (p:Nat)/\lo<=p/\(p<hi\/p=0)/\SD M g n c z/\Oth g w M/\Rng f (f+hi) xs z/\HI z f lo hi p)
  (μ:=λr _=>hi-(intOf r).toNat) ⟨lo,xs,rfl,Nat.le_refl _,I,J,mh _ _,Rng.refl _ _ _,HI.start S⟩ ?_
 rintro _ _ X m ⟨r,z,rfl,A,T,l,B,E,F⟩ y;have W:=l.len;refine Nx oo oo ?_;rw[zkf];refine aR oo oo ?_;rw[Bv];refine bR ?_;by_cases R:hi<=2*r+1
 .refine ay oo ?_;exact h _ z l B E (F.stop λc t o=>by unfold chi at t;omega)
 refine ax oo <|ah (λ_=>aR oo oo) ?_;rw[Bv];refine ah (λ_=>aL) ?_;have x:∀w',∀ch,chi r ch->ch<hi->(∀j,chi r j->j<hi->G z (f+j)<=G z (f+ch))->¬G z (f+r)<G z (f+ch)->SD w' g n c z->Oth g w w'->K (.tuple #[]) w':=by
  intro w' ch U C N V O P;exact h _ z O P E (F.stop λc t o=>by have:=N c t o;omega)
 by_cases C:2*r+1+1<hi
 .refine bU oo <|ah (λ_=>aR oo oo) ?_;rw[Fz];refine ah (λ_=>im oo) <|ah (λ_=>ldS l.drew oo) <|ah (λ_=>aR oo oo) ?_;rw[Fz];refine ah (λ_=>aR oo oo) ?_;rw[Bv];refine ah (λ_=>im oo) <|ah (λ_=>ldS l.drew oo) <|ah (λ_=>xr) <|ah (λ_=>bI oo) <|sh ?_
  by_cases o:G z (f+(2*r+1))<G z (f+(2*r+1)+1)
  .refine ay o <|aR oo oo ?_;have s:∀j,chi r j->j<hi->G z (f+j)<=G z (f+(2*r+1+1)):=by
    intro j t v;rcases t with rfl|rfl
    .rw[<-Nat.add_assoc f (2*r+1)];omega
    .exact Int.le_refl _
   refine X9 (f:=f) (lo:=lo) (hi:=hi) (r:=r) (ch:=2*r+1+1) rfl rfl rfl rfl l.drew H oo (.inr rfl) C s (λc a b d=>x c _ (.inr rfl) C s a b (cj (bV B) d)) ?_;intro e w' u k q D;refine⟨⟨2*r+1+1,_,u,by omega,.inl C,q,cj (bV B) D,E.trans (Rng.swp oo oo oo oo),F.swap A oo (.inr rfl) C k s⟩,?_⟩
   show hi-(intOf (gd e 8)).toNat<_;rw[u,y];simp only[intOf];omega
  .refine ax o ?_;have s:∀j,chi r j->j<hi->G z (f+j)<=G z (f+(2*r+1)):=by
    intro j t v;rcases t with rfl|rfl
    .exact Int.le_refl _
    .rw[Nat.add_assoc f (2*r+1)]at o
     have:f+(2*r+2)=f+(2*r+1+1):=rfl
     rw[this];omega
   refine X9 (f:=f) (lo:=lo) (hi:=hi) (r:=r) (ch:=2*r+1) rfl rfl rfl rfl l.drew H oo (.inl rfl) oo s (λc a b d=>x c _ (.inl rfl) oo s a b (cj (bV B) d)) ?_;intro e w' u k q D
   refine⟨⟨2*r+1,_,u,by omega,.inl oo,q,cj (bV B) D,E.trans (Rng.swp oo oo oo oo),F.swap A oo (.inl rfl) oo k s⟩,?_⟩;show hi-(intOf (gd e 8)).toNat<_;rw[u,y];simp only[intOf];omega
 .refine cJ oo <|ah (λ_=>bw oo) <|sh <|aA ?_;have s:∀j,chi r j->j<hi->G z (f+j)<=G z (f+(2*r+1)):=by
   intro j t v;rcases t with rfl|rfl
   .exact Int.le_refl _
   .omega
  refine X9 (f:=f) (lo:=lo) (hi:=hi) (r:=r) (ch:=2*r+1) rfl rfl rfl rfl l.drew H oo (.inl rfl) oo s (λc a b d=>x c _ (.inl rfl) oo s a b (cj (bV B) d)) ?_;intro e w' u k q D;refine⟨⟨2*r+1,_,u,by omega,.inl oo,q,cj (bV B) D,E.trans (Rng.swp oo oo oo oo),F.swap A oo (.inl rfl) oo k s⟩,?_⟩
  show hi-(intOf (gd e 8)).toNat<_;rw[u,y];simp only[intOf];omega
structure HS(z:List Int) (a b i:Nat):Prop where
 heap:Hp z a 0 i
 srt:Srt z (a+i) b
 sep:∀k m,k<i->a+i<=m->m<b->G z (a+k)<=G z m
def ziY{a:Nat}(T:SD w g n c xs)(aa:a<b)(hb:b<=n)(hn:xs.Nodup)(h:∀w' ys,SD w' g n c ys->Oth g w w'->Rng a b xs ys->Srt ys a b->K (.tuple #[]) w'):call Q 130 #[.slice (some ⟨g,0,none⟩) n c,ci (a:Nat),ci (b:Nat)] K w:=by
 have U:n<=4611686018427387904:=by obtain⟨_,_,_,_,U⟩:=T;exact U
 refine aj (goK func130) (Ca ?_);refine bL oo oo ?_;rw[YT oo];refine bL oo oo ?_;rw[xS oo];refine Vv oo oo oo ?_;refine AH (Inv:=λi D=>∃(p:Nat) (z:List Int),i=ci ((p:Int)-1)/\(p<=b-a)/\SD D g n c z/\Oth g w D/\Rng a b xs z/\Hp z a p (b-a))
  (μ:=λi _=>(intOf i+1).toNat) ⟨(b-a-1) / 2+1,xs,by congr 1;omega,by omega,T,mh _ _,Rng.refl _ _ _,λi c u o E=>by unfold chi at o;omega⟩ ?_
 rintro _ _ w1 m ⟨p,z,rfl,ae,v,V,X,s1⟩ O;have lz:=v.len;refine bR ?_;by_cases r:0<p
 .refine ay oo ?_;rw[xS r];refine ze8 v (f:=a) (lo:=p-1) (hi:=b-a) oo oo (by rw[show p-1+1=p by omega];exact s1) ?_;intro w2 y J o2 Y s2;rw[show a+(b-a)=b by omega]at Y;refine bL oo oo ?_;refine⟨⟨p-1,y,rfl,by omega,J,cj V o2,X.trans Y,s2⟩,?_⟩;rw[O];simp only[intOf];omega
 refine ax oo <|AJ ?_;have F:p=0:=by omega
 subst F;refine bL oo oo ?_;refine AI (Inv:=λi D=>∃(p:Nat) (z:List Int),i=ci ((p:Int)-1)/\(p<=b-a)/\SD D g n c z/\Oth g w D/\Rng a b xs z/\HS z a b p)
  (μ:=λi _=>(intOf i+1).toNat) ⟨b-a,z,rfl,Nat.le_refl _,v,V,X,s1,λi u o=>by omega,λk m u o E=>by omega⟩ ?_
 rintro _ _ w3 m3 ⟨p,s,rfl,af,q,W,S,B⟩ P;have ag:=q.len;refine bR ?_;by_cases r:0<p
 rotate_left
 .refine ax oo ?_;have F:p=0:=by omega
  subst F;exact h _ s q W S B.srt
 refine ay oo ?_;rw[xS r];refine aw (λx=>SD x g n c s) q.drew <|ac (λx a _=>aR oo oo) <|ac (λx a _=>aR oo oo) ?_;rw[Fz];refine Mk q.drew (i:=a) (j:=a+(p-1)) oo oo ?_;intro w4 L o4;have H:=λk=>Gq (xs:=s) (i:=a) (j:=a+(p-1)) (k:=k) oo oo;refine ze8 L (f:=a) (lo:=0) (hi:=p-1) oo (.inr rfl) ?_ ?_
 .intro i c u o E;rw[H,H,oI oo,oI (by unfold chi at o;omega),oI (by unfold chi at o;omega),oI oo];exact B.heap i c oo o oo
 intro w5 y M o5 Z s5;refine bL oo oo ?_;have R:s.Nodup:=S.perm.nodup_iff.2 hn;have r4:Rng a (a+p) s (swp s a (a+(p-1))):=Rng.swp oo oo oo oo;have A:=r4.trans (Z.mono (c:=a) (d:=a+p) oo oo);have C:∀k,k<p-1->G y (a+k)<=G s a:=by
  intro k hk;obtain⟨j,ab,ad,N⟩:=A.from oo R (a+k) oo oo;rw[N]
  have:=B.heap.top (j-a) oo
  rw[show a+(j-a)=j by omega]at this;exact this
 have l:∀m,a+p<=m->G y m=G s m:=λm u=>A.out m oo;have t:G y (a+(p-1))=G s a:=by rw[Z.out _ oo,H,oJ rfl]
 refine⟨⟨p-1,y,rfl,by omega,M,cj (cj (bV W) o4) o5,S.trans (A.mono oo oo),⟨s5,λi u o=>?_,λk m u o E=>?_⟩⟩,?_⟩
 .by_cases e:i=a+(p-1)
  .rw[e,t,l _ oo]
   have:=B.sep 0 (a+(p-1)+1) oo oo oo
   exact this
  .rw[l _ oo,l _ oo];exact B.srt i oo o
 .by_cases e:m=a+(p-1)
  .rw[e,t];exact C k u
  .rw[l m oo];have h5:=C k u;have h6:=B.sep 0 m oo oo E;rw[qW]at h6;omega
 .rw[P,xS r];simp only[intOf];omega
end
def Low(a b:Nat)(xs:List Int):Prop:=∀i k,i<a->a<=k->k<b->G xs i<G xs k
def Low.rng{a:Nat}{xs ys:List Int}(h:Low a b xs)(r:Rng a b xs ys)(f:b<=xs.length)(g:xs.Nodup):Low a b ys:=by intro i k c d e;obtain⟨j,l,m,n⟩:=r.from f g k d e;rw[r.out i (.inl c),n];exact h i j c l m
section
variable {n:Nat}{xs z:List Int}
def za2{a:Nat}(I:X1=.slice (some ⟨g,0,none⟩) n c)(J:Z1=ci (a:Nat))(L:N2=ci (b:Nat))(M:O2=ci (i:Nat))(N:P2=ci (s:Nat))(p:SD w g n c z)(C:Oth g w0 w)(D:Rng a b xs z)(E:Srt z a i)(P:a<i)(R:i<b)(X:b<=n)(V:s<5)(o:∀e w' z,gd e 7=ci (i:Nat)->gd e 8=ci ((s:Int)+1)->SD w' g n c z->Oth g w0 w'->Rng a b xs z->Srt z a i->N1 e w'):br K N1 ((aG X1 Z1 N2 O2 P2 zf)) w:=by
 subst I J L M N;have B:n<=4611686018427387904:=by obtain⟨_,_,_,_,B⟩:=p;exact B
 refine uw <|bL oo oo <|bR ?_;by_cases m:(2:Int)<=(b:Int)-i
 rotate_left
 .exact ax m <|ic <|aR oo oo (o _ _ _ rfl rfl p C D E)
 refine ay m <|aR oo oo ?_;rw[Bv];refine ur (Inv:=λj F=>∃(q:Nat) (z:List Int),j=ci (q:Nat)/\i+1<=q/\q<=b/\SD F g n c z/\Oth g w0 F/\Rng a b xs z/\Srt z a i) (μ:=λj _=>b-(intOf j).toNat)
  ⟨i+1,z,rfl,Nat.le_refl _,by omega,p,C,D,E⟩ ?_
 rintro _ _ w1 Z ⟨q,l,rfl,S,T,h,u,v,y⟩ t;have Y:=h.len;refine aL ?_;by_cases U:q<b
 rotate_left
 .exact ax oo <|ic <|aR oo oo (o _ _ _ rfl rfl h u v y)
 refine ay oo <|aw (λx=>SD x g n c l) h.drew <|ac (λx f _=>im oo) <|ac (λx f _=>ldS f oo) <|ac (λx f _=>bL oo oo) ?_;rw[xS oo];refine ac (λx f _=>im oo) <|ac (λx f _=>ldS f oo) <|xr <|hRT <|ac (λx f _=>xK) ?_;by_cases r:G l q<G l (q-1)
 rotate_left
 .exact ay r <|ic <|aR oo oo (o _ _ _ rfl rfl h.drew (bV u) v y)
 refine ax oo <|aw (λx=>SD x g n c l) h.drew.drew <|ac (λx f _=>bL oo oo) <|ac (λx f _=>bL oo oo) ?_;rw[xS oo];refine Mk h.drew.drew (i:=q) (j:=q-1) oo oo ?_;intro w4 H W;refine aR oo oo ?_;have A:=λk=>Gq (xs:=l) (i:=q) (j:=q-1) (k:=k) oo oo
 refine⟨⟨q+1,_,rfl,by omega,by omega,H,cj (bV (bV u)) W,v.trans (Rng.swp oo oo oo oo),λk O m=>?_⟩,?_⟩
 .rw[A,A,oI oo,oI oo,oI oo,oI oo];exact y k O m
 .rw[t,Bv];simp only[intOf];omega
def zjC{a:Nat}(W:X1=.slice (some ⟨g,0,none⟩) n c)(X:Z1=ci (a:Nat))(Y:N2=ci (b:Nat))(Z:O2=ci (i:Nat))(e8:P2=ci (s:Nat))(I:SD w g n c z)(R:Oth g w0 w)(S:Rng a b xs z)(hs:Srt z a (i-1))(m:a<i)(o:i<b)(H:b<=n)(r:s<5)(v:Low a b xs)(hn:xs.Nodup)(F:∀e w' z,gd e 7=ci (i:Nat)->gd e 8=ci ((s:Int)+1)->SD w' g n c z->Oth g w0 w'->Rng a b xs z->Srt z a i->N1 e w'):cM K N1 ((aG X1 Z1 N2 O2 P2 zf)) w:=by
 subst W X Y Z e8;have P:n<=4611686018427387904:=by obtain⟨_,_,_,_,P⟩:=I;exact P
 refine uj <|bL oo oo <|bR <|uk ?_;by_cases u:(2:Int)<=(i:Int)-a
 rotate_left
 .exact ax u (za2 rfl rfl rfl rfl rfl I R S (λk l D=>by omega) m o H r F)
 refine ay u <|bL oo oo ?_;rw[xS oo];refine uo (Inv:=λj U=>∃(q:Nat) (z:List Int),j=ci (q:Nat)/\a<=q/\q<=i-1/\SD U g n c z/\Oth g w0 U/\Rng a b xs z /\
   (∀k,a<=k->k+1<=i-1->k+1≠q->G z k<=G z (k+1))/\(a<q->q<i-1->G z (q-1)<=G z (q+1))) (μ:=λj _=>(intOf j).toNat)
  ⟨i-1,z,rfl,by omega,Nat.le_refl _,I,R,S,λk l u D=>hs k l oo,λ_ h=>by omega⟩ ?_
 rintro _ _ w1 m1 ⟨q,B,rfl,aa,ab,t,O,A,E,x1⟩ L;have lz:=t.len;have f:=A.len;have y:=v.rng A oo hn;refine bR ?_;by_cases p:0<q
 rotate_left
 .exact ax oo (za2 rfl rfl rfl rfl rfl t O A (λk l D=>E k l oo oo) m o H r F)
 refine ay oo <|aw (λx=>SD x g n c B) t.drew <|ac (λx f _=>im oo) <|ac (λx f _=>ldS f oo) <|ac (λx f _=>bL oo oo) ?_;rw[xS p];refine ac (λx f _=>im oo) <|ac (λx f _=>ldS f oo) <|xr <|hRT <|ac (λx f _=>xK) ?_;by_cases J:G B q<G B (q-1)
 rotate_left
 .refine ay J ?_;refine za2 rfl rfl rfl rfl rfl t.drew (bV O) A (λk l D=>?_) m o H r F;by_cases e:k+1=q
  .rw[e,show k=q-1 by omega];omega
  .exact E k l oo e
 refine ax oo ?_;have M:a<q:=by
  rcases Nat.lt_or_ge a q with h|h
  .exact h
  .have:=y (q-1) q oo oo oo
   omega
 refine aw (λx=>SD x g n c B) t.drew.drew <|ac (λx f _=>bL oo oo) <|ac (λx f _=>bL oo oo) ?_;rw[xS p];refine Mk t.drew.drew (i:=q) (j:=q-1) oo oo ?_;intro w4 V o4;refine bL oo oo ?_;rw[xS p];have C:=λk=>Gq (xs:=B) (i:=q) (j:=q-1) (k:=k) oo oo
 refine⟨⟨q-1,_,rfl,by omega,by omega,V,cj (bV (bV O)) o4,A.trans (Rng.swp oo oo oo oo),λk l u D=>?_,λl u=>?_⟩,?_⟩
 .rw[C,C];by_cases N:k=q-1
  .subst N;rw[oJ rfl,oI oo,oJ oo];omega
  by_cases T:k=q
  .subst T;rw[oI N,oJ rfl,oI oo,oI oo];exact x1 M oo
  by_cases i3:k+1=q-1
  .omega
  rw[oI N,oI T,oI i3,oI oo];exact E k l u oo
 .rw[C,C];rw[oI oo,oI oo,oI oo,oJ oo]
  have:=E (q-1-1) oo oo oo
  rw[show q-1-1+1=q-1 by omega]at this;exact this
 .rw[L];simp only[intOf];omega
def zkB{a:Nat}(N:SD w g n c xs)(U:a<b)(V:b<=n)(r:Low a b xs)(W:xs.Nodup)(h:∀w' ys f,SD w' g n c ys->Oth g w w'->Rng a b xs ys->(f=true->Srt ys a b)->K (.bool f) w'):call Q 134 #[.slice (some ⟨g,0,none⟩) n c,ci (a:Nat),ci (b:Nat)] K w:=by
 have O:n<=4611686018427387904:=by obtain⟨_,_,_,_,O⟩:=N;exact O
 refine aj (goK func134) (vo ?_);refine aR oo oo ?_;rw[Bv];refine ul (Inv:=λi j v=>∃(p s:Nat) (z:List Int),i=ci (p:Nat)/\j=ci (s:Nat)/\a+1<=p/\p<=b/\SD v g n c z/\Oth g w v/\Rng a b xs z/\Srt z a p)
  (μ:=λi j _=>5-(intOf j).toNat) ⟨a+1,0,xs,rfl,rfl,Nat.le_refl _,by omega,N,mh _ _,Rng.refl _ _ _,λk y M=>by omega⟩ ?_
 rintro _ _ _ w1 m ⟨p,s,z,rfl,rfl,t,u,o,P,B,s1⟩ D;have lz:=o.len;refine aL ?_;by_cases H:s<5
 rotate_left
 .exact ax oo <|ut (h _ z false o P B (λe=>by cases e))
 refine ay oo <|ui ?_;refine um (Inv:=λi v=>∃(p:Nat),i=ci (p:Nat)/\a+1<=p/\p<=b/\SD v g n c z/\Oth g w v/\Srt z a p)
  (μ:=λi _=>b-(intOf i).toNat) ⟨p,rfl,t,u,o,P,s1⟩ ?_
 rintro _ _ w2 m2 ⟨p,rfl,t,u,l,A,I⟩ E;refine ah (λ_=>aL) ?_;by_cases F:p<b
 rotate_left
 .refine cJ oo <|ah (λ_=>bw oo) <|aA <|lU <|aT <|ay oo ?_;refine h _ z true l.drew (bV A) B (λ_=>?_)
  have:p=b:=by omega
  rw[<-this];exact I
 refine bU oo <|ah (λ_=>im oo) <|ah (λ_=>ldS l.drew oo) <|ah (λ_=>bL oo oo) ?_;rw[xS oo];refine ah (λ_=>im oo) <|ah (λ_=>ldS l.drew oo) <|ah (λ_=>xr) <|ah (λ_=>xK) <|ah (λ_=>bI oo) ?_;by_cases C:G z p<G z (p-1)
 rotate_left
 .refine ay C <|aR oo oo ?_;refine⟨⟨p+1,rfl,by omega,by omega,l.drew,bV A,λk y M=>?_⟩,by rw[E,Bv];simp only[intOf];omega⟩;by_cases e:k+1=p
  .rw[e,show k=p-1 by omega];omega
  .exact I k y oo
 refine ax oo <|lU <|aT <|ax oo <|bL oo oo <|aL ?_;by_cases q:(b:Int)-a<50
 .exact ay q (h _ z false l.drew (bV A) B (λe=>by cases e))
 refine ax q <|aw (λx=>SD x g n c z) l.drew.drew <|ac (λx X _=>bL oo oo) <|ac (λx X _=>bL oo oo) ?_;rw[xS oo];refine Mk l.drew.drew (i:=p) (j:=p-1) oo oo ?_;intro w4 R Y;have L:=λk=>Gq (xs:=z) (i:=p) (j:=p-1) (k:=k) oo oo
 refine zjC (s:=s) rfl rfl rfl rfl rfl R (cj (bV (bV A)) Y) (B.trans (Rng.swp oo oo oo oo)) (λk y M=>?_) oo F V H r W ?_
 .rw[L,L,oI oo,oI oo,oI oo,oI oo];exact I k y oo
 intro e w5 z5 T J S Z r5 s5;refine⟨⟨p,s+1,z5,T,by rw[J,Bv],by omega,by omega,S,Z,r5,s5⟩,?_⟩;show 5-(intOf (gd e 8)).toNat<_;rw[J,D,Bv];simp only[intOf];omega
end
structure Ots(g:Nat) (w w':oG):Prop where
 os:w'.os=w.os
 tape:w'.tape=w.tape
 output:w'.output=w.output
 size:w.heap.size<=w'.heap.size
 other:∀k,k<w.heap.size->k≠g->w'.heap[k]? = w.heap[k]?
def Ots.refl(w:oG)(g:Nat):Ots g w w:=⟨rfl,rfl,rfl,Nat.le_refl _,λ_ _ _=>rfl⟩
def Ots.of_oth(h:Oth g w S):Ots g w S:=⟨h.os,h.tape,h.output,by have:=h.size;omega,λk _ a=>h.other k a⟩
def Ots.of_below(h:Below w.heap.size w S):Ots g w S:=⟨h.os,h.tape,h.output,h.size,λk a _=>h.block k a⟩
def Ots.trans{a b c:oG}(h:Ots g a b)(k:Ots g b c):Ots g a c :=
 ⟨k.os.trans h.os,k.tape.trans h.tape,k.output.trans h.output,qR h.size k.size,λi e d=>(k.other i (by have:=h.size;omega) d).trans (h.other i e d)⟩
def Ots.drew(h:Ots g w S):Ots g w S.drew:=⟨h.os,h.tape,h.output,h.size,h.other⟩
def Ots.new{p:Nat}{a b c:oG}(h:Ots g a b)(k:Oth p b c)(f:a.heap.size<=p):Ots g a c :=
 ⟨k.os.trans h.os,k.tape.trans h.tape,k.output.trans h.output,by have:=h.size;have:=k.size;omega,λi d e=>(k.other i oo).trans (h.other i d e)⟩
def Ots.below{B:Nat}(h:Ots g w S)(a:B<=g)(c:B<=w.heap.size):Below B w S:=⟨h.os,h.tape,h.output,h.size,λk b=>h.other k oo oo⟩
def SD.oth{n p:Nat}{xs:List Int}(h:SD w g n c xs)(o:Oth p w S)(b:p≠g):SD S g n c xs:=by obtain⟨a,d,f⟩:=h;exact⟨a,o.blk d (λe=>b e.symm),f⟩
def SD.below{n:Nat}{xs:List Int}(h:SD w g n c xs)(o:Below w.heap.size w S):SD S g n c xs:=by obtain⟨a,b,d⟩:=h;exact⟨a,ae o b b.lt,d⟩
def SD.lt{n:Nat}{xs:List Int}(h:SD w g n c xs):g<w.heap.size:=by obtain⟨a,b,d⟩:=h;exact b.lt
def zkK(l:List UInt8):Bool:=(List.range 256).all λi=>i==0 || decide (2 ^ (l.getD i 0).toNat<=2*i)
section
variable {P:Program}
def zha(f:P.underlying t=some .string){l:List UInt8}(c:l.length=256)(a:zkK l=true){k:IntKind}(g:1<=i)(hi:i<256)(h:∀r:Nat,r<64->2 ^ r<=2*i->K (.int .u8 (r:Int)) w):idx P t (.string (AA l)) (.int k (i:Nat)) K w:=by
 have b:2 ^ (l.getD i 0).toNat<=2*i:=by
  have:=(jS.1 a) i (jQ.2 hi)
  simp only[jR,beq_iff_eq,oP]at this;rcases this with h|h
  .omega
  .exact h
 have d:(l.getD i 0).toNat<64:=by
  rcases Nat.lt_or_ge (l.getD i 0).toNat 64 with h|h
  .exact h
  .have:2 ^ 64<=2 ^ (l.getD i 0).toNat:=Nat.pow_le_pow_right oo h
   omega
 refine zdl (w':=w) (v:=.int .u8 ((l.getD i 0).toNat:Int)) ?_ (h _ d b);have j:(AA l).size=256:=by simp[AA,ByteArray.size,c]
 have e:(AA l)[i]? = some (l.getD i 0):=by
  rw[getElem?_pos (AA l) i oo]
  congr 1
  simp[AA,ByteArray.getElem_eq_getElem_data,List.getD,show i<l.length by omega]
 simp[Instr.index,asIntOf,jZ f,e]
end
def zij(c:m<18446744073709551616):∃r:Nat,qy .and .u64 x (m:Nat)=(r:Int)/\r<=m:=by
 refine⟨(BitVec.ofInt 64 x &&& BitVec.ofInt 64 (m:Int)).toNat,?_,?_⟩
 .unfold qy;have b:IntKind.u64.bits=64:=rfl;show IntKind.u64.wrap ((BitVec.ofInt 64 x &&& BitVec.ofInt 64 (m:Int)).toNat:Int)=_;rw[eJ]
  have:=(BitVec.ofInt 64 x &&& BitVec.ofInt 64 (m:Int)).isLt
  omega
 .rw[BitVec.toNat_and,BitVec.ofInt_natCast,BitVec.toNat_ofNat,Nat.mod_eq_of_lt (a:=m) oo];exact Nat.and_le_right
section
variable {n:Nat}{xs:List Int}
def zjb(c:1<=n)(e:n<256)(h:∀r:Nat,r<64->2 ^ r<=2*n->K (ci (r:Int)) w):call Q 92 #[.int .u64 (n:Nat)] K w:=by
 refine aj (goK func92) (IS ?_)
 (repeat (first|refine aA ?_))
 refine aj (goK func116) (Ff ?_)
 (repeat (first|refine CT ?_|refine CL ?_|refine CV ?_|refine CO ?_|refine CY ?_|refine CQ ?_|refine bR ?_|refine ax oo ?_))
 refine dE underlying36 underlying5 ?_;rw[Ri,show ((n:Nat):Int)%256=(n:Nat)by omega];refine zha underlying9 rfl (by decide +kernel) c e ?_;intro b d a;refine dE underlying5 underlying3 ?_;rw[fM oo oo]
 (repeat (first|refine aR oo oo ?_))
 have:=h b d a
 rwa[Int.zero_add]
def zjk(c:1<=n)(f:n<256)(h:∀m:Nat,1<=m->m<=2*n->K (.int .u64 (m:Int)) w):call Q 123 #[ci (n:Nat)] K w:=by
 refine aj (goK func123) (Ji ?_);refine dE underlying3 underlying147 ?_;rw[eJ,show ((n:Nat):Int)%18446744073709551616=(n:Nat)by omega];refine zjb c f ?_;intro r i a;refine Cc oo ?_;have g:0<2 ^ r:=Nat.two_pow_pos r;have e:IntKind.u64.wrap (1*2 ^ (min ((r:Int).toNat) IntKind.u64.bits))=((2 ^ r:Nat):Int):=by
  have d:IntKind.u64.bits=64:=rfl;rw[d,show min ((r:Int).toNat) 64=r by omega,Int.one_mul,eJ];have b:(2:Int) ^ r=((2 ^ r:Nat):Int):=by simp
  rw[b];omega
 rw[e];exact h _ g a
def zic{p:Nat}(e:blk w p 246 [.int .u64 x])(h:∀S y,blk S p 246 [.int .u64 y]->Oth p w S->K (.int .u64 y) S):call Q 124 #[pA p 0] K w:=by
 have f:∀w,(sizeOf 246).run Q w=.ok 1 w:=λ_=>by kernel_rfl
 have b:∀w,(isAgg 246).run Q w=.ok false w:=λ_=>by kernel_rfl
 refine aj (goK func124) (JQ ?_);refine ah (λ_=>aq) <|ah (λ_=>ld1 b e rfl) <|ah (λ_=>aq) <|ah (λ_=>ld1 b e rfl) <|ah (λ_=>Cc oo) <|ah (λ_=>QG) <|ah (λ_=>aq) <|cq f e.drew oB rfl ?_;intro m c i
 refine ah (λ_=>aq) <|ah (λ_=>ld1 b c rfl) <|ah (λ_=>aq) <|ah (λ_=>ld1 b c rfl) <|ah (λ_=>Hq oo) <|ah (λ_=>QG) <|ah (λ_=>aq) <|cq f c.drew oB rfl ?_;intro n d j;refine ah (λ_=>aq) <|ah (λ_=>ld1 b d rfl) <|ah (λ_=>aq) <|ah (λ_=>ld1 b d rfl) <|ah (λ_=>Cc oo) <|ah (λ_=>QG) <|ah (λ_=>aq) <|cq f d.drew oB rfl ?_
 intro l g k;exact aq <|ld1 b g rfl (h l _ g (cj (cj (bV (mh _ _)) (cj i (bV (mh _ _)))) (cj j (cj (bV (mh _ _)) k))))
def ziu{a:Nat}(M:SD w g n c xs)(H:a<=b)(hb:b<=n)(hn:n<256)(h:∀w' ys,SD w' g n c ys->Ots g w w'->Rng a b xs ys->K (.tuple #[]) w'):call Q 131 #[.slice (some ⟨g,0,none⟩) n c,ci (a:Nat),ci (b:Nat)] K w:=by
 refine aj (goK func131) (yu ?_);refine bL oo oo ?_;rw[YT H];refine bR ?_;by_cases h8:8<=b-a
 rotate_left
 .exact ax oo (h _ xs M (Ots.refl _ _) (Rng.refl _ _ _))
 refine ay oo <|dE underlying3 underlying246 <|bO (z:=.int .u64 0) kr ?_;intro w1 I V s1;have N:=M.below V;have aa:=M.lt;refine cq kf I (by simp[Value.cells]) rfl ?_;intro w2 t X;have O:=N.oth X oo;have t:blk w2 w.heap.size 246 [.int .u64 (IntKind.u64.wrap ((b-a:Nat):Int))]:=t;refine zjk oo oo ?_
 intro m ab ad;refine Vv oo oo oo <|Nx oo oo <|aR oo oo <|bL oo oo ?_;have t2:Ots g w w2:=(Ots.of_below V).new X oA;refine xA (Inv:=λi T=>∃(q:Nat) (x:Int) (z:List Int),i=ci (q:Nat)/\(a<=q)/\SD T g n c z/\blk T w.heap.size 246 [.int .u64 x]/\Ots g w T/\Rng a b xs z) (μ:=λi _=>b-(intOf i).toNat)
  ⟨a+(b-a) / 4*2-1,_,xs,by congr 1;omega,by omega,O,t,t2,Rng.refl _ _ _⟩ ?_
 rintro _ _ w3 m3 ⟨q,x,z,rfl,hq,u,J,t3,Z⟩ R;have lz:=u.len;refine Vv oo oo oo <|Nx oo oo <|aR oo oo <|aR oo oo <|iG ?_;by_cases B:(q:Int)<=(a:Int)+((b-a:Nat):Int) / 4*2+1
 rotate_left
 .exact ax B (h _ z u t3 Z)
 refine ay B <|zic J ?_;intro w4 y L Y;have A:=u.oth Y oo;have t4:=t3.new Y oA;refine nL ?_;rw[eJ,show ((m:Int)-1)%18446744073709551616=((m-1:Nat):Int)by omega];refine VT ?_;obtain⟨r,S,ae⟩:=zij (x:=y) (m:=m-1) oo;rw[S];refine dE underlying147 underlying3 ?_;rw[fM oo oo];refine bR <|xz ?_
 have W:∀(o:Nat) {B1:oE->oG->Prop} {k U l p f s d:oF} {zf:oD},o<b-a->k=.slice (some ⟨g,0,none⟩) n c->U=ci (a:Nat)->s=ci (q:Nat)->d=ci (o:Nat) ->
   (∀e w',gd e 9=ci ((q+1:Nat):Int)->SD w' g n c (swp z q (a+o))->Oth g w4 w'->B1 e w')->cw K B1 ((gM k U l p f s d zf)) w4:=by
  intro o
  intros
  rename_i ho e0 e1 C F hB;subst e0 e1 C F;refine xC <|aw (λx=>SD x g n c z) A.drew <|ac (λx a _=>aR oo oo) <|ac (λx a _=>aR oo oo) ?_;rw[Fz];refine Mk A.drew (i:=q) (j:=a+o) oo oo ?_;intro w5 E D;refine xB <|aR oo oo ?_;rw[Bv];exact hB _ _ rfl E (cj (bV (mh _ _)) D)
 have v:∀(o:Nat),o<b-a->∀e w',gd e 9=ci ((q+1:Nat):Int)->SD w' g n c (swp z q (a+o))->Oth g w4 w'->(∃(q:Nat) (x:Int) (z:List Int),gd e 9=ci (q:Nat)/\(a<=q)/\SD w' g n c z/\blk w' w.heap.size 246 [.int .u64 x]/\Ots g w w'/\Rng a b xs z)/\b-(intOf (gd e 9)).toNat<m3:=by
  intro o ho e w5 C E D;refine⟨⟨q+1,y,_,C,by omega,E,D.blk L oo,t4.trans (Ots.of_oth D),Z.trans (Rng.swp oo oo oo oo)⟩,?_⟩;rw[C,R];simp only[intOf];omega
 by_cases P:b-a<=r
 .refine ay oo <|bL oo oo ?_;rw[YT P];exact W (r-(b-a)) oo rfl rfl rfl rfl (v _ oo)
 .exact ax oo (W r oo rfl rfl rfl rfl (v _ oo))
abbrev I64:TypeId:=3
def Tt{p:Nat}{s:Int}(f:SD w g n c xs)(k:blk w p I64 [ci s])(m:p≠g)(hi:i<n)(o:j<n)(h:∀S x y s',(x=i\/x=j)->(y=i\/y=j)->SD S g n c xs->blk S p I64 [ci s']->Oth p w S->K (.tuple #[ci (x:Nat),ci (y:Nat)]) S):call Q 143 #[.slice (some ⟨g,0,none⟩) n c,ci (i:Nat),ci (j:Nat),pA p 0] K w:=by
 refine aj (goK func143) (Dk ?_);refine aw (λx=>SD x g n c xs) f.drew <|ac (λx d _=>im o) <|ac (λx d _=>ldS d o) <|ac (λx d _=>im hi) <|ac (λx d _=>ldS d hi) <|xr ?_;by_cases b:G xs j<G xs i
 .refine ay b <|aq <|lK (v:=ci s) k.drew rfl <|xE <|aq <|cq kf k.drew oB rfl ?_;intro r l q;have e:=cj (bV (mh w p)) q;exact h _ j i _ (.inr rfl) (.inl rfl) (f.oth e m) l e
 .exact ax b (h _ i j s (.inl rfl) (.inr rfl) f.drew k.drew (bV (mh _ _)))
def ZN{p k:Nat}{s:Int}(f:SD w g n c xs)(o:blk w p I64 [ci s])(a:p≠g)(hi:i<n)(l:j<n)(m:k<n)(h:∀w' x s',(x=i\/x=j\/x=k)->SD w' g n c xs->blk w' p I64 [ci s']->Oth p w w'->K (ci (x:Nat)) w'):call Q 142 #[.slice (some ⟨g,0,none⟩) n c,ci (i:Nat),ci (j:Nat),ci (k:Nat),pA p 0] K w:=by refine aj (goK func142) (Dj ?_);refine Tt f o a hi l ?_;intro J N R H q u b C z;refine bo <|bj <|Tt b C a oo m ?_;intro L O S I r v d D A;refine bo <|bj <|Tt d D a oo oo ?_;intro M P G F t y e E B;exact bo <|bj (h _ G F oo e E (cj (cj z A) B))
def ZL{p:Nat}{s:Int}(d:SD w g n c xs)(e:blk w p I64 [ci s])(a:p≠g)(l:1<=i)(hi:i+1<n)(m:n<256)(h:∀S x s',i-1<=x->x<=i+1->SD S g n c xs->blk S p I64 [ci s']->Oth p w S->K (ci (x:Nat)) S):call Q 141 #[.slice (some ⟨g,0,none⟩) n c,ci (i:Nat),pA p 0] K w:=by refine aj (goK func141) (xQ ?_);refine bL oo oo ?_;rw[xS oo];refine aR oo oo ?_;rw[Bv];refine ZN d e a oo oo oo ?_;intro q x k o b j f;exact h _ x k oo oo b j f
def ziD{a:Nat}(P:SD w g n c xs)(X:a+8<=b)(hb:b<=n)(D:n<256)(h:∀w' (p:Nat) (u:Int),a<=p->p<b->SD w' g n c xs->Ots g w w'->K (.tuple #[ci (p:Nat),ci u]) w'):call Q 132 #[.slice (some ⟨g,0,none⟩) n c,ci (a:Nat),ci (b:Nat)] K w:=by
 refine aj (goK func132) (zS ?_);refine bL oo oo ?_;rw[YT oo];refine bO (z:=ci 0) kr ?_;intro w1 f r s1;have k:=P.below r;have Y:=P.lt;have f:blk w1 w.heap.size I64 [ci 0]:=f;obtain⟨l,Z⟩:∃l,b-a=l:=⟨_,rfl⟩
 rw[Z];obtain⟨q,hq⟩:∃q,l / 4=q:=⟨_,rfl⟩
 have E:((l:Nat):Int) / 4=(q:Nat):=by omega
 have J:∀{K':KV} {t:TypeId} {M N:Bool},K' (ci (q:Nat)) w1->bin Q .quo t M N (ci (l:Nat)) (ci 4) K' w1:=by
  intro K' t M N W;refine Vv oo oo oo ?_;rw[E];exact W
 refine J <|Nx oo oo ?_;rw[show ((q:Nat):Int)*1=((q*1:Nat):Int)by omega];refine aR oo oo ?_;rw[Fz];refine J <|Nx oo oo ?_;rw[show ((q:Nat):Int)*2=((q*2:Nat):Int)by omega];refine aR oo oo ?_;rw[Fz];refine J <|Nx oo oo ?_;rw[show ((q:Nat):Int)*3=((q*3:Nat):Int)by omega];refine aR oo oo ?_;rw[Fz]
 refine yw <|bR <|yy <|ay oo <|bR <|yA ?_;have O:∀{w2:oG} {I:Int} (x y z:Nat) {e d m o i:oF} {zf:oD},a<=x/\x<b->a<=y/\y<b->a<=z/\z<b->SD w2 g n c xs->blk w2 w.heap.size I64 [ci I]->Ots g w w2 ->
   e=.slice (some ⟨g,0,none⟩) n c->m=ci (x:Nat)->o=ci (y:Nat)->i=ci (z:Nat)->d=pA w.heap.size 0->cC K ((dS e d m o i zf)) w2:=by
  intro w2 I x y z
  intros
  rename_i hx hy hz s G t2 T A B C U;subst T A B C U;refine yE <|ZN s G oo oo oo oo ?_;intro w3 v R hv j H F;have L:=t2.new F oA;refine yC <|lK (v:=ci R) H rfl <|aT ?_;refine P8 (λ_=>h _ v _ oo oo j L) (λ_=>?_);refine aT ?_
  exact P8 (λ_=>h _ v _ oo oo j L) (λ_=>h _ v _ oo oo j L)
 by_cases V:50<=l
 .refine ay oo <|ZL k f oo oo oo D ?_;intro w2 x I aa ab s G o2;refine ZL s G oo oo oo D ?_;intro w3 y R ac ad j H F;refine ZL j H oo oo oo D ?_;intro w4 z s4 ae af S p4 o4
  exact O x y z oo oo oo S p4 ((((Ots.of_below r).new o2 oA).new F oA).new o4 oA) rfl rfl rfl rfl rfl
 .exact ax oo (O _ _ _ oo oo oo k f (Ots.of_below r) rfl rfl rfl rfl rfl)
end
section
open Go.ChangeMaps
section
variable {P:Program}
def zh9(a:P.underlying t=some .string){s:ByteArray}{k:IntKind}(hi:i<s.size)(h:∀b:Nat,b<256->K (.int .u8 (b:Int)) w):idx P t (.string s) (.int k (i:Nat)) K w:=by refine zdl (w':=w) (v:=.int .u8 (s[i].toNat:Int)) ?_ (h _ (UInt8.toNat_lt _));have e:s[i]? = some s[i]:=getElem?_pos s i hi;simp[Instr.index,asIntOf,jZ a,e]
end
section
variable {n:Nat}{xs:List Int}
def zdr(c:n<256)(h:∀r:Nat,r<256->K (ci (r:Int)) w):call Q 92 #[.int .u64 (n:Nat)] K w:=by
 refine aj (goK func92) (IS ?_)
 (repeat (first|refine aA ?_))
 refine aj (goK func116) (Ff ?_)
 (repeat (first|refine CT ?_|refine CL ?_|refine CV ?_|refine CO ?_|refine CY ?_|refine CQ ?_|refine bR ?_|refine ax oo ?_))
 refine dE underlying36 underlying5 ?_;rw[Ri,show ((n:Nat):Int)%256=(n:Nat)by omega];refine zh9 underlying9 (by exact c) ?_;intro b a;refine dE underlying5 underlying3 ?_;rw[fM oo oo]
 (repeat (first|refine aR oo oo ?_))
 have:=h b a
 rwa[Int.zero_add]
end
end
def zkR{xs:List Int}(g:xs.Nodup){k:Nat}(hi:i<xs.length)(a:k<xs.length)(h:i≠k):G xs i≠G xs k:=by
 have d:G xs i=xs[i]:=by simp[G,List.getD,hi]
 have f:G xs k=xs[k]:=by simp[G,List.getD,a]
 rw[d,f];have c:=List.pairwise_iff_getElem.1 g;rcases Nat.lt_or_ge i k with b|b
 .exact c i k hi a b
 .exact λe=>c k i a hi oo e.symm
def Srt.join{ys:List Int}{a:Nat}(g:Srt ys a m)(h:Srt ys (m+1) b)(l:∀k,a<=k->k<m->G ys k<=G ys m)(n:∀k,m<k->k<b->G ys m<=G ys k):Srt ys a b:=by
 intro i c j;by_cases d:i+1<m
 .exact g i c d
 by_cases e:i+1=m
 .rw[e];exact l i c oo
 by_cases f:i=m
 .rw[f];exact n (m+1) oo oo
 .exact h i oo j
structure NX(a b:Nat) (z:List Int) (a2 b2:Nat) (z2:List Int):Prop where
 le:a2<=b2
 ha:a<=a2
 hb:b2<=b
 lt:b2-a2<b-a
 rng:Rng a b z z2
 low:Low a2 b2 z2
 fin:∀ys,Rng a2 b2 z2 ys->Srt ys a2 b2->Rng a b z ys/\Srt ys a b
section
variable {a:Nat}{z z2 z3:List Int}
def PR.lowL(q:PR z2 a b m)(e:Low a b z2):Low a m z2:=λi k c d f=>e i k c d (by have:=q.hm;omega)
def PR.lowR(q:PR z2 a b m)(f:Low a b z2)(g:z2.Nodup)(l:b<=z2.length):Low (m+1) b z2:=by
 intro i k h j c;have n:=q.hm;by_cases d:i<a
 .exact f i k d oo c
 have o:=q.up k oo c;by_cases e:i=m
 .subst e
  have:=zkR g (i:=i) (k:=k) oo oo oo
  omega
 .have:=q.lo i oo oo
  omega
def zhu(r:Rng a b z z2)(q:PR z2 a b m)(A:Low a b z)(w:z.Nodup)(y:b<=z.length)(g:Rng a m z2 z3)(s3:Srt z3 a m):NX a b z (m+1) b z3:=by
 have D:=q.hm;have h:z2.Nodup:=r.perm.nodup_iff.2 w;have B:=r.len;have C:=g.len;have n:z3.Nodup:=g.perm.nodup_iff.2 h;have o:∀k,a<=k->k<m->G z3 k<G z2 m:=by
  intro k f e;obtain⟨j,x,u,v⟩:=g.from oo h k f e;rw[v];exact q.lo j x u
 have t:G z3 m=G z2 m:=g.out m oo;have p:=A.rng r y w;have s:=p.rng (g.mono (c:=a) (d:=b) oo oo) oo h;refine⟨by omega,by omega,by omega,by omega,r.trans (g.mono oo oo),?_,λF l E=>⟨(r.trans (g.mono oo oo)).trans (l.mono oo oo),Srt.join (m:=m) ?_ E ?_ ?_⟩⟩
 .refine PR.lowR ⟨D,λk f e=>by rw[t];exact o k f e,λk f e=>?_⟩ s n oo;rw[t,g.out k oo];exact q.up k f e
 .intro i f e;rw[l.out i oo,l.out (i+1) oo];exact s3 i f e
 .intro k f e;rw[l.out k oo,l.out m oo,t]
  have:=o k f e;omega
 .intro k f e;obtain⟨j,x,u,v⟩:=l.from oo n k oo e;rw[l.out m oo,t,v,g.out j oo];exact q.up j oo u
def zfx(r:Rng a b z z2)(q:PR z2 a b m)(y:Low a b z)(v:z.Nodup)(x:b<=z.length)(e:Rng (m+1) b z2 z3)(s3:Srt z3 (m+1) b):NX a b z a m z3:=by
 have E:=q.hm;have g:z2.Nodup:=r.perm.nodup_iff.2 v;have A:=r.len;have B:=e.len;have p:z3.Nodup:=e.perm.nodup_iff.2 g;have u:G z3 m=G z2 m:=e.out m oo;have n:=y.rng r x v;have o:=n.rng (e.mono (c:=a) (d:=b) oo oo) oo g
 refine⟨by omega,by omega,by omega,by omega,r.trans (e.mono oo oo),λi k l f D=>o i k l f oo,λF h C=>⟨(r.trans (e.mono oo oo)).trans (h.mono oo oo),Srt.join (m:=m) C ?_ ?_ ?_⟩⟩
 .intro i l f;rw[h.out i oo,h.out (i+1) oo];exact s3 i l f
 .intro k l f;obtain⟨j,w,s,t⟩:=h.from oo p k l f;rw[h.out m oo,u,t,e.out j oo]
  have:=q.lo j w s;omega
 .intro k l f;rw[h.out k oo,h.out m oo,u];obtain⟨j,w,s,t⟩:=e.from oo g k oo f;rw[t];exact q.up j oo s
end
def Yz(d g n c:Nat):Prop:=∀{a b:Nat} {f:Int} {z:List Int} {w:oG} {K:KV},b-a<d->SD w g n c z->a<=b->b<=n->z.Nodup->Low a b z->(∀e ys,SD e g n c ys->Ots g w e->Rng a b z ys->Srt ys a b->K (.tuple #[]) e) ->
 call Q 121 #[.slice (some ⟨g,0,none⟩) n c,ci (a:Nat),ci (b:Nat),ci f] K w
def zbS(g n c:Nat)(S:oG)(a b:Nat)(z:List Int)(B1:oE->oG->Prop):Prop:=∀(e:oE) (d:oG) (f h:Nat) (j:Int) (k l:Bool) (i:List Int),
 gd e 1=ci (f:Nat)->gd e 2=ci (h:Nat)->gd e 3=ci j->gd e 8=.bool k->gd e 9=.bool l->SD d g n c i->Ots g S d->NX a b z f h i->B1 e d
section
variable {n:Nat}{xs z:List Int}
def zdM{a p:Nat}(H:X1=.slice (some ⟨g,0,none⟩) n c)(I:Z1=ci (a:Nat))(M:N2=ci (b:Nat))(N:O2=ci x)(e8:P2=.bool cx)(O:Q2=.bool cy)(u:R2=ci ((b-a:Nat):Int))(J:T2=ci (p:Nat))(y:SD w g n c z)(Y:Ots g w0 w)(R:Rng a b xs z)(B:a<=p)(D:p<b)(hb:b<=n)(h:Low a b xs)(C:xs.Nodup)(l:Yz (b-a) g n c)(W:zbS g n c w0 a b xs N1):dw K N1 ((fD X1 Z1 N2 O2 P2 Q2 R2 T2 zf)) w:=by
 subst H I M N e8 O u J;have X:n<=4611686018427387904:=by obtain⟨_,_,_,_,X⟩:=y;exact X
 have lz:=y.len;have ab:=R.len;have E:=h.rng R oo C;refine Br <|ah (λ_=>cH) ?_;have s:∀{w2:oG} {K2:KV},SD w2 g n c z->(∀F i m f,SD F g n c i->Oth g w2 F->Rng a b xs i->PR i a b m->K2 (.tuple #[ci (m:Nat),.bool f]) F) ->
   call Q 137 #[.slice (some ⟨g,0,none⟩) n c,ci (a:Nat),ci (b:Nat),ci (p:Nat)] K2 w2:=by
  intro w2 K2 Z h2;exact zjx Z B D hb (λF i m f a b c d=>h2 F i m f a b (R.trans c) d)
 have o:∀{m:Nat} {f:Bool} {i:List Int} {w3:oG} {X1 Z1 N2 O2 R2 j d:oF} {zf:oD},X1=.slice (some ⟨g,0,none⟩) n c->Z1=ci (a:Nat)->N2=ci (b:Nat)->O2=ci x->d=.bool f ->
   R2=ci ((b-a:Nat):Int)->j=ci (m:Nat)->SD w3 g n c i->Ots g w0 w3->Rng a b xs i->PR i a b m->gH K N1 ((gK X1 Z1 N2 O2 R2 j d zf)) w3:=by
  intro m f i w3
  intros
  rename_i H I M N O u L t A r k;subst H I M N O u L;have P:=k.hm;have v:i.Nodup:=r.perm.nodup_iff.2 C;have q:=h.rng r oo C;have ly:=t.len;refine Bk <|bL oo oo <|bL oo oo <|Vv oo oo oo <|aL ?_;refine P8 (λ_=>?_) (λ_=>?_)
  .refine bR <|l oo t P.1 oo v (k.lowL q) ?_;intro w4 V G S T U;exact aR oo oo (W _ _ (m+1) b x _ f V rfl rfl rfl rfl rfl G (A.trans S) (zhu r k h C oo T U))
  .refine bR <|aR oo oo ?_;rw[Bv];refine l oo t oo oo v (k.lowR q v oo) ?_;intro w4 V G S T U;exact W _ _ a m x _ f V rfl rfl rfl rfl rfl G (A.trans S) (zfx r k h C oo T U)
 by_cases ha:0<a
 .refine bU oo <|ah (λ_=>bL oo oo) ?_;rw[xS ha];refine ah (λ_=>im oo) <|ah (λ_=>ldS y.drew oo) <|ah (λ_=>im oo) <|ah (λ_=>ldS y.drew oo) <|ah (λ_=>xr) <|ah (λ_=>xK) <|ah (λ_=>bI oo) ?_;have aa:=E (a-1) p oo B D;refine ax oo <|s y.drew ?_;intro w3 i m f t A r k
  exact bo <|bj (o rfl rfl rfl rfl rfl rfl rfl t (Y.drew.trans (Ots.of_oth A)) r k)
 .refine cJ oo <|ah (λ_=>bw oo) <|aA <|s y.drew ?_;intro w3 i m f t A r k;exact bo <|bj (o rfl rfl rfl rfl rfl rfl rfl t (Y.drew.trans (Ots.of_oth A)) r k)
def zdL{a p:Nat}(s:X1=.slice (some ⟨g,0,none⟩) n c)(u:Z1=ci (a:Nat))(A:Z=ci (b:Nat))(B:U=ci x)(D:Y=.bool cx)(E:Q2=.bool cy)(h:R2=ci ((b-a:Nat):Int))(i:T2=ci (p:Nat))(y:U2=ci v)(G:SD w g n c z)(I:Ots g w0 w)(j:Rng a b xs z)(k:a<=p)(l:p<b)(F:b<=n)(d:Low a b xs)(q:xs.Nodup)(e:Yz (b-a) g n c)(L:zbS g n c w0 a b xs N1)(hF:∀w' ys,SD w' g n c ys->Ots g w0 w'->Rng a b xs ys->Srt ys a b->K (.tuple #[]) w'):dv K N1 ((fC X1 Z1 Z U Y Q2 R2 T2 U2 zf)) w:=by
 subst s u A B D E h i y;have R:=G.len;have O:=j.len;have m:=d.rng j oo q;have H:z.Nodup:=j.perm.nodup_iff.2 q;have r:∀{t:Bool} {X1 Z1 Z U Y Q2 R2 T2 o:oF} {zf:oD},X1=.slice (some ⟨g,0,none⟩) n c->Z1=ci (a:Nat)->Z=ci (b:Nat)->U=ci x->Y=.bool cx->Q2=.bool cy ->
   R2=ci ((b-a:Nat):Int)->T2=ci (p:Nat)->o=.bool t->gG K N1 ((gJ X1 Z1 Z U Y Q2 R2 T2 o zf)) w:=by
  intro t
  intros
  rename_i s u A B D E h i C;subst s u A B D E h i C;refine Bi ?_;cases t
  .exact aA (zdM rfl rfl rfl rfl rfl rfl rfl rfl G I j k l F d q e L)
  .refine aV <|zkB G oo F m H ?_;intro S ys f J M N P;cases f
   .exact aA (zdM rfl rfl rfl rfl rfl rfl rfl rfl J (I.trans (Ots.of_oth M)) (j.trans N) k l F d q e L)
   .exact aV (hF _ ys J (I.trans (Ots.of_oth M)) (j.trans N) (P rfl))
 refine Bp ?_;cases cx
 .exact kj <|bZ <|kj <|bZ (r rfl rfl rfl rfl rfl rfl rfl rfl rfl)
 .refine kN <|cA ?_;cases cy
  .exact kj <|bZ (r rfl rfl rfl rfl rfl rfl rfl rfl rfl)
  .exact kN <|aT <|cA (r rfl rfl rfl rfl rfl rfl rfl rfl rfl)
def zbv{a:Nat}(v:X1=.slice (some ⟨g,0,none⟩) n c)(y:Z1=ci (a:Nat))(A:Z=ci (b:Nat))(B:U=ci x)(C:Y=.bool cx)(D:Q2=.bool cy)(h:R2=ci ((b-a:Nat):Int))(F:SD w g n c z)(q:Ots g O w)(r:Rng a b xs z)(E:a+12<b)(f:b<=n)(i:n<256)(d:Low a b xs)(o:xs.Nodup)(e:Yz (b-a) g n c)(m:zbS g n c O a b xs N1)(hF:∀S ys,SD S g n c ys->Ots g O S->Rng a b xs ys->Srt ys a b->K (.tuple #[]) S):du K N1 ((fB X1 Z1 Z U Y Q2 R2 zf)) w:=by
 subst v y A B C D h;refine Bn <|ziD F oo f i ?_;intro I p u j k l s;refine bo <|bj <|aT <|Bg ?_;refine P8 (λ_=>?_) (λ_=>?_)
 .refine zkF l f ?_;intro J ys t G H;refine bL oo oo <|bL oo oo <|bL oo oo ?_;rw[show ((b:Int)-1-((p:Int)-(a:Int)))=((b-1-(p-a):Nat):Int)by omega];exact zdL rfl rfl rfl rfl rfl rfl rfl rfl rfl t ((q.trans s).trans (Ots.of_oth G)) (r.trans H) oo oo f d o e m hF
 .exact zdL rfl rfl rfl rfl rfl rfl rfl rfl rfl l (q.trans s) r j k f d o e m hF
def zjB(E:n<256):∀d,Yz d g n c:=by
 intro d
 induction d with
 | zero=>intro a b F z w K h;omega
 | succ d ih =>
  intro a b F xs w K ab hd S hb hn L h;have lx:=hd.len;refine aj (goK func121) (tS ?_);refine sG (Inv:=λx y l X I d=>∃(i j:Nat) (F:Int) (O R:Bool) (z:List Int),x=ci (i:Nat)/\y=ci (j:Nat)/\l=ci F/\X=.bool O/\I=.bool R /\
    a<=i/\i<=j/\j<=b/\SD d g n c z/\Ots g w d/\z.Nodup/\Low i j z/\∀f,Rng i j z f->Srt f i j->Rng a b xs f/\Srt f a b)
   (μ:=λx y l X I _=>(intOf y).toNat-(intOf x).toNat) ⟨a,b,F,true,true,xs,rfl,rfl,rfl,rfl,rfl,Nat.le_refl _,S,Nat.le_refl _,hd,Ots.refl _ _,hn,L,λf Z J=>⟨Z,J⟩⟩ ?_
  rintro _ _ _ _ _ _ w1 m ⟨i,j,F,O,R,z,rfl,rfl,rfl,rfl,rfl,Z,J,h3,o,P,t,A,k⟩ T;have lz:=o.len;refine bL oo oo ?_;rw[YT J];refine iG ?_;by_cases aa:j-i<=12
  .refine ay oo <|zfa o J oo ?_;intro B f q u G N;obtain⟨C,D⟩:=k f G N;exact h _ f q (P.trans (Ots.of_oth u)) C D
  refine ax oo <|aT ?_;refine P8 (λ_=>?_) (λ_=>?_)
  .refine ziY o oo oo t ?_;intro B f q u G N;obtain⟨C,D⟩:=k f G N;exact h _ f q (P.trans (Ots.of_oth u)) C D
  have hF:∀w' f,SD w' g n c f->Ots g w w'->Rng i j z f->Srt f i j->K (.tuple #[]) w':=by
   intro B f q u G N;obtain⟨C,D⟩:=k f G N;exact h _ f q u C D
  have v:Yz (j-i) g n c:=by
   intro W I M z2 B K2 q1 q2 q3 q4 q5 q6 q7;exact ih oo q2 q3 q4 q5 q6 q7
  have hB:zbS g n c w i j z (λp B=>(∃(i j:Nat) (F:Int) (O R:Bool) (z:List Int),gd p 1=ci (i:Nat)/\gd p 2=ci (j:Nat)/\gd p 3=ci F/\gd p 8=.bool O/\gd p 9=.bool R /\
    a<=i/\i<=j/\j<=b/\SD B g n c z/\Ots g w B/\z.Nodup/\Low i j z/\∀f,Rng i j z f->Srt f i j->Rng a b xs f/\Srt f a b)/\(intOf (gd p 2)).toNat-(intOf (gd p 1)).toNat<m):=by
   intro e B W I M U V z2 Y p e3 e8 e9 q u H
   have:=H.ha
   have:=H.hb
   have:=H.lt
   refine⟨⟨W,I,M,U,V,z2,Y,p,e3,e8,e9,by omega,H.le,by omega,q,u,H.rng.perm.nodup_iff.2 t,H.low,λf r s=>?_⟩,?_⟩
   .obtain⟨C,D⟩:=H.fin f r s;exact k f C D
   .rw[Y,p,T];simp only[intOf];omega
  refine bc <|Be ?_;cases O
  .refine aV <|ziu o J oo E ?_;intro B f q u G;exact nL (zbv rfl rfl rfl rfl rfl rfl rfl q (P.trans u) G oo oo E A t v hB hF)
  .exact aA (zbv rfl rfl rfl rfl rfl rfl rfl o P (Rng.refl _ _ _) oo oo E A t v hB hF)
def zhV(e:SD w g n c xs)(b:n<256)(f:xs.Nodup)(h:∀S ys,SD S g n c ys->Ots g w S->ys.Perm xs->Srt ys 0 n->K (.tuple #[]) S):call Q 106 #[.slice (some ⟨g,0,none⟩) n c] K w:=by refine aj (goK func106) (wk ?_);refine zja <|dE underlying3 underlying147 ?_;rw[eJ,show ((n:Nat):Int)%18446744073709551616=(n:Nat)by omega];refine zdr b ?_;intro r p;refine zjB b (n+1) (a:=0) oo e oo oA f (λi k h=>by omega) ?_;intro o ys d j l m;exact h o ys d j l.perm m
end
def zjM{ys:List Int}(g:Srt ys 0 ys.length)(m:ys.Nodup):ys.Pairwise (· < ·):=by
 rw[List.pairwise_iff_getElem];have a:∀d i (h:i+d+1<ys.length),ys[i]'oo<ys[i+d+1]:=by
  intro d
  induction d with
  | zero =>
   intro i h;have f:=g i oo oo;have b:G ys i=ys[i]'oo:=by simp[G,List.getD,show i<ys.length by omega]
   have c:G ys (i+1)=ys[i+1]'oo:=by simp[G,List.getD,show i+1<ys.length by omega]
   rw[b,c]at f;have n:ys[i]'oo≠ys[i+1]'oo:=(List.pairwise_iff_getElem.1 m) i (i+1) oo oo oo;show ys[i]'oo<ys[i+1]'oo;omega
  | succ d ih =>
   intro i h;have f:=ih i oo;have k:=g (i+d+1) oo oo;have b:G ys (i+d+1)=ys[i+d+1]'oo:=by simp[G,List.getD,show i+d+1<ys.length by omega]
   have c:G ys (i+d+1+1)=ys[i+d+1+1]'oo:=by simp[G,List.getD,show i+d+1+1<ys.length by omega]
   rw[b,c]at k;show ys[i]'oo<ys[i+d+1+1]'oo;omega
 intro i j o p l
 have:=a (j-i-1) i oo
 have e:i+(j-i-1)+1=j:=by omega
 simpa[e]using this
section
variable {t tp:Nat}
def zf9{d:oF}(h:K (.tuple #[]) w):call Q 129 #[d,ci 0,ci 0] K w:=by
 refine aj (goK func129) (qs ?_)
 (repeat (first|refine aR oo oo ?_))
 refine py (Inv:=λi b=>i=ci 1/\b=w) (μ:=λi _=>0) ⟨rfl,rfl⟩ ?_;rintro _ _ c m ⟨rfl,rfl⟩ a
 (repeat (first|refine aL ?_|refine aA ?_))
 exact h
def zhU(h:K (.tuple #[]) w):call Q 106 #[.slice none 0 0] K w:=by
 refine aj (goK func106) (wk ?_);refine zja <|dE underlying3 underlying147 ?_;rw[eJ,show ((0:Nat):Int)%18446744073709551616=(0:Nat)by omega];refine zdr (n:=0) oo ?_;intro r e;refine aj (goK func121) (tS ?_);refine sG (Inv:=λa b _ _ _ d=>a=ci 0/\b=ci 0/\d=w) (μ:=λa b _ _ _ _=>0) ⟨rfl,rfl,rfl⟩ ?_;rintro _ _ _ _ _ _ f m ⟨rfl,rfl,rfl⟩ c
 (repeat (first|refine iG ?_|refine bL oo oo ?_|refine aV ?_))
 exact zf9 h
def zfi{v:oF}(h:K (.bool true) w):call Q 90 #[v] K w :=
 aj (goK func90) (OJ h)
def IdR(w:oG)(B:Nat)(a:Option Addr)(c:Nat)(ids:List Int):Prop:=(ids=[]/\a=none/\c=0)\/∃g rest,a=some ⟨g,0,none⟩/\B<=g/\ids.length<=c/\blk w g 36 (ids.map u6++rest)
def zbw(ht:TreeM w t tp T)(hn:T.length<256)(h:∀w' a c (ids:List Int),ids.Perm (T.map (·.1))->ids.Pairwise (· < ·)->IdR w' w.heap.size a c ids->Below w.heap.size w w'->K (.slice a ids.length c) w'):call Q 71 #[pB t] K w:=by
 obtain⟨M,hM,hp⟩:=ht.mp;have al:=ht.lt;refine aj (goK func71) (RQ (aj (goK func89) (QB (We (aA (aq (Eh (lK (v:=.map (some tp)) ht.bt rfl (Ql underlying150 hM ?_)))))))));intro z ae b4 s4;have Z:w.heap.size≠tp:=by omega
 have am:M.length=T.length:=hp.length_eq;refine NT (Inv:=λl A=>∃(done:List Int) (a:Option Addr) (c:Nat),l=.slice a done.length c/\IT u6 u6 A w.heap.size tp M done/\Below w.heap.size w A/\z.heap.size<=A.heap.size /\
   OV A z.heap.size 36 a done.length c (done.map u6))
  (μ:=λl A=>iV A tp w.heap.size) ⟨[],none,0,rfl,ae,b4,Nat.le_refl _,OV.nil _ _ _⟩ ?_
 rintro l _ w5 m ⟨done,a,c,rfl,I,P,an,r⟩ hm;obtain⟨O,n2,n3⟩:=I.nodup;have ak:done.length<=M.length:=by
  have:=wA O n3;simpa using this
 refine PW I Z ?_ ?_
 .intro B;have f:done.Perm (T.map (·.1)):=((List.perm_ext_iff_of_nodup O n2).2 λx=>⟨n3 x,B x⟩).trans (hp.map _);refine sU rfl (aA (NU ?_));rcases r.2 with⟨H,hz⟩|⟨g,ah,R,H,hg,hh,Y,ai,F,G⟩
  .simp only[Value.slice.injEq]at H;obtain⟨rfl,ar,rfl⟩:=H;have V:done=[]:=List.eq_nil_of_length_eq_zero hz;subst V;exact zhU (h w5 none 0 [] f List.Pairwise.nil (.inl ⟨rfl,rfl,rfl⟩) P)
  simp only[Value.slice.injEq]at H;obtain⟨rfl,_,rfl⟩:=H;have ab:SD w5 g done.length c done:=by
   refine⟨R.toList.drop done.length,?_,rfl,Y,by omega⟩;rw[Nat.mul_one]at G;rw[show done.map uv=done.map u6 from rfl, <-G,List.take_append_drop];exact hh
  refine zhV ab oo O ?_;intro w6 ys W L u E;have j:=P.trans (L.below oo oo);have ad:ys.length=done.length:=u.length_eq;have ac:IdR w6 w.heap.size (some ⟨g,0,none⟩) c ys:=by
   obtain⟨N,k1,k2,k3,k4⟩:=W;exact .inr ⟨g,N,rfl,by omega,by omega,k1⟩
  rw[<-ad]at E |-;exact h w6 _ c ys (u.trans f) (zjM E (u.nodup_iff.2 O)) ac j
 .intro x v w6 ap ao J S L X;have j:=aD P L oA;have s6:=L.size;have C:OV w6 z.heap.size 36 a done.length c (done.map u6):=cn r λk p=>L.other k (by have:=(OV.block r k p).1;omega);refine sU rfl (aV (Ph S (bo (bS rfl (zfi (aV ?_))))))
  refine nV (vs:=[u6 x]) underlying187 (s:=1) kr kr oo rfl oB oB oB (by simp[u6,Value.cells]) λw7 o n s7=>?_;have o:blk w7 w6.heap.size 36 [u6 x]:=by simpa[Value.cells,u6]using o
  have D:OV w7 z.heap.size 36 a done.length c (done.map u6):=cn C λk p=>n.block k (OV.block C k p).2;obtain⟨i,hi,hz,F,U⟩:=info_parts (show (Tryz.prog.info? 36).map (λi=>(i.zero,i.size,i.bytes))=some (some (u6 0),1,8)by kernel_rfl)
  refine zaT (base:=z.heap.size) (s:=1) (ys:=[u6 x]) underlying187 hi hz F U rfl oo D o rfl rfl (by simp[u6,Value.oneCell']) oo oo oo ?_;intro a' c' w8 aa d;have b:∀k,k<w6.heap.size->(∀q,(Value.slice a done.length c).ownBlock=some q->q≠k)->w8.heap[k]? = w6.heap[k]? := by
   intro k p y;rw[d.block k oo (λe=>y k e.symm rfl),n.block k p]
  have y:∀q,(Value.slice a done.length c).ownBlock=some q->z.heap.size<=q:=λq e=>(OV.block D q e).1;have ag:=J.lt;have af:IT u6 u6 w8 w.heap.size tp M (done++[x]):=J.kept (b _ oo λq e=>by have:=y q e;omega) (b _ oo λq e=>by have:=y q e;omega)
  have b8:Below w.heap.size w w8:=⟨d.os.trans (n.os.trans j.os),d.tape.trans (n.tape.trans j.tape),d.output.trans (n.output.trans j.output),by have:=d.size;have:=n.size;have:=j.size;omega,λk p=>by
   have:=j.size
   rw[b k oo λq e=>by have:=y q e;omega,j.block k p]⟩
  refine⟨⟨done++[x],a',c',by simp,af,b8,by have:=d.size;have:=n.size;omega,?_⟩,?_⟩
  .rw[jJ,oT];exact aa
  .rw[hm]
   have:iV w8 tp w.heap.size=iV w6 tp w.heap.size:=xd (b _ oo λq e=>by have:=y q e;omega) (b _ oo λq e=>by have:=y q e;omega)
   omega
end
section
variable {B:Nat} {ids:List Int}
def IdR.at(h:IdR w B a c ids)(hi:i<ids.length)(e:K (u6 ids[i]) w):aW Q 187 (.slice a ids.length c) (ci (i:Nat)) (λp=>ld Q 36 p K) w:=by
 rcases h with⟨rfl,_⟩|⟨g,b,rfl,j,f,d⟩
 .simp at hi
 refine fQ underlying187 (s:=1) kf oo oo ?_;rw[oQ,Nat.mul_one,oK];refine lK (v:=u6 ids[i]) d ?_ e;rw[qO (by simpa using hi),qC,gE hi];rfl
def IdR.kept(h:IdR w B a c ids)(j:∀k o,B<=k->w.heap[k]? = some o->S.heap[k]? = w.heap[k]?):IdR S B a c ids:=by
 rcases h with h|⟨g,b,f,d,i,e⟩
 .exact .inl h
 .exact .inr ⟨g,b,f,d,i,by have:=j g _ d e;unfold blk at *; rw[this];exact e⟩
def IdR.below(h:IdR w B a c ids)(b:Below w.heap.size w S):IdR S B a c ids :=
 h.kept λk o _ d=>b.block k (qM.1 d).1
def IdR.own{n:Nat}(h:w.ownsRow B 36 1 (.slice a n c) n (ids.map u6))(q:ids.length=n):IdR w B a c ids:=by
 rcases h.2 with⟨b,r⟩|⟨g,f,e,b,k,l,m,j,o,d⟩
 .simp only[Value.slice.injEq]at b;exact .inl ⟨List.eq_nil_of_length_eq_zero oo,b.1,b.2.2⟩
 .simp only[Value.slice.injEq]at b;obtain⟨i,_,p⟩:=b;refine .inr ⟨g,e.toList.drop n,i,k,by omega,?_⟩;rw[Nat.mul_one]at d;rw[<-d,List.take_append_drop];exact l
def zfE(h:IdR w B a c ids)(u:ids.length<1000000)(l:∀i:Int,(0<=i↔x∈ids)->K (ci i) w):call Q 337 #[.slice a ids.length c,u6 x] K w:=by
 refine aj (goK func337) (DB (bv underlying187 ?_));refine Ct (Inv:=λi r=>∃k:Nat,i=iv (k:Nat)/\r=w/\k<=ids.length/\∀j (f:j<ids.length),j<k->ids[j]≠x) (μ:=mU ids.length) ⟨0,rfl,rfl,qG _,λj _ f=>by omega⟩ ?_;rintro _ s _ m ⟨k,rfl,rfl,o,b⟩ p;refine aL ?_;by_cases d:k<ids.length
 .refine ay oo (h.at d (aT ?_));by_cases g:x=ids[k]
  .exact ay g (l _ ⟨λ_=>g ▸ List.getElem_mem d,λ_=>by omega⟩)
  .refine ax g (aR oo oo ?_);refine⟨⟨k+1,ivS,rfl,d,λj f n=>?_⟩,mD p⟩;by_cases e:j=k
   .subst e;exact λe=>g e.symm
   .exact b j f oo
 .refine ax oo (Cu (l _ ⟨λt=>by omega,λq=>?_⟩));obtain⟨j,f,e⟩:=List.getElem_of_mem q;exact qI e (b j f oo)
def zaI(h:IdR w B a c ids)(e:ids.length<1000000)(d:K (.bool (decide (x∈ids))) w):call Q 326 #[.slice a ids.length c,u6 x] K w:=by refine aj (goK func326) (BZ (zfE h e λi b=>bR ?_));rw[show decide (i≥0)=decide (x∈ids)from decide_eq_decide.2 b];exact d
def zhx(h:∀S,blk S w.heap.size 187 [.slice a ids.length c]->Below w.heap.size w S->S.heap.size=w.heap.size+1->K (.func (.func 336) #[] #[pB w.heap.size]) S):call Q 325 #[.slice a ids.length c] K w:=by refine aj (goK func325) (BY (bu λf d b e=>?_));exact h f (by simpa[Value.cells]using d) b e
def zhy{Y:YB}{l:Nat}(u:Ew Y)(G:ids.length<1000000)(Inv:Nat->oG->Prop)(d:oG->Prop)(s:Inv 0 w)(q:∀j w,Inv j w->blk w b 187 [.slice a ids.length c]/\IdR w B a c ids)(C:∀j k x w K,k+j+1=ids.length->ids[k]? = some x->Inv j w->(∀S,Inv (j+1) S->K (.bool true) S)->(∀S,d S->K (.bool false) S)->Y [iv (k:Nat),u6 x] K w)(y:∀S,Inv ids.length S->K (.tuple #[]) S)(A:∀S,d S->K (.tuple #[]) S):Fx Q Y l 336 [.func (.yield l) #[] #[],pB b] w K:=by
 refine AE (lK (v:=.slice a ids.length c) (q 0 w s).1 rfl (bv underlying187 (bL oo oo ?_)));refine zj u (Inv:=λi D=>∃j:Nat,i=ci ((ids.length:Int)-1-(j:Nat))/\j<=ids.length/\Inv j D) (μ:=λi _=>(intOf i+1).toNat) ⟨0,by simp,qG _,s⟩ ?_;rintro _ E n m ⟨j,rfl,F,h⟩ g;refine bR ?_;by_cases p:j<ids.length
 .obtain⟨k,z⟩:∃k:Nat,k+j+1=ids.length:=⟨ids.length-j-1,by omega⟩
  have t:(ids.length:Int)-1-(j:Nat)=(k:Nat):=by omega
  rw[t]at g |-;have f:k<ids.length:=by omega
  refine ay oo (lK (v:=.slice a ids.length c) (q j n h).1 rfl ((q j n h).2.at f ?_));refine .inl ⟨rfl,C j k ids[k] n _ z (gE f) h (λS o => bc (aA (bL oo oo ?_))) (λS r => bc (aV (A S r)))⟩;refine⟨⟨j+1,qH (Value.int .i64) (by push_cast;omega),p,o⟩,by rw[g];show ((k:Int)-1+1).toNat<((k:Int)+1).toNat;omega⟩
 .have e:j=ids.length:=by omega
  subst e;exact ax oo (y n h)
end
def HD{V:List Int}(a:V.length=6):jc Q 3 38 (vCs V)=true:=by
 obtain⟨_,_,_,_,_,_,rfl⟩:=zad a
 kernel_rfl
def zi8{B:List Int}(I:A.length=6)(T:B.length=6)(L:blk w b 38 (vCs A++vCs B))(h:nX w (K (.agg (vCs (jV A B)).toArray))):call Q 127 #[.slice (some ⟨b,0,none⟩) 2 2,.func (.func 128) #[] #[]] K w:=by
 have lA:=bh (V:=A);have lB:=bh (V:=B);refine aj (goK func127) (Xm ?_);refine bu λW D S s1=>?_;have D:=cZ D
 have d:=ae S L L.lt;refine Jj λw2 U F s2=>?_;have c:=ae F d d.lt;have e:=ae F D D.lt;refine bv underlying252 (aT (ax dc ?_))
 refine fQ underlying252 (s:=6) kf dc dc <|ldA (n:=6) (vs:=vCs A) underlying38 rfl kr c (by show ((vCs A++vCs B).drop 0).take 6=_;rw[oX,qJ oo,tL oo]) oo ?_;refine Jj λw3 ho y s3=>?_;have O:=ae y U U.lt;refine Fw rfl I ho λw4 l u=>?_
 have X:=aD ((S.trans (F.mono oo)).trans (y.mono oo)) u oo;have M:=u.blk (ae y c c.lt) (by have:=L.lt;omega);have f:=u.blk (ae y e e.lt) oo;have o:=u.blk O oo;have s4:=u.size
 refine Yx (q:=1) (s:=6) underlying252 kf oo oo <|bv underlying252 <|U9 (Inv:=λi E=>(i=ci 0/\E=w4)\/(i=ci 1/\Below w.heap.size w E/\blk E w2.heap.size 38 (vCs (jV A B))/\blk E W.heap.size 38 (vCs [0,0,0,0,0,0]))) (μ:=λi _=>6-(intOf i).toNat) (.inl ⟨rfl,rfl⟩) ?_;rintro _ dd w5 m hI hm;rcases hI with⟨rfl,rfl⟩|⟨rfl,Y,N,P⟩
 .refine aL (ay dc ?_);refine fQ underlying252 (s:=6) kf dc dc <|ldA (n:=6) (vs:=vCs B) underlying38 rfl kr M (by show ((vCs A++vCs B).drop 6).take 6=_;rw[List.drop_append_of_le_length oo,oS oo,oV,tL oo]) oo ?_;refine Jj λw6 hv z s6=>?_
  refine Fw rfl T hv λw7 r x=>?_;have a:=x.blk (ae z l l.lt) oo;have g:=x.blk (ae z f f.lt) oo;have p:=x.blk (ae z o o.lt) oo;have Z:=aD (X.trans (z.mono oo)) x oo;have s7:=x.size
  refine Xg (G:=jV A B) th (λk b c H d J => bS rfl (zh3 I T b (ae H g g.lt) (ae H a a.lt) (ae H r r.lt) (J _ ⟨rfl,rfl,rfl,Nat.le_refl _,λ_ _=>rfl⟩))) λw9 C=>?_;refine Fw I th (ae C a a.lt) λaa j t=>aR dc dc ?_
  have:=C.size
  refine⟨.inr ⟨rfl,aD (Z.trans (C.mono oo)) t oo,j,t.blk (ae C p p.lt) oo⟩,by rw[hm];decide⟩
 .refine aL (ax dc (Ua ?_));refine tQ th N (Fw rfl th P λw6 R o6=>?_);exact uT (v:=.agg (vCs (jV A B)).toArray) (λ_=>tQ th R) (h _ (aD Y o6 oo))
def zbO{B:List Int}(g:A.length=6)(i:B.length=6)(e:blk w b 38 (vCs A++vCs B))(h:nX w (K (.agg (vCs (jV A B)).toArray))):call Q 119 #[.slice (some ⟨b,0,none⟩) 2 2] K w:=by refine aj (goK func119) (Xh ?_);exact Jj λl f c k=>zi8 g i (ae c e e.lt) λm d=>Fw rfl th (ae d f f.lt) λn a j=>uT (v:=.agg (vCs (jV A B)).toArray) (λ_=>tQ th a) (h _ (aD (c.trans (d.mono oo)) j oo))
def zbP{B:List Int}(g:A.length=6)(a:B.length=6)(h:nX w (K (.bool (leV A B)))):call Q 99 #[.agg (vCs A).toArray,.agg (vCs B).toArray] K w:=by
 refine aj (goK func99) (Xi ?_);refine zq g λD t C F=>zq a λz l o G=>?_;have b:=ae o t t.lt;refine aw (λx=>blk x w.heap.size 38 (vCs A)/\blk x D.heap.size 38 (vCs B)) ⟨b.drew,l.drew⟩ <|ac (λx i _=>tQ g i.1) <|ac (λx i _=>tQ a i.2) <|ac (λx i _=>tQ a i.2) ?_
 refine nV [.agg (vCs A).toArray,.agg (vCs B).toArray] underlying252 (s:=6) kr kr oo rfl oB dc rfl (by
  intro v y;simp only[oO,oR,or_false]at y;rcases y with rfl|rfl
  .have:=qH List.length (si g);rw[bh,g]at this;simpa using this
  .have:=qH List.length (si a);rw[bh,a]at this;simpa using this) λE n j H=>?_
 have n:blk E z.drew.heap.size 38 (vCs A++vCs B):=by
  have e:([Value.agg (vCs A).toArray,.agg (vCs B).toArray].flatMap λv=>v.cells.toList)=vCs A++vCs B:=by
   simp only[jI,List.flatMap_nil,oW,si g,si a]
  rwa[e]at n
 have d:=ae j b b.lt;have c:=ae j l l.lt;refine aB ⟨d,c⟩ ?_;refine zbO g a n λI k=>?_;refine aB ⟨ae k d d.lt,ae k c c.lt⟩ ?_;refine ac (v:=.bool (leV A B)) (λx i K f=>QF 3 oo kr kr (HD th) (HD a) λr u=>by
  have:r=leV A B:=by rw[zbM,zks a]at u;exact Bool.eq_iff_iff.2 u
  rw[this];exact f) ?_
 have p:=(C.trans (o.mono oo)).drew;have m:=p.size;have q:=p.trans (j.mono m);exact h _ (tB q k)
theorem EV.V_len{e:EV}:e.V.length=6:=rfl
def zgZ{e:EV}(a:blk w b 54 (evC e))(h:K (.agg (vCs e.V).toArray) w):ld Q 38 (pA b 2) K w :=
 ldA (n:=6) (vs:=vCs e.V) underlying38 rfl kr a rfl rfl h
def By{e:EV}(h:∀S,blk S w.heap.size 54 (evC e)->Below w.heap.size w S->S.heap.size=w.heap.size+1->K (pA w.heap.size 0) S):box Q 54 (.agg (evC e).toArray) K w :=
 bu λS a b s=>h S (by simpa[Value.cells]using a) b s
def dh{e:EV}(a:blk w b 54 (evC e))(h:K (.agg (evC e).toArray) w):ld Q 54 (pA b 0) K w :=
 ldA (n:=14) (vs:=evC e) underlying54 rfl kr a rfl rfl h
def R8{V:List Int}{e:EV}(i:V.length=6)(h:nX w (K (.bool (vC V e)))):call Q 87 #[.agg (vCs V).toArray,.agg (evC e).toArray] K w:=by
 refine aj (goK func87) (Yj ?_);refine zq i λy l m q=>By λz g k r=>?_;have a:=ae k l l.lt;refine dh g (Fg λA c=>?_);have f:=ae c a a.lt;have b:=ae c g g.lt;have d:=(m.trans (k.mono oo)).trans (c.mono oo);cases j:co e with
 | false =>
  refine kj (bZ ?_)
  have:=h _ d
  unfold vC at this;rwa[j,jA]at this
 | true =>
  refine kN (tQ i f (dO (lK (v:=iv e.o) b rfl (nB (lK (v:=u6 e.s) b rfl (zjU i λt n=>cA ?_))))))
  have:=h _ (tB d n)
  obtain⟨u,x,q,r⟩:=fZ j;unfold vC at this;rw[j,qZ]at this;have p:bB e.o=true:=by unfold bB;simp;omega
  show K (Value.bool (bB e.o&&(decide (e.s>0)&&decide (V.getD (e.o-1).toNat 0≥e.s)))) t;rwa[p,qZ,show decide (e.s>0)=true from qF oo,qZ]
def Tx{V:List Int}{e:EV}(i:V.length=6)(E:∀k,k<6->0<=V.getD k 0)(h:nX w (K (.bool (fS V e)))):call Q 88 #[.agg (vCs V).toArray,.agg (evC e).toArray] K w:=by
 refine aj (goK func88) (WO ?_);refine zq i λu c y H=>By λD f q I=>?_;have d:=(ae q c c.lt).drew;have f:=f.drew;have t:=(y.trans (q.mono oo)).drew;refine aw (λx=>blk x u.heap.size 54 (evC e)) f <|ac (λx b _=>dh b) ?_;refine Fg λJ j=>?_;have l:=ae j d d.lt;have m:=ae j f f.lt;have g:=tB t j
 refine aw (λx=>blk x w.heap.size 38 (vCs V)/\blk x u.heap.size 54 (evC e)) ⟨l,m⟩ ?_;have p:asB (.bool false)≠some true:=by simp[asB]
 cases n:co e with
 | false =>
  have:=h _ g
  unfold fS at this;rw[n,jA]at this
  iterate 9 refine xN p ?_
  refine ac (λx b _=>bZ) ?_
  iterate 3 refine xN p ?_
  refine xGn p ?_;exact hRT (ac (λx b _=>bZ) this)
 | true =>
  obtain⟨F,G,B,C⟩:=fZ n;obtain⟨k,A⟩:∃k:Nat,k=(e.o-1).toNat:=⟨_,rfl⟩
  have r:fS V e=(decide (V.getD k 0=e.s-1)&&leV e.V V):=by
   unfold fS leV;rw[n,qZ, <-A]
   congr 1
   exact decide_eq_decide.2 oo
  refine jh rfl (λx b _=>dO) <|jh rfl (λx b _=>lK (v:=iv e.o) b.2 rfl) <|jh (x:=iv (k:Nat)) rfl (λx b K a=>nL (by rw[fM oo oo,show (e.o-1)=(k:Nat)by omega];exact a)) <|jh rfl (λx b _=>ixV rfl oo) <|jh (x:=u6 (V.getD k 0)) rfl (λx b _=>lK b.1 (by rw[oK];exact Cs i oo)) <|jh rfl (λx b _=>nB) <|jh rfl (λx b _=>lK (v:=u6 e.s) b.2 rfl) <|jh (x:=u6 (e.s-1)) rfl (λx b K a=>nL (by rw[eJ,show (e.s-1)%18446744073709551616=e.s-1 by omega];exact a)) <|jh rfl (λx b _=>aT) <|ac (λx b _=>cA) ?_
  by_cases c:V.getD k 0=e.s-1
  .refine jh (Yt c) (λx b _=>BN) <|jh (Yt c) (λx b _=>zgZ b.2) <|jh (Yt c) (λx b _=>tQ i b.1) ?_;refine Xp (Yt c) (zbP EV.V_len i λL z=>?_)
   have:=h _ (tB g z)
   rw[r,qF c,qZ]at this;exact hRT (ac (λx b _=>bI c) this)
  .have:=h _ g
   rw[r,qE c,jA]at this
   iterate 3 refine xN (zg3 c) ?_
   exact xGn (zg3 c) (hRT (ac (λx b _=>bw c) this))
end
end Go.Proofs.YtpaghmnnhedccaaGreatDoor
