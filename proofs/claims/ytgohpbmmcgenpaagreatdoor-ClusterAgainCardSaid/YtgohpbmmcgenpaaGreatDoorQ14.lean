import Derived.Test.YtgohpbmmcgenpaaGreatDoorQ13
import Derived.Test.YtgohpbmmcgenpaaGreatDoorQ2
import Derived.Test.YtgohpbmmcgenpaaGreatDoorQ11
import Derived.Deep.DeepAppendRoom
namespace Go.Proofs.YtgohpbmmcgenpaaGreatDoor
set_option maxRecDepth 100000
set_option linter.defProp false
set_option maxHeartbeats 4000000
open Go.Proofs.Tryz
open Go.RowKit
variable {w w' w2 S O:oG}{zf:Nat->oF}{b c o i g m s j z f d c2 D pc ba hi np:Nat}{a av:Option Addr}{x v r N fu:Int}{E t e:TypeId}{A:List Int}{xs ys vs:oE}{P:Program}{cx cy:Bool}{T:List (Int×Int)}{K0:Array Bool}{V0:KV}{Z1 N2 O2 H Z U Y J C:oF}
section
open Go.ChangeMaps
def noBy.app{F G:List Nat}(h:noBy w F)(g:noBy w G):noBy w (F++G):=λk E a c b d=>(oU.1 d).elim (h k E a c b) (g k E a c b)
def Pr{B n k:Nat}{v:oF}(h:w.ownsRow B E s v n xs)(a:v.ownBlock=some k):∃cs,blk w k E cs:=(Ho h a).1
def rwB(a:Option Addr):List Nat:=match a with|some a=>[a.block]|none=>[]
def LJ{n k:Nat}(h:k∈rwB a){B:Nat}(f:w.ownsRow B E s (.slice a n c) m xs):(Value.slice a n c).ownBlock=some k:=by
 rcases f.2 with⟨b,_⟩|⟨g,d,e,b,_⟩
 .simp only[Value.slice.injEq]at b;rw[b.1]at h;cases h
 .simp only[Value.slice.injEq]at b;rw[b.1]at h |-;rw[mS h];rfl
def Eb{n k:Nat}(h:(Value.slice a n c).ownBlock=some k):k∈rwB a:=by
 cases a with
 | none=>cases h
 | some a =>
  simp only[Value.ownBlock,qD]at h;rw[<-h];exact List.mem_singleton.2 rfl
structure NM(w:oG) (T:Nat->Int) (p:Nat) (ra:Option Addr) (rc:Nat) (M:List MGT) (cut:List Bool):Prop where
 b:blk w p 86 (.slice ra M.length rc::cut.map .bool)
 row:w.ownsRow 0 268 12 (.slice ra M.length rc) M.length (M.flatMap tmC)
 ms:∀x∈M,MsP T x.1/\TMk 0 w x/\(x.1.k=2->x.2=(none,0))
 few:M.length<=128
 cut:cut.length=36
section
variable  {n:Nat}{T T':Nat->Int}{x:SX}{F:List Nat}{p:Nat}{ra:Option Addr}{rc:Nat}{M:List MGT}{cut:List Bool}
def SxM.ty(h:SxM w n i T x){k:Nat}{cs:oE}(c:blk w k E cs)(l:E∉[141,145,200,151,278,92,129,105]):k∉x.F:=by
 simp only[oO,oR,or_false,not_or]at l;obtain⟨o,t,v,y,z,g,B,j⟩:=l;cases x with
 | up Y s fu =>
  intro a;obtain⟨m,e⟩:=h.1.jk.1.blk;rcases rH.1 a with a|a
  .exact h.1.rp.ty c (by simp[o,t,v,y,z]) a
  .simp only[oO,oR,or_false]at a;rcases a with a|a|a
   .exact c.ne e g a
   .exact c.ne h.1.jk.2 B a
   .exact c.ne h.1.b j a
 | dn p u A L =>
  intro a;obtain⟨_,f⟩:=h.1.dk;obtain⟨m,e⟩:=f.blk;obtain⟨r,q,d,C⟩:=h.1.b;rcases oO.1 a with a|a
  .exact c.ne e g a
  .exact c.ne C j (mS a)
def NM.rwt(h:NM w T p ra rc M cut){k:Nat}(a:k∈rwB ra):∃cs,blk w k 268 cs:=Pr h.row (LJ a h.row)
def NM.lt(h:NM w T p ra rc M cut):∀k∈p::rwB ra,k<w.heap.size:=λk a=>by
 rcases oO.1 a with rfl|a
 .exact h.b.lt
 .obtain⟨cs,c⟩:=h.rwt a;exact c.lt
def TMk.kpA{B:Nat}{x:MGT}(h:TMk B w x)(c:∀b o,x.2.1=some ⟨b,o,none⟩->S.heap[b]? = w.heap[b]?):TMk B S x :=
 ⟨h.vr.kp c,λb o a=>by
  obtain⟨e,d,f⟩:=h.ev b o a;exact⟨e,d,f.kp (c b o a)⟩⟩
def NM.chN(h:NM w T p ra rc M cut)(c:Ch F w S)(d:∀k∈p::rwB ra,k∉F)(g:∀x∈M,∀b o,x.2.1=some ⟨b,o,none⟩->b∉F)(i:∀q,T q<=T' q):NM S T' p ra rc M cut :=
 ⟨h.b.ch c (d _ oL),dl h.row λk f=>c.block k (h.lt k (oH _ (Eb f))) (d k (oH _ (Eb f))),
  λx a=>⟨(h.ms x a).1.mono i,(h.ms x a).2.1.kpA λk o e=>by
   obtain⟨_,l,j⟩:=(h.ms x a).2.1.ev k o e;exact c.block k j.lt (g x a k o e),(h.ms x a).2.2⟩,h.few,h.cut⟩
def NM.ch(h:NM w T p ra rc M cut)(i:Ch F w S)(d:∀k E cs,blk w k E cs->E∈[86,268,49]->k∉F)(f:∀q,T q<=T' q):NM S T' p ra rc M cut :=
 h.chN i (λk c=>(oO.1 c).elim (λe=>e ▸ d _ _ _ h.b dc) λc=>by obtain⟨cs,a⟩:=h.rwt c;exact d _ _ _ a dc) (λx j k o g=>by obtain⟨_,cs,a⟩:=(h.ms x j).2.1.ev k o g;exact d _ _ _ a dc) f
def NM.below(h:NM w T p ra rc M cut)(a:Below w.heap.size w S):NM S T p ra rc M cut:=h.ch (F:=[]) (Ch.of_below a) (λ_ _ _ _ _=>by simp) λ_=>Int.le_refl _
def NM.noBy(h:NM w T p ra rc M cut):Go.Proofs.YtgohpbmmcgenpaaGreatDoor.noBy w (p::rwB ra):=λk E g d c a=>by
 rcases oO.1 a with e|a
 .exact d.ne h.b (λe=>by subst e;revert c;decide) e
 .obtain⟨i,f⟩:=h.rwt a;exact d.ne f (λe=>by subst e;revert c;decide) rfl
end
def doingsV:oE:=[.nilFunc,.bool false,.func (.func 161) #[] #[],.bool false,.func (.func 162) #[] #[],.bool false,.func (.func 163) #[] #[],.bool true,.func (.func 164) #[] #[],.bool true,.func (.func 165) #[] #[],.bool true,.func (.func 166) #[] #[],.bool true,.func (.func 167) #[] #[],.bool false,.func (.func 168) #[] #[],.bool true,.func (.func 169) #[] #[],.bool false,.func (.func 170) #[] #[],.bool false,.func (.func 171) #[] #[],.bool false,.func (.func 172) #[] #[],.bool false]
def GT:List Nat:=[1,0]
structure GD(w:oG):Prop where
 kd:KD w
 cd:∃E fr,w.heap[0]? = some (.cells doingsV.toArray E fr)
def GD.lt(h:GD w):∀g∈GT,g<w.heap.size:=by
 obtain⟨E,c,b⟩:=h.cd
 have:=(qM.1 b).1
 intro g a;simp only[GT,oO,oR,or_false]at a;rcases a with rfl|rfl
 .exact h.kd.lt
 .exact this
def GD.keep(h:GD w)(a:∀g∈GT,S.heap[g]? = w.heap[g]?):GD S :=
 ⟨h.kd.keep (a _ (by simp[GT])),by obtain⟨E,b,c⟩:=h.cd;exact⟨E,b,(a _ (by simp[GT])).trans c⟩⟩
def GD.ch{F:List Nat}(h:GD w)(b:Ch F w S)(hF:∀g∈GT,g∉F):GD S:=h.keep λg a=>b.block g (h.lt g a) (hF g a)
def GD.below(h:GD w)(a:Below w.heap.size w S):GD S:=h.keep λg b=>a.block g (h.lt g b)
structure CX where
 p:Nat
 np:Nat
 X:Nat->SX
 T:Nat->Int
 M:List MGT
 ra:Option Addr
 rc:Nat
 cut:List Bool
 now:Int
def eR(X:Nat->SX)(i:Nat)(x:SX):Nat->SX:=λj=>if j=i then x else X j
def updX_eq{X:Nat->SX}{x:SX}:eR X i x i=x:=oJ rfl
def zh1{X:Nat->SX}{x:SX}(h:j≠i):eR X i x j=X j:=oI h
def uh(x:SX):oE:=[ptr x.p,pB x.u]
def mj(n np:Nat)(X:Nat->SX)(a:Int):oE:=iv (n:Nat)::(((List.range 6).flatMap λk=>uh (X k))++[pB np,u6 a])
structure CM(w:oG) (B0 n b:Nat) (Z:List Nat) (c:CX):Prop where
 cb:blk w c.p 72 (mj n c.np c.X c.now)
 nm:NM w c.T c.np c.ra c.rc c.M c.cut
 st:∀i,i<6->SxM w n i c.T (c.X i)
 sep:∀i j,i<6->j<6->i≠j->∀k∈(c.X i).B,k∉(c.X j).F
 dis:∀i,i<6->∀k∈(c.X i).B,k≠c.p/\k∉c.np::rwB c.ra
 lp:∀k∈c.p::c.np::rwB c.ra,B0<=k
 lo:∀i,i<6->∀k∈(c.X i).F,B0<=k
 gt:∀g∈GT,g<B0
 kd:GD w
 own:∀t∈Z,t<w.heap.size/\B0<=t/\t≠c.p/\t∉c.np::rwB c.ra/\∀i,i<6->t∉(c.X i).B
 n1:1<=n
 n6:n<=6
 now:0<=c.now/\c.now<=1099511627776
 sz:∀i,i<6->(c.X i).n<=b
 r0:0<c.T 6
structure CS(w w':oG) (B0:Nat) (Z:List Nat):Prop where
 bel:Below B0 w w'
 z:∀t∈Z,w'.heap[t]? = w.heap[t]?
section
variable  {B0 n b' t:Nat}{Z Z':List Nat}{c:CX}{T':Nat->Int}{x':SX}{F:List Nat}
def CS.trans(h:CS w S B0 Z)(k:CS S O B0 Z):CS w O B0 Z:=⟨h.bel.trans k.bel,λt a=>(k.z t a).trans (h.z t a)⟩
def CS.blk(h:CS w S B0 Z)(b:t∈Z){cs:oE}(a:blk w t E cs):Go.Proofs.YtgohpbmmcgenpaaGreatDoor.blk S t E cs:=by unfold Go.Proofs.YtgohpbmmcgenpaaGreatDoor.blk at *;rw[h.z t b];exact a
def CS.sub(h:CS w S B0 Z)(b:∀t∈Z',t∈Z):CS w S B0 Z':=⟨h.bel,λt a=>h.z t (b t a)⟩
def CM.b0(h:CM w B0 n b Z c):B0<=w.heap.size:=qR (h.lp c.p oL) (Nat.le_of_lt h.cb.lt)
def CM.cs(h:CM w B0 n b Z c)(a:Ch F w S)(hF:∀k∈F,B0<=k/\k∉Z):CS w S B0 Z:=⟨a.below (λk e=>(hF k e).1) h.b0,λt d=>a.block t (h.own t d).1 λf=>(hF t f).2 d⟩
def CM.csx(h:CM w B0 n b Z c)(hi:i<6)(e:Ch ((c.X i).F++[c.p]) w S):CS w S B0 Z:=h.cs e λk a=>by
 rcases oU.1 a with a|a
 .exact⟨h.lo i hi k a,λd=>(h.own k d).2.2.2.2 i hi (SX.FB k a)⟩
 .rw[mS a];exact⟨h.lp _ oL,λd=>(h.own _ d).2.2.1 rfl⟩
def CM.csn(h:CM w B0 n b Z c)(d:Ch (c.np::rwB c.ra) w S):CS w S B0 Z:=h.cs d λk a=>⟨h.lp k (oH _ a),λe=>(h.own k e).2.2.2.1 a⟩
def CM.csb(h:CM w B0 n b Z c)(a:Below w.heap.size w S):CS w S B0 Z:=⟨a.mono h.b0,λt d=>a.block t (h.own t d).1⟩
def CM.site'(h:CM w B0 n b Z c)(hi:i<6)(D:blk w' c.p 72 (mj n c.np (eR c.X i x') c.now))(R:SxM w' n i T' x')(A:∀q,c.T q<=T' q)(C:∀q,q≠i->q<6->T' q=c.T q)(y:Ch ((c.X i).F++[c.p]) w w')(hF:∀k∈x'.F,k∈(c.X i).F\/w.heap.size<=k)(z:∀k∈x'.B,k∈GT\/k∈(c.X i).B\/w.heap.size<=k)(J:b<=b')(N:x'.n<=b'):CM w' B0 n b' Z {c with X:=eR c.X i x',T:=T'}:=by
 have Y:=h.kd.lt;have L:=h.b0;have O:=y.size;have G:noBy w ((c.X i).F++[c.p]):=(h.st i hi).noBy.app (noBy.of h.cb dc);have s:∀{j},j=i->eR c.X i x' j=x':=λe=>oJ e;have r:∀{j},j≠i->eR c.X i x' j=c.X j:=λe=>oI e
 refine⟨D,h.nm.ch y (λk E W l v f=>?_) A,λj m=>?_,λa j x m o k l=>?_,λj m k l=>?_,h.lp,λj m k l=>?_,h.gt,h.kd.ch y λg M f=>?_,λt P=>?_,h.n1,h.n6,h.now,λj m=>?_,Int.lt_of_lt_of_le h.r0 (A 6)⟩
 .rcases oU.1 f with f|f
  .exact(h.st i hi).ty l (by simp only[oO,oR,or_false]at v;rcases v with rfl|rfl|rfl<;>decide) f
  .exact l.ne h.cb (by simp only[oO,oR,or_false]at v;rcases v with rfl|rfl|rfl<;>decide) (mS f)
 .show SxM w' n j T' (eR c.X i x' j);by_cases d:j=i
  .rw[s d,d];exact R
  .rw[r d];refine((h.st j m).ch y G λk l f=>?_).mono A (C j d m);rcases oU.1 f with f|f
   .exact h.sep j i m hi d k l f
   .exact(h.dis j m k l).1 (mS f)
 .replace l:k∈(eR c.X i x' a).B:=l
  show k∉(eR c.X i x' j).F;by_cases u:a=i
  .subst u;rw[s rfl]at l;rw[r λe=>o e.symm];rcases z k l with l|l|l
   .exact λf=>by have:=h.lo j m k f;have:=h.gt k l;omega
   .exact h.sep a j x m o k l
   .exact λf=>by have:=(h.st j m).lt k (SX.FB k f);omega
  .rw[r u]at l;by_cases d:j=i
   .rw[s d];subst d;exact λf=>(hF k f).elim (h.sep a j x m o k l) λf=>by have:=(h.st a x).lt k l;omega
   .rw[r d];exact h.sep a j x m o k l
 .replace l:k∈(eR c.X i x' j).B:=l
  show k≠c.p/\k∉c.np::rwB c.ra;by_cases d:j=i
  .rw[s d]at l;rcases z k l with l|l|l
   .have H:=h.gt k l;exact⟨λe=>by have:=h.lp c.p oL;omega,λf=>by have:=h.lp k (oH _ f);omega⟩
   .exact h.dis i hi k l
   .exact⟨λe=>by have:=h.cb.lt;omega,λf=>by have:=h.nm.lt k f;omega⟩
  .rw[r d]at l;exact h.dis j m k l
 .replace l:k∈(eR c.X i x' j).F:=l
  by_cases d:j=i
  .rw[s d]at l;exact(hF k l).elim (h.lo i hi k) λf=>by omega
  .rw[r d]at l;exact h.lo j m k l
 .have H:=h.gt g M;rcases oU.1 f with f|f
  .have:=h.lo i hi g f;omega
  .have:=h.lp c.p oL
   rw[mS f]at H;omega
 .obtain⟨t1,S,U,V,I⟩:=h.own t P;refine⟨by omega,S,U,V,λj m f=>?_⟩
  replace f:t∈(eR c.X i x' j).B:=f
  by_cases d:j=i
  .rw[s d]at f;rcases z t f with f|f|f
   .have:=h.gt t f;omega
   .exact I i hi f
   .omega
  .rw[r d]at f;exact I j m f
 .show (eR c.X i x' j).n<=b';by_cases d:j=i
  .rw[s d];exact N
  .rw[r d];exact qR (h.sz j m) J
theorem zdE {X:Nat->SX}{now:Int}(h:x'.p=(X i).p)(j:x'.u=(X i).u):mj n np (eR X i x') now=mj n np X now:=by
 have:∀k,uh (eR X i x' k)=uh (X k):=λk=>by
  unfold eR;split
  .rename_i e;subst e;unfold uh;rw[h,j]
  .rfl
 unfold mj;simp only[this]
def CM.site(h:CM w B0 n b Z c)(hi:i<6)(s:SxM S n i T' x')(j:∀q,c.T q<=T' q)(d:∀q,q≠i->q<6->T' q=c.T q)(f:Ch (c.X i).F w S)(hF:∀k∈x'.F,k∈(c.X i).F\/w.heap.size<=k)(g:∀k∈x'.B,k∈(c.X i).B\/w.heap.size<=k)(o:x'.p=(c.X i).p)(r:x'.u=(c.X i).u)(l:b<=b')(m:x'.n<=b'):CM S B0 n b' Z {c with X:=eR c.X i x',T:=T'}/\CS w S B0 Z :=
 have a:=f.mono λk e=>List.mem_append_left [c.p] e
 ⟨h.site' hi (by rw[zdE o r];exact h.cb.ch f ((h.st i hi).ty h.cb dc)) s j d a hF (λk e=>.inr (g k e)) l m,h.csx hi a⟩
def CM.le(h:CM w B0 n b Z c)(a:b<=b'):CM w B0 n b' Z c:={h with sz:=λi d=>qR (h.sz i d) a}
def CM.sub(h:CM w B0 n b Z c)(d:∀t∈Z',t∈Z):CM w B0 n b Z' c:={h with own:=λt a=>h.own t (d t a)}
def CM.req{R:Int}(h:CM w B0 n b Z c)(f:c.T 6<=R):CM w B0 n b Z {c with T:=λq=>if q=6 then R else c.T q} :=
 have a:∀q,c.T q<=if q=6 then R else c.T q:=λq=>by split;(rename_i e;rw[e];exact f);exact Int.le_refl _
 {h with nm:=⟨h.nm.b,h.nm.row,λx d=>⟨(h.nm.ms x d).1.mono a,(h.nm.ms x d).2⟩,h.nm.few,h.nm.cut⟩,st:=λi g=>(h.st i g).mono a (oI oo),r0:=Int.lt_of_lt_of_le h.r0 (a 6)}
def CM.below(h:CM w B0 n b Z c)(a:Below w.heap.size w S):CM S B0 n b Z c :=
 {h with cb:=ae a h.cb h.cb.lt,nm:=h.nm.below a,st:=λi e=>(h.st i e).below a,kd:=h.kd.below a,own:=λt d=>⟨qQ (h.own t d).1 a.size,(h.own t d).2⟩}
def CM.new(h:CM w B0 n b Z c)(d:Below w.heap.size w S)(k:w.heap.size<=t)(f:t<S.heap.size):CM S B0 n b (t::Z) c :=
 {h.below d with own:=λx j=>(oO.1 j).elim (λe=>by
   subst e
   have:=h.b0
   exact⟨f,by omega,λe=>by have:=h.cb.lt;omega,λa=>by have:=h.nm.lt x a;omega,λi g a=>by have:=(h.st i g).lt x a;omega⟩) ((h.below d).own x)}
def CM.othE(h:CM w B0 n b Z c)(o:Oth t w S)(v:t∈Z){cs:oE}(r:blk w t E cs)(p:E∉[5,3,165])(l:∀x∈c.M,∀b o,x.2.1=some ⟨b,o,none⟩->b≠t):CM S B0 n b Z c:=by
 obtain⟨B,C,y,z,A⟩:=h.own t v;have f:Ch [t] w S:=Ch.of_oth o (List.mem_singleton.2 rfl);have d:∀{k:Nat},k≠t->k∉[t]:=λa u=>a (mS u);exact {h with
  cb:=h.cb.ch f (d λe=>y e.symm)
  nm:=h.nm.chN f (λk a=>d λe=>z (e ▸ a)) (λx j k o q=>d (l x j k o q)) λ_=>Int.le_refl _
  st:=λi m=>(h.st i m).ch f (noBy.of r p) λk a=>d λe=>A i m (e ▸ a)
  kd:=h.kd.ch f λg s=>d λe=>by have:=h.gt g s;omega
  own:=λx j=>⟨by rw[o.size];exact(h.own x j).1,(h.own x j).2⟩}
def CM.oth(h:CM w B0 n b Z c)(o:Oth t w S)(i:t∈Z){cs:oE}(d:blk w t E cs)(a:E∉[5,3,165]/\E≠49):CM S B0 n b Z c :=
 h.othE o i d a.1 λx j k o f=>by
  obtain⟨_,cs,g⟩:=(h.nm.ms x j).2.1.ev k o f;exact g.ne d λe=>a.2 e.symm
theorem CM.net {ra : Option Addr} {rc : Nat} {M : List MGT} {cut : List Bool} (h : CM w B0 n b Z c) (hn : NM w' c.T c.np ra rc M cut) (hc : Ch (c.np :: rwB c.ra) w w') (hr : ∀ k ∈ rwB ra, k ∈ rwB c.ra ∨ w.heap.size ≤ k) : CM w' B0 n b Z { c with M := M, ra := ra, rc := rc, cut := cut } ∧ CS w w' B0 Z := by
  have h0 := h.kd.lt
  have hb0 := h.b0
  have hsz := hc.size
  refine ⟨{ h with cb := h.cb.ch hc fun hm => ?_, nm := hn, st := fun i hi => (h.st i hi).ch hc h.nm.noBy fun k hk => (h.dis i hi k hk).2, dis := fun i hi k hk => ⟨(h.dis i hi k hk).1, fun hm => ?_⟩, lp := fun k hm => ?_, kd := h.kd.ch hc fun g hg hm => ?_, own := fun t ht => ?_ }, h.csn hc⟩
  · rcases List.mem_cons.1 hm with e | hm
    · exact h.cb.ne h.nm.b (by decide) e
    · obtain ⟨ds, hd⟩ := h.nm.rwt hm
      exact h.cb.ne hd (by decide) rfl
  · rcases List.mem_cons.1 hm with e | hm
    · exact (h.dis i hi k hk).2 (e ▸ List.mem_cons_self)
    · exact (hr k hm).elim (fun hm => (h.dis i hi k hk).2 (List.mem_cons_of_mem _ hm)) fun hm => by have := (h.st i hi).lt k hk; omega
  · rcases List.mem_cons.1 hm with e | hm
    · exact h.lp k (e ▸ List.mem_cons_self)
    · rcases List.mem_cons.1 hm with e | hm
      · exact h.lp k (e ▸ List.mem_cons_of_mem _ List.mem_cons_self)
      · exact (hr k hm).elim (fun hm => h.lp k (List.mem_cons_of_mem _ (List.mem_cons_of_mem _ hm))) fun hm => by omega
  · have := h.gt g hg
    have := h.lp g (List.mem_cons_of_mem _ hm)
    omega
  · obtain ⟨t1, t2, t3, t4, t5⟩ := h.own t ht
    refine ⟨by omega, t2, t3, fun hm => ?_, t5⟩
    rcases List.mem_cons.1 hm with e | hm
    · exact t4 (e ▸ List.mem_cons_self)
    · exact (hr t hm).elim (fun hm => t4 (List.mem_cons_of_mem _ hm)) fun hm => by omega
def CM.tim{now:Int}(h:CM w B0 n b Z c)(o:Oth c.p w S)(f:blk S c.p 72 (mj n c.np c.X now))(r:0<=now/\now<=1099511627776):CM S B0 n b Z {c with now:=now}/\CS w S B0 Z:=by
 have e:Ch [c.p] w S:=Ch.of_oth o oB
 refine⟨{h with cb:=f,nm:=h.nm.ch e (λk E u a j d=>a.ne h.cb (by simp only[oO,oR,or_false]at j;rcases j with rfl|rfl|rfl<;>decide) (mS d)) λ_=>Int.le_refl _,st:=λi l=>(h.st i l).ch e (noBy.of h.cb dc) λk a d=>(h.dis i l k a).1 (mS d),kd:=h.kd.ch e λg q d=>?_,own:=λt m=>⟨by rw[o.size];exact(h.own t m).1,(h.own t m).2⟩,now:=r},h.cs e λk a=>?_⟩
 .have:=h.gt g q
  have:=h.lp c.p oL
  rw[<-mS d]at this;omega
 .rw[mS a];exact⟨h.lp _ oL,λs=>(h.own _ s).2.2.1 rfl⟩
end
structure STP where
 d:Int
 who:Int
 kind:Int
 node:Int
 to:Int
 am:Int
 req:Int
 of_:Int
 k:Int
 j:Int
 n:Int
 picks:List Int
def stC(s:STP)(v:oF):oE:=[.int .u8 s.d,iv s.who,.int .u8 s.kind,u6 s.node,iv s.to,iv s.am,u6 s.req,u6 s.of_,iv s.k,iv s.j,iv s.n,v]
structure STW(s:STP):Prop where
 d:0<=s.d/\s.d<=255
 kind:0<=s.kind/\s.kind<=255
 node:0<=s.node/\s.node<=18446744073709551615
 req:0<=s.req/\s.req<=18446744073709551615
 of_:0<=s.of_/\s.of_<=18446744073709551615
def FE(x:Int):Prop := -9223372036854775808<=x/\x<=9223372036854775807
structure STI(s:STP):Prop where
 who:FE s.who
 to:FE s.to
 am:FE s.am
 k:FE s.k
 j:FE s.j
 n:FE s.n
def STP.ak(s:STP):AK:=⟨s.kind,s.node,s.to,s.am,s.req,s.of_⟩
structure S24 where
 s:STP
 near:Bool
 node:Int
 pa:Option Addr
 pc:Nat
def PN(x:S24):oE:=stC x.s (.slice x.pa x.s.picks.length x.pc)++[.bool x.near,.int .u8 x.node]
structure YP(w:oG) (x:S24):Prop where
 wd:STW x.s
 i:STI x.s
 r:RIn w x.pa x.s.picks.length x.pc x.s.picks
 le:x.s.picks.length<=x.pc
 mx:x.pc<=9223372036854775807
 nd:0<=x.node/\x.node<=255
structure S24R(w:oG) (a:Option Addr) (n c:Nat) (L:List S24):Prop where
 len:L.length=n
 some_:0<n->∃b o,a=some ⟨b,o,none⟩
 cell:∀(i:Nat) (x:S24),L[i]? = some x->∀b o,a=some ⟨b,o,none⟩->∀(j:Nat) (u:oF),(PN x)[j]? = some u->w.cell? ⟨b,o+i*14+j,none⟩=some u
 ok:∀x∈L,YP w x
def S24R.bel{B:Nat}{n:Nat}{L:List S24}(h:S24R w a n c L)(g:Below B w S)(f:w.heap.size<=B):S24R S a n c L :=
 ⟨h.len,h.some_,λi x d b o k j u l=>by
  have:=h.cell i x d b o k j u l
  have e:=jZ w _ this;rw[g.cell (p:=⟨b,o+i*14+j,none⟩) (qQ e f)];exact this,λx d=>{h.ok x d with r:=(h.ok x d).r.below g f}⟩
end
def zba{K:KV}(h:bld Q 86 #[] (λa=>box Q 86 a K) w):Gives Q 12 #[] w K:=aw func12 kr (mpK h)
def zbb{K:KV}(h:box Q 268 H (λa=>alc Q 268 λb=>aq Q 268 a 4 λc=>ld Q 100 c λc=>call Q 215 #[c] λc=>aq Q 268 a 4 λd=>sto Q 100 d c λ_=>ld Q 268 a λa=>sto Q 268 b a λ_=>bA Q [(some 268,b)] K) w):Gives Q 192 #[H] w K:=aw func192 kr (mpK h)
def VG{K:KV}(h:box Q 268 Z (λc=>bT .eql 64 H (.pointer none) λa w=>cond a (K (ci 2) w) (ld Q 268 c (λa=>call Q 191 #[a] λa=>un Q .not a λa w=>cond a (K (ci 1) w) (sF 268 c 1 (λa=>sL 3 a λa=>sti (bT .sub 3 a (ci 1)) λa=>sF 268 c 2 λb=>sL 3 b λb=>sti (bT .sub 3 b (ci 1)) λb=>sN H λd=>sF 86 d 1 λd=>sI 84 d a λa=>sI 31 a b λa=>sL 4 a λa w=>cond a (K (ci 0) w) (bj H (λa=>aq Q 86 a 0 λa=>ld Q 83 a λa=>lN 83 a λa=>bT .geq 3 a (ci 128) λb w=>cond b (K (ci 7) w) (aL (λS w=>hN S H λa=>hF S 86 a 0 λa=>hL S 83 a λa=>hL S 268 c λb=>call Q 192 #[b] (λb=>bw S λS=>cH Q 83 1 #[(0,b)] λc=>bw S λ_=>blt Q .append #[83,83] 83 #[false,false] #[a,c] λa=>aL λS w=>hN S H λb=>hF S 86 b 0 λb=>sto Q 83 b a (λ_=>K (ci 0)) w) w) w.drew)) w)) w.drew)) w)) w):Gives Q 176 #[H,Z] w K:=aw func176 kr (mpK h)
def Su{K:KV}(h:bT .neq 64 Z (.pointer none) (λa w=>aT a true (λd=>bT .geq 3 H (ci 0) (λa=>d [H,a]) w) (λk=>k [uu,uu] w) λc=>pick a (gd c 1) cF λb w=>aT b true (λb=>bj Z (λa=>aq Q 86 a 0 λc=>ld Q 83 c λd=>lN 83 d λe=>lS H e λf=>b [H,Z,a,c,d,e,f]) w) (λk=>k [uu,uu,uu,uu,uu,uu,uu] w) λa=>pick b (gd a 6) cF K) w):Gives Q 193 #[Z,H] w K:=aw func193 kr (mpK h)
def Uk{K:KV}(h:alc Q 268 (λc=>call Q 193 #[Z,H] λa=>un Q .not a λa w=>cond a (bld Q 268 #[] (λa=>sto Q 268 c a λ_=>bA Q [(some 268,c),(none,cF)] K) w) (bj Z (λa=>aq Q 86 a 0 λa=>ld Q 83 a λa=>bv Q 83 a H λa=>ld Q 268 a λa=>alc Q 268 λb=>sto Q 268 b a λ_=>bj Z λa=>aq Q 86 a 0 λa=>ld Q 83 a λa=>nC H λd=>call Q 194 #[a,H,d] λa=>bj Z λd=>aq Q 86 d 0 λd=>sto Q 83 d a λ_=>ld Q 268 b λa=>sto Q 268 c a λ_=>bA Q [(some 268,c),(none,cT)] K) w)) w):Gives Q 177 #[Z,H] w K:=aw func177 kr (mpK h)
def Ui{K:KV}(h:call Q 177 #[Z,H] (λa=>ext Q a 0 λb=>ext Q a 1 λa=>alc Q 268 λc=>sto Q 268 c b λ_=>K a) w):Gives Q 179 #[Z,H] w K:=aw func179 kr (mpK h)
def Ss{K:KV}(h:bT .eql 64 H (.pointer none) (λa w=>cond a (K (ci 2) w) (call Q 193 #[H,Z] (λa=>un Q .not a λa w=>cond a (K (ci 4) w) (bj H (λa=>aq Q 86 a 0 λa=>ld Q 83 a λa=>lN 83 a λa=>bT .geq 3 a (ci 128) λa w=>cond a (K (ci 7) w) (aL (λS w=>hN S H λa=>hF S 86 a 0 λa=>hL S 83 a λa=>hN S H λb=>hF S 86 b 0 λb=>hL S 83 b λb=>hI S 83 b Z λb=>hL S 268 b λb=>call Q 192 #[b] (λb=>bw S λS=>cH Q 83 1 #[(0,b)] λb=>bw S λ_=>blt Q .append #[83,83] 83 #[false,false] #[a,b] λa=>aL λS w=>hN S H λb=>hF S 86 b 0 λb=>sto Q 83 b a (λ_=>K (ci 0)) w) w) w.drew)) w)) w)) w):Gives Q 180 #[H,Z] w K:=aw func180 kr (mpK h)
def Xc{K:KV}(h:bT .geq 3 H (ci 1) (λb w=>aT b true (λb=>bT .leq 3 H (ci 6) (λa=>b [H,a]) w) (λk=>k [uu,uu] w) λa=>pick b (gd a 1) cF K) w):Gives Q 197 #[H] w K:=aw func197 kr (mpK h)
def qq(n0 i1 j2 t10:oF)(zf:oD):=n0::i1::j2::zT zf 3 7 (t10::zT zf 11 27 ([]))
def Lx(n0 i1 j2:oF)(zf:oD):=n0::i1::j2::zT zf 3 35 ([])
def lf(K:KV):KE:=kZ f181 [1,1] K
def lg(K:KV):KE:=kY f181 (b1 103) (lf K) (xx xf (lf K) 0) K
def vR(K:KV):KE:=aj Q (cd f181 (b1 205)) (lg K) (xx xf (lf K) 0) (rk f181 K)
section
variable {K:KV}{n0 i1 j2 t10:oF}  
def VE{K:KV}(h:bT .eql 64 Z (.pointer none) (λa w=>cond a (K (ci 2) w) (call Q 197 #[H] (λb=>un Q .not b λc=>vR K (qq Z H U c (zV (zV zu 6 [ci 0,a,Z,a]) 11 [H,b,c]))) w)) w):Gives Q 181 #[Z,H,U] w K:=by refine aw func181 kr <|Eq.mp (qH (λc=>aj Q c _ _ _ _ w) (by kernel_rfl:(rep (b1 205) (cd f181 (b1 205)) (cd f181 []))=(cd f181 []))) ?_;revert h;delta vR lf lg;generalize (cd f181 (b1 205))=xc0;exact mpF
def Sq(h:cond t10 (lg K (qq n0 i1 j2 t10 zf) w) (call Q 197 #[j2] (λa=>un Q .not a λb w=>cond b (lg K (qq n0 i1 j2 b (zV zf 14 [j2,a,b])) w) (bF .eql 3 i1 j2 (λc=>lg K (qq n0 i1 j2 c (zV zf 14 [j2,a,b,i1,j2,c]))) w)) w)):vR K (qq n0 i1 j2 t10 zf) w:=by delta vR;revert h;generalize (lg K)=qc0;generalize (lf K)=qc1;exact mpF
def ID(h:cond t10 (K (ci 10) w) (lf K (Lx n0 i1 j2 (zV zf 10 [t10])) w)):lg K (qq n0 i1 j2 t10 zf) w:=by delta lg;revert h;generalize (lf K)=qc0;exact mpF
def Sr(h:aL (λS w=>hld (λ_=>True) (bT .sub 3 i1 (ci 1)) λa=>hld (λ_=>True) (bT .sub 3 j2 (ci 1)) λc=>hld (λ_=>True) (bT .sub 3 j2 (ci 1)) λd=>hld (λ_=>True) (bT .sub 3 i1 (ci 1)) λe=>hN S n0 λb=>hF S 86 b 1 λb=>hI S 84 b a λa=>hI S 31 a c λa=>hN S n0 λb=>hF S 86 b 1 λb=>hI S 84 b d λb=>sto Q 4 a cT (λ_=>bw S λS w=>hI S 31 b e λa=>sto Q 4 a cT (λ_=>K (ci 0)) w) w) w.drew):lf K (Lx n0 i1 j2 zf) w:=mpK h
end
attribute [irreducible] lf lg vR
def Uj{K:KV}(h:bT .neq 64 H (.pointer none) (λa w=>cond a (bld Q 84 #[] (λa=>bj H λb=>aq Q 86 b 1 λb=>sto Q 84 b a λ_=>K (.tuple #[])) w) (K (.tuple #[]) w)) w):Gives Q 151 #[H] w K:=aw func151 kr (mpK h)
def VF{K:KV}(h:bT .eql 64 H (.pointer none) (λa w=>cond a (K (ci 0) w) (bj H (λa=>aq Q 86 a 0 λa=>ld Q 83 a λa=>lN 83 a K) w)) w):Gives Q 19 #[H] w K:=aw func19 kr (mpK h)
def zK{K:KV}(h:bT .eql 100 H cN (λa w=>cond a (K cN w) (cH Q 100 0 #[] (λa=>blt Q .append #[100,100] 100 #[false,false] #[a,H] K) w)) w):Gives Q 215 #[H] w K:=aw func215 kr (mpK h)
def xh{K:KV}(h:lN 83 H (λa=>slc Q 83 H (some Z) (some U) (some a) λ_=>bF .eql 3 Z U λa w=>cond a (K H w) (lN 83 H (λb w=>aL (λS w=>hld S (slc Q 83 H none (some Z) none) λa=>hld S (slc Q 83 H (some U) none none) λc=>blt Q .append #[83,83] 83 #[false,false] #[a,c] (λa=>aL λ_=>lN 83 a λc=>slc Q 83 a (some c) (some b) none λb=>blt Q .clear #[83] 0 #[false] #[b] λ_=>K a) w) w.drew) w)) w):Gives Q 194 #[H,Z,U] w K:=aw func194 kr (mpK h)
section
variable   {K:KV}  
def zdw{cs:Array Bool}{base:Nat}{i:TypeInfo}(v:P.underlying t=some (.slice e))(hi:P.info? e=some i)(b:i.size=s){n:Nat}(d:w.ownsRow base e s (.slice (some ⟨g,0,none⟩) n c) n xs){f:Addr}(k:ys.length=m*s)(q:∀j u,ys[j]? = some u->w.cell? (f.add j)=some u)(l:∀u∈ys,u.oneCell'=true)(a:n+m<=c)(h:∀S,S.ownsRow base e s (.slice (some ⟨g,0,none⟩) (n+m) c) (n+m) (xs++ys)->w.grownBy S (some g)->K (.slice (some ⟨g,0,none⟩) (n+m) c) S):blt P .append #[t,t] E cs #[.slice (some ⟨g,0,none⟩) n c,.slice (some f) m c2] K w:=by obtain⟨S,r,o,p⟩:=run_append_own_spare (P:=P) w base t E e i s v hi b g n c xs d f m c2 ys k q l a;exact rD (by rw[BigFrame.builtin_append];simp only[jX,r,jU,jW]) (h S o p)
def zaz{B n C l h:Nat}{a hi b:Option oF}(g:P.underlying t=some (.slice e))(f:∀w,(sizeOf e).run P w=.ok s w)(c:∀w,(Instr.sliceBounds true n C a hi b).run P w=.ok (l,h,m) w)(d:K (.slice (some ⟨B,(if m=l then o else o+l*s),none⟩) (h-l) (m-l)) w):slc P t (.slice (some ⟨B,o,none⟩) n C) a hi b K w:=by unfold slc;refine eJ (w':=w) ?_ d;simp only[Instr.sliceAt,Instr.slice,jX,jY g,jU,c,f,jW];split<;>simp[yZ]
def zjO{cs:Array Bool}{base n:Nat}{i:TypeInfo}{z:oF}{o:Addr}(J:P.underlying t=some (.slice e))(hi:P.info? e=some i)(L:i.zero=some z)(l:i.size=s)(r:i.bytes=b)(B:z.cells.size=s)(x:0<s)(f:w.ownsRow base e s (.slice av 0 0) 0 [])(A:xs.length=n*s)(v:∀j u,xs[j]? = some u->w.cell? (o.add j)=some u)(D:∀u∈xs,u.oneCell'=true)(d:n*b<=140737488355328)(G:n<=9223372036854775807)(a:base<=w.heap.size)(h:∀m c' S,S.ownsRow base e s (.slice m n c') n xs->Below base w S->K (.slice m n c') S):blt P .append #[t,t] E cs #[.slice av 0 0,.slice (some o) n c] K w:=by
 obtain⟨M,S,I,q,F,_,N⟩:=run_append_own_at (P:=P) w base t E e i z s b J hi L l r B x _ 0 [] f o n c xs A v D (by simp only[maxLen];omega) (by rw[oK];exact d) a;rw[oK,oV]at q;obtain⟨m,c',rfl⟩:∃m c',M=.slice m n c':=by
  rcases q.2 with⟨y,v⟩|⟨g,p,C,y,_⟩
  .exact⟨none,0,by rw[y,v]⟩
  .exact⟨_,p,y⟩
 exact rD (by rw[BigFrame.builtin_append];simp only[jX,I,jU,jW]) (h m c' S q (cS F a (λk H=>(jS f k H).1)))
def zhm{i:TypeInfo}{base:Nat}(j:P.underlying t=some (.slice e))(hi:P.info? e=some i)(b:i.size=s)(a:base<=w.heap.size)(h:∀w',w'.ownsRow base e s (.slice (some ⟨w.heap.size,0,none⟩) 0 0) 0 []->Below w.heap.size w w'->K (.slice (some ⟨w.heap.size,0,none⟩) 0 0) w'):cH P t 0 #[] K w:=by
 unfold cH;have g:(w.alloc (.cells #[] e)).ownsRow base e s (.slice (some ⟨w.heap.size,0,none⟩) 0 0) 0 []:=by
  refine⟨by simp,.inr ⟨w.heap.size,0,#[],rfl,a,?_,Nat.le_refl _,qG _,by simp,by simp⟩⟩;exact heap_alloc_new w (.cells #[] e)
 refine eJ (w':=w.alloc (.cells #[] e)) (v:=.slice (some ⟨w.heap.size,0,none⟩) 0 0) ?_ (h _ g (cS (World.grownBy_alloc _ _ none) oA (λk d=>by cases d)));have c:∀f:oD,(Array.range 0).map f=#[]:=λf=>by apply Array.ext<;>simp
 simp[Instr.buildSlice,Instr.fill,jY j,sizeOf,typeInfo,hi,b,newRow,c]
def zhn{n l:Nat}(d:l<=m)(e:m<=c):∀w,(Instr.sliceBounds true n c (some (ci (l:Nat))) (some (ci (m:Nat))) none).run P w=.ok (l,m,c) w:=λw=>by
 have a:=run_sliceBound (P:=P) w .i64 (m:Int) c .sliceAcap oo oo;have b:=run_sliceBound (P:=P) w .i64 (l:Int) m .sliceB oo oo;simp[Instr.sliceBounds]at a b |-;rw[a];simp[b]
def zfF{n l q:Nat}(e:l<=m)(f:m<=q)(g:q<=c):∀w,(Instr.sliceBounds true n c (some (ci (l:Nat))) (some (ci (m:Nat))) (some (ci (q:Nat)))).run P w=.ok (l,m,q) w:=λw=>by
 have a:=run_sliceBound (P:=P) w .i64 (q:Int) c .slice3Acap oo oo;have b:=run_sliceBound (P:=P) w .i64 (m:Int) q .slice3B oo oo;have d:=run_sliceBound (P:=P) w .i64 (l:Int) m .slice3C oo oo;simp[Instr.sliceBounds]at a b d |-;rw[a];simp[b,d]
def zht{ty:TypeId}{i:TypeInfo}{z:oF}(p:P.underlying t=some (.slice e))(hi:P.info? e=some i)(q:i.zero=some z){n:Nat}{zs:oE}(k:(Builtin.zeroCells z.cells (n+1)).toList=zs)(d:blk w g E xs)(f:o+zs.length<=xs.length)(l:∀v∈zs,v.oneCell'=true)(h:∀w',blk w' g E (xs.take o++zs++xs.drop (o+zs.length))->Oth g w w'->K (.tuple #[]) w'):blt P .clear #[t] ty K0 #[.slice (some ⟨g,o,none⟩) (n+1) c] K w:=by
 have a:(Builtin.clear_ #[t] ty #[.slice (some ⟨g,o,none⟩) (n+1) c]).run P w=.ok (.tuple #[]) (w.setCells g o zs):=by
  have b:=run_storeCells_cells (P:=P) g o zs 0 w (λj m=>by rw[d.cell,gE oo];rfl) (λj m=>d.frozen _) l;simp only[qV]at b;simp[Builtin.clear_,jY p,jX,zeroValue,typeInfo,hi,q,k,b]
 exact rD (v:=.tuple #[]) (w':=w.setCells g o zs) (by rw[BigFrame.builtin_clear];simp only[jX,a,jU,jW]) (h _ (PO zs o w xs d f) (LP g zs o w))
end
section
attribute [local irreducible] bin un conv call bS blt slc aq fld bv idx lkp fJ nl eSt rng nxt ent ext alc box bld cH ld sto bj fK mkS ifc pick rdy wts aT sti cond bA Gives aj iK kH cOp
section
open Go.ChangeMaps
def By{K:KV}(h:K (pA b (o+0)) w):aq Q 86 (pA b o) 0 K w:=aQ kr h
def Mv{K:KV}(h:K (pA b (o+1)) w):aq Q 86 (pA b o) 1 K w:=aQ kr h
def ze8:(Tryz.prog.info? 49).map (λi=>(i.zero,i.size,i.bytes))=some (some (evV evZ),14,112):=by kernel_rfl
def VR.flat{n:Nat}{a:Addr}{L:List EV}(h:VR w (some a) n c L):∀k u,(L.flatMap evC)[k]? = some u->w.cell? (a.add k)=some u:=λk u d=>by
 have i:(L.flatMap evC).length=L.length*14:=rZ (enc:=evC) (s:=14) (λ_=>rfl) L;have j:k<L.length*14:=by rw[<-i];exact(gS d).1
 have f:=gE (show k / 14<L.length by omega);have e:=Hh (enc:=evC) (s:=14) (λ_=>rfl) L (k / 14) _ (k%14) f oo;rw[show k / 14*14+k%14=k by omega,d]at e;obtain⟨b,o,g⟩:=h.some_ (by have:=h.len;omega);cases g
 have:=h.cell (k / 14) _ f b o rfl (k%14) u e.symm
 rw[yZ,show o+k=o+k / 14*14+k%14 by omega];exact this
structure NS(w w':oG) (p:Nat) (ra ra':Option Addr):Prop where
 ch:Ch (p::rwB ra) w w'
 rw:∀k∈rwB ra',k∈rwB ra\/w.heap.size<=k
section
variable  {K:KV}{T:Nat->Int}{p:Nat}{ra:Option Addr}{rc:Nat}{M:List MGT}{cut:List Bool}
def Qf(h:K (.bool false) w):bin Q .eql 64 cx cy (pB b) (.pointer none) K w :=
 eH (by unfold eqG eqGuard;rfl) kr h
def zao(h:K (.bool true) w):bin Q .neq 64 cx cy (pB b) (.pointer none) K w :=
 eH (by unfold eqG eqGuard;rfl) kr h
def zjf{n:Nat}{L:List EV}(j:VR w a n c L)(C:n<=1000)(h:∀S d c',VR S d n c' L->(∀b o,d=some ⟨b,o,none⟩->∃cs,blk S b 49 cs)->(a=none->d=none/\c'=0)->Below w.heap.size w S->K (.slice d n c') S):call Q 215 #[.slice a n c] K w:=by
 refine ao (goK func215) (zK (XX underlying100 ?_));cases a with
 | none =>
  obtain rfl:n=0:=by
   rcases Nat.eq_zero_or_pos n with e|e
   .exact e
   .obtain⟨b,o,t⟩:=j.some_ e;cases t
  exact bc (h w none 0 ⟨j.len,λe=>qI e (qW _),λi x D b o f=>by cases f⟩ (λb o f=>by cases f) (λ_=>⟨rfl,rfl⟩) (jT _ _))
 | some ad =>
  obtain⟨i,p,v,g,l⟩:=info_parts ze8;refine aD (zhm (base:=w.heap.size) underlying100 p g oA λE y k=>?_);have m:=j.bel k oA;refine zjO (base:=w.heap.size) (s:=14) underlying100 p v g l rfl oo y (by rw[rZ (enc:=evC) (s:=14) (λ_=>rfl),j.len]) m.flat (Yj Dz _) oo oo k.size λd c' B z q=>?_
  obtain⟨A,r⟩:=zcA z j.len;exact h B d c' A (λb o f=>(r b o f).2) (λu=>by cases u) (k.trans q)
def zfs{x:MGT}{B:Nat}(M:TMk B w x)(I:x.1.L.length<=1000)(m:∀w' x',x'.1=x.1->TMk 0 w' x'->(x.2=(none,0)->x'.2=(none,0))->Below w.heap.size w w'->K (.agg (tmC x').toArray) w'):call Q 192 #[.agg (tmC x).toArray] K w:=by
 refine ao (goK func192) (zbb (bU λu i l V=>cD (z:=.agg (mgC 0 0 0 (List.replicate 6 0) (.slice none 0 0) 0 0).toArray) kr λO j r W=>?_));have i:=cZ i
 have j:=cZ j
 have g:=ae r i i.lt;have f:=l.trans (r.mono l.size);refine DL (lK (v:=.slice x.2.1 x.1.L.length x.2.2) g rfl ?_);refine zjf (M.vr.bel f oA) I λP a c N F J h=>?_;have A:=ae h g g.lt;have y:=ae h j j.lt;have X:=h.size;obtain⟨x',d⟩:∃x':MGT,x'=(x.1,a,c):=⟨_,rfl⟩
 refine DL (dw kf A (by rw[eF];omega) rfl λR q p=>?_);have q:blk R w.heap.size 268 (tmC x'):=by rw[d];exact q
 have T:=p.blk y oo;refine ldA (n:=12) (vs:=tmC x') underlying268 rfl kr q (by rw[oX,tL (by rw[eF];omega)]) (eF _) ?_;refine fY (n:=12) (vs:=tmC x') kr (eF _) T (by show 0+12<=12;omega) (vY _) λS C t=>?_;rw[qX,oV,oS (by show 12<=0+12;omega),oW]at C
 refine uO (v:=.agg (tmC x').toArray) (λ_ m=>ldA (n:=12) (vs:=tmC x') underlying268 rfl kr C (by rw[oX,tL (by rw[eF];omega)]) (eF _) m) ?_;refine m S x' (by rw[d]) (TMk.kp (w:=P) ?_ λk U s=>?_) (λH=>by rw[d];obtain⟨D,E⟩:=J (by rw[H]);rw[D,E]) (aK (aK (f.trans (h.mono f.size)) p oA) t l.size)
 .rw[d];exact⟨N,λb o G=>⟨qG _,F b o G⟩⟩
 .rw[t.other k λe=>qI e (s.ne y dc),p.other k λe=>qI e (s.ne A dc)]
def ziP{x:MGT}{B:Nat}(a:MsP T x.1)(u:TMk B w x)(p:x.1.k=2->x.2=(none,0))(h:∀S,Below w.heap.size w S->K (.bool true) S):call Q 191 #[.agg (tmC x).toArray] K w:=by
 have v:=a.f6;have y:=a.t6;have i:bO ((x.1.f:Int)+1)=true:=by simp only[bO,oM,oP];omega
 have j:bO ((x.1.t:Int)+1)=true:=by simp only[bO,oM,oP];omega
 have b:(x.1.f:Int)+1≠(x.1.t:Int)+1:=λe=>a.ft oo;rw[PV a.v6];rcases a.kd with⟨o,r,l,d⟩|⟨c,q,s,m⟩
 .rw[o,r,l];exact zal u.vr d (λe n=>(a.ev e n).may) a.v6 a.vle i j b h
 .have g:=p c;rw[c,q,show x.2.1=none by rw[g],show x.2.2=0 by rw[g]];exact zcn s m a.v6 a.vle i j b h
def NM.cell(h:NM w T p ra rc M cut){t:Nat}(a:f<6)(b:t<6):(.slice ra M.length rc::cut.map Value.bool)[1+f*6+t]? = some (.bool (cut.getD (6*f+t) false)):=by
 rw[show 1+f*6+t=(6*f+t)+1 by omega,qK,qC]
 have:6*f+t<cut.length:=by rw[h.cut];omega
 rw[gE this];simp[List.getD,this]
def zcs{S:oG->Prop}{x:MGT}(H:Z1=pB p)(h:NM w T p ra rc M cut)(I:MsP T x.1/\TMk 0 w x/\(x.1.k=2->x.2=(none,0)))(W:M.length<128)(U:∀w',Below w.heap.size w w'->S w')(r:∀w' z rc',NM w' T p z rc' (M++[x]) cut->NS w w' p ra z->K (ci 0) w'):(bw S λS=>cH Q 83 1 #[(0,.agg (tmC x).toArray)] λN=>bw S λ_=>blt Q .append #[83,83] 83 #[false,false] #[.slice ra M.length rc,N] λa=>aL λS w=>hN S Z1 (λb=>hF S 86 b 0 λb=>sto Q 83 b a (λ_=>K (ci 0)) w)) w:=by
 subst H;obtain⟨mi,E,G,F,D⟩:=info_parts Sb;refine aI (U w (jT _ _)) (qb [.agg (tmC x).toArray] underlying83 (s:=12) kr kr oo rfl oB dc rfl (by
  intro v Y;rw[mS Y]
  have:=eF x
  simpa[Value.cells]using this) λA J q s9=>?_)
 have J:=cZ J
 have j:=h.below q;have x9:=I.2.1.below q;refine aI (U A q) (zc (enc:=tmC) (x:=x) underlying83 E G F D rfl oo eF j.row J (vY x) oo oo (qG _) λO P w10 m a _ u=>?_);have g:blk w10 p 86 (.slice ra M.length rc::cut.map .bool):=by
  have:=a.block p j.b.lt λe=>by obtain⟨R,o⟩:=Pr j.row e.symm;exact j.b.ne o dc rfl
  have o:=j.b;unfold blk at o |-;rw[this];exact o
 refine ax (λy=>blk y p 86 (.slice ra M.length rc::cut.map .bool)) g (ac (λy d _ r=>au r) (ac (λy d _ r=>By r) (dw kf g oB rfl λi n l=>?_)));have n:blk i p 86 (.slice O (M.length+1) P::cut.map .bool):=n;have C:(M++[x]).length=M.length+1:=by simp
 have B:Ch (p::rwB ra) w w10:=by
  have c:Ch (p::rwB ra) A w10:=⟨a.os,a.tape,a.output,a.size,λk f X=>a.block k f λe=>X (oH _ (Eb e.symm))⟩
  exact(Ch.of_below q).trans c λk f=>.inl f
 have L:=dl m (w':=i) λk f=>l.other k λe=>by
  obtain⟨R,o⟩:=Pr m f;exact o.ne g dc e
 refine r i O P ⟨by rw[C];exact n,by rw[C];exact L,λy t=>?_,by rw[C];omega,h.cut⟩ ⟨B.trans (Ch.of_oth l oB) λk f=>.inl f,λk f=>?_⟩
 .have V:∀{y:MGT},TMk 0 A y->TMk 0 i y:=λZ=>(Z.grow j.row a).kp λk R f=>l.other k λe=>qI e (f.ne g dc);rcases oU.1 t with t|t
  .obtain⟨y1,y2,y3⟩:=j.ms y t;exact⟨y1,V y2,y3⟩
  .rw[mS t];exact⟨I.1,V x9,I.2.2⟩
 .have f:=LJ f m;rcases u with u|u
  .exact .inl (Eb (u ▸ f))
  .rw[u,qD]at f;exact .inr (by have:=q.size;omega)
end
def Pw(cut:List Bool)(L:List MG)(g:MG):List MG:=if cut.getD (6*g.f+g.t) false=true\/128<=L.length then L else L++[g]
section
variable  {K:KV}{T:Nat->Int}{p:Nat}{ra:Option Addr}{rc:Nat}{M:List MGT}{cut:List Bool}
def NS.refl(a:Below w.heap.size w S):NS w S p ra ra:=⟨Ch.of_below a,λ_ b=>.inl b⟩
def NS.trans(h:NS w S p ra a)(k:NS S O p a av):NS w O p ra av :=
 have d:=h.ch.size
 ⟨h.ch.trans k.ch λx b=>(oO.1 b).elim (λe=>.inl (e ▸ oL)) λb=>(h.rw x b).imp (oH _) id,λx b=>(k.rw x b).elim (h.rw x) λc=>.inr oo⟩
def NS.pre(b:Below w.heap.size w S)(k:NS S O p ra a):NS w O p ra a:=(NS.refl b).trans k
def NM.fst(h:NM w T p ra rc M cut)(a:V0 (.slice ra M.length rc) w):aq Q 86 (pB p) 0 (λu=>ld Q 83 u V0) w:=By (lK (v:=.slice ra M.length rc) h.b rfl a)
theorem zih {x : MGT} {B : Nat} (h : NM w T p ra rc M cut) (hx : MsP T x.1) (tx : TMk B w x) (k2 : x.1.k = 2 → x.2 = (none, 0))
    (hK : ∀ w' ra' rc' M' (e : Int), NM w' T p ra' rc' M' cut → M'.map (·.1) = Pw cut (M.map (·.1)) x.1 → NS w w' p ra ra' → K (ci e) w') : call Tryz.prog 176 #[pB p, .agg (tmC x).toArray] K w := by
  refine ao (goK Tryz.func176) (VG (bU fun w1 z1 b1 s1 => Qf (aD ?_)))
  have z1 : blk w1 w.heap.size 268 (tmC x) := by simpa [Value.cells] using z1
  have f6 := hx.f6
  have t6 := hx.t6
  have ldm : ∀ {y : World} {K : KV}, blk y w.heap.size 268 (tmC x) → K (.agg (tmC x).toArray) y → ld Tryz.prog 268 (pB w.heap.size) K y := fun hy hK => ldA (n := 12) (vs := tmC x) Tryz.underlying268 rfl (by kernel_rfl) hy (by rw [List.drop_zero, List.take_of_length_le (by rw [eF]; omega)]) (eF _) hK
  refine ldm z1 (ziP hx (tx.below b1) k2 fun w2 b2 => bH (aD ?_))
  have b02 := b1.trans (b2.mono b1.size)
  have h2 := h.below b02
  have z2 := ae b2 z1 z1.lt
  have h2d := h2.below (Below.refl _ w2).drew
  refine ah (fun K hK => Bx hK) (ah (v := iv ((x.1.f : Int) + 1)) (fun K hK => ld1 (fun _ => by kernel_rfl) z2.drew rfl hK) (ah (v := iv (x.1.f : Nat)) (fun K hK => co (by omega) (by omega) (by rw [show (x.1.f : Int) + 1 - 1 = (x.1.f : Nat) by omega]; exact hK)) ?_))
  refine ah (fun K hK => yE hK) (ah (v := iv ((x.1.t : Int) + 1)) (fun K hK => ld1 (fun _ => by kernel_rfl) z2.drew rfl hK) (ah (v := iv (x.1.t : Nat)) (fun K hK => co (by omega) (by omega) (by rw [show (x.1.t : Int) + 1 - 1 = (x.1.t : Nat) by omega]; exact hK)) ?_))
  refine ah (fun K hK => au hK) (ah (fun K hK => Mv hK) (ah (v := .pointer (some ⟨p, 1 + x.1.f * 6, none⟩)) (fun K hK => fB Tryz.underlying84 (s := 6) (fun _ => by kernel_rfl) (by omega) (by omega) hK) ?_))
  refine ah (v := .pointer (some ⟨p, 1 + x.1.f * 6 + x.1.t * 1, none⟩)) (fun K hK => fB Tryz.underlying31 (s := 1) (fun _ => by kernel_rfl) (by omega) (by omega) hK) ?_
  refine ah (v := .bool (cut.getD (6 * x.1.f + x.1.t) false)) (fun K hK => ld1 (fun _ => by kernel_rfl) h2d.b (by rw [Nat.mul_one]; exact h2d.cell f6 t6) hK) ?_
  have bd := b02.trans ((Below.refl _ w2).drew.mono b02.size)
  cases hc : cut.getD (6 * x.1.f + x.1.t) false with
  | true => exact bc (hK _ ra rc M 0 h2d (by unfold Pw; rw [if_pos (.inl hc)]) (.refl bd))
  | false =>
    refine aD (au (h2d.fst (bM Tryz.underlying83 (cJ ?_))))
    by_cases hf : 128 ≤ M.length
    · exact aG (by omega) (hK _ ra rc M 7 h2d (by unfold Pw; rw [if_pos (.inr (by rw [List.length_map]; exact hf))]) (.refl bd))
    refine aB (by omega) ?_
    have z3 := z2.drew
    have b33 : Below w2.drew.heap.size w2.drew w2.drew.drew := (Below.refl _ _).drew
    have h3 := h2d.below b33
    refine ax (fun y => blk y p 86 (.slice ra M.length rc :: cut.map .bool) ∧ blk y w.heap.size 268 (tmC x)) ⟨h3.b, z3.drew⟩ ?_
    refine ac (fun y d _ hK => au hK) (ac (fun y d _ hK => By hK) (ac (v := .slice ra M.length rc) (fun y d _ hK => ld1 (fun _ => by kernel_rfl) d.1 rfl hK) (ac (fun y d _ hK => ldm d.2 hK) ?_)))
    have hl : x.1.L.length ≤ 1000 := by rcases hx.kd with h | h <;> simp_all <;> omega
    refine zfs ((tx.below bd).below b33) hl fun w4 x' e4 t4 n4 b4 => ?_
    have b24 : Below w2.drew.heap.size w2.drew w4 := b33.trans b4
    have h4 := h2d.below b24
    refine zcs rfl h4 ⟨by rw [e4]; exact hx, t4, fun hh => n4 (k2 (by rw [← e4]; exact hh))⟩ (by omega) (fun w5 b5 => ⟨(h4.below b5).b, ae (b24.trans (b5.mono b24.size)) z3 z3.lt⟩) fun w5 ra' rc' h5 s5 => ?_
    refine hK w5 ra' rc' _ 0 h5 ?_ (.pre (bd.trans (b24.mono bd.size)) s5)
    unfold Pw
    rw [if_neg (by rw [hc, List.length_map]; simp; omega), List.map_append, List.map_singleton, e4]
def zid{k:Nat}(V:w.ownsRow 0 268 12 (.slice ra M.length rc) M.length (M.flatMap tmC))(p:k<M.length)(hM:M.length<=128)(h:∀w',w'.ownsRow 0 268 12 (.slice ra (M.eraseIdx k).length rc) (M.eraseIdx k).length ((M.eraseIdx k).flatMap tmC)->Ch (rwB ra) w w'->K (.slice ra (M.eraseIdx k).length rc) w'):call Q 194 #[.slice ra M.length rc,iv (k:Nat),iv ((k+1:Nat))] K w:=by
 obtain⟨g,F,rfl,d⟩:=iM V oo;have R:=d.nc;have I:=d.len;have D:∀w,(sizeOf 268).run Q w=.ok 12 w:=λ_=>by kernel_rfl
 obtain⟨mi,r,O,N,Z⟩:=info_parts Sb;have Y:(M.flatMap tmC).length=M.length*12:=rZ eF M;refine ao (goK func194) (xh (bM underlying83 ?_));refine zaz underlying83 D (zfF oo oo R) (aU (aB oo (bM underlying83 ?_)))
 refine ax (λ_=>True) trivial (ac (λy _ _ G=>UH underlying83 D (m:=k) oo G) (ac (λy _ _ G=>Xr underlying83 D (q:=k+1) oo R G) ?_));obtain⟨E,n⟩:∃E:Addr,(if rc=k+1 then some (⟨g,0,none⟩:Addr)else (some (⟨g,0,none⟩:Addr)).map (·.add ((k+1)*12)))=some E/\(M.length-(k+1)=0\/E=⟨g,(k+1)*12,none⟩):=by
  by_cases e:rc=k+1
  .exact⟨_,oJ e,.inl oo⟩
  .exact⟨_,oI e,.inr (by simp[Addr.add])⟩
 rw[n.1];have ab:=V.drew;have S:w.drew.ownsRow 0 268 12 (.slice (some ⟨g,0,none⟩) k rc) k ((M.take k).flatMap tmC):=by
  refine⟨by rw[rZ eF,qA,Nat.min_eq_left oo],.inr ⟨g,rc,F.toArray,rfl,qG _,d.blk.drew,by omega,d.cm,by simpa using I,?_⟩⟩;rw[<-OX eF, <-d.take,List.take_take,Nat.min_eq_left oo]
 have A:((M.drop (k+1)).flatMap tmC).length=(M.length-(k+1))*12:=by rw[rZ eF,qB]
 refine zdw (s:=12) underlying83 r N S A (λj u x=>?_) (Yj vY _) oo λw1 B i=>?_
 .have L:j<(M.length-(k+1))*12:=by rw[<-A];exact(gS x).1
  rcases n.2 with e|e
  .rw[e]at L;omega
  .rw[e,yZ,d.blk.drew.cell];rw[<-OW eF,jM, <-d.take,List.getElem?_take]at x;split at x
   .exact x
   .cases x
 have T:(M.eraseIdx k).length=k+(M.length-(k+1)):=by rw[List.length_eraseIdx_of_lt p];omega
 have X:(M.take k).flatMap tmC++(M.drop (k+1)).flatMap tmC=(M.eraseIdx k).flatMap tmC:=by rw[<-List.flatMap_append, <-List.eraseIdx_eq_take_drop_succ]
 rw[X, <-T]at B;rw[<-T];obtain⟨c,b,a,C,_,J,aa,U,t,v⟩:∃(c b:Nat) (a:Array oF),Value.slice (some ⟨g,0,none⟩) (M.eraseIdx k).length rc=.slice (some ⟨c,0,none⟩) (M.eraseIdx k).length b/\0<=c/\w1.heap[c]? = some (.cells a 268 (0,0))/\(M.eraseIdx k).length<=b/\b<=maxLen/\a.size=b*12/\a.toList.take ((M.eraseIdx k).length*12)=(M.eraseIdx k).flatMap tmC:=by
  rcases B.2 with⟨C,_⟩|h
  .cases C
  .exact h
 simp only[Value.slice.injEq,qD,Addr.mk.injEq,and_true,true_and]at C;obtain⟨rfl,rfl⟩:=C;have H:blk w1 g 268 a.toList:=by unfold blk;simpa using J
 have f:a.toList.length=rc*12:=by simpa using t
 refine ax (λ_=>True) trivial (bM underlying83 ?_);refine zaz (l:=(M.eraseIdx k).length) (h:=M.length) (m:=rc) underlying83 D (zhn oo R) ?_;rw[oI oo,oK,show M.length-(M.eraseIdx k).length=0+1 by omega]
 refine zht (z:=.agg (mgC 0 0 0 (List.replicate 6 0) (.slice none 0 0) 0 0).toArray) (zs:=mgC 0 0 0 (List.replicate 6 0) (.slice none 0 0) 0 0) underlying83 r O kr H (by rw[f];show (M.eraseIdx k).length*12+12<=_;omega) dc λw2 o o2=>?_;generalize hz:mgC 0 0 0 (List.replicate 6 0) (.slice none 0 0) 0 0=zs at o;have P:zs.length=12:=by rw[<-hz];rfl
 refine h w2 ⟨rZ eF _,.inr ⟨g,rc,_,rfl,qG _,by have:=o;unfold blk at this;exact this,by omega,d.cm,?_,?_⟩⟩ ?_
 .simp only[List.size_toArray,oT,qA,qB,f,P];omega
 .simp only[jD];rw[List.take_left' (by rw[qA,f];omega),v]
 .have W:Ch (rwB (some ⟨g,0,none⟩)) w w1:=(Ch.of_below (jT _ w).drew).trans ⟨i.os,i.tape,i.output,i.size,λj L a=>i.block j L λe=>a (by rw[qD]at e;rw[<-e];exact List.mem_singleton.2 rfl)⟩ λk p=>.inl p;exact W.trans (Ch.of_oth o2 (List.mem_singleton.2 rfl)) λk p=>.inl p
end
abbrev msgZ:oE:=mgC 0 0 0 (List.replicate 6 0) (.slice none 0 0) 0 0
section
variable  {K:KV}{T:Nat->Int}{p:Nat}{ra:Option Addr}{rc:Nat}{M:List MGT}{cut:List Bool}
def YN{k:Int}(h:NM w T p ra rc M cut)(c:K (.bool (decide (0<=k)&&decide (k<M.length))) w):call Q 193 #[pB p,iv k] K w:=by
 refine ao (goK func193) (Su (zao (my (cJ (dD ?_)))));by_cases a:k≥0
 .rw[show decide (0<=k)=true from qF a,qY]at c;exact ck a (au (By (lK (v:=.slice ra M.length rc) h.b rfl (bM underlying83 (aW (bR a c))))))
 .rw[show decide (0<=k)=false from qE a,qZ]at c;exact dt a (bG a c)
def NM.row'{M':List MGT}(h:NM w T p ra rc M cut)(i:Ch (rwB ra) w O)(l:O.ownsRow 0 268 12 (.slice a M'.length b) M'.length (M'.flatMap tmC))(f:∀x∈M',x∈M)(B:M'.length<=M.length)(o:Oth p O S)(s:blk S p 86 (.slice a M'.length b::cut.map .bool))(t:rwB a=rwB ra):NM S T p a b M' cut/\NS w S p ra a:=by
 have n:=h.few;have v:∀k d E,blk w k E d->E≠86->E≠268->S.heap[k]? = w.heap[k]? := λk d E c q r=>by
  rw[o.other k λe=>qI e (c.ne h.b q),i.block k c.lt λf=>by obtain⟨m,j⟩:=h.rwt f;exact qI rfl (c.ne j r)]
 refine⟨⟨s,dl l λk c=>o.other k λe=>?_,λx u=>?_,by omega,h.cut⟩,⟨(i.mono λk c=>oH _ c).trans (Ch.of_oth o oB) λk c=>.inl c,λk c=>.inl (t ▸ c)⟩⟩
 .obtain⟨d,g⟩:=Pr l c
  have:=h.b.ch i λf=>by obtain⟨m,j⟩:=h.rwt f;exact h.b.ne j dc rfl
  exact g.ne this dc e
 .obtain⟨y,z,A⟩:=h.ms x (f x u);exact⟨y,z.kp λk d c=>v k d _ c dc dc,A⟩
def VH{k:Int}(h:NM w T p ra rc M cut)(no:∀w',¬(0<=k/\k<M.length)->Below w.heap.size w w'->K (.tuple #[.agg msgZ.toArray,cF]) w')(t:∀w' x,M[k.toNat]? = some x->NM w' T p ra rc (M.eraseIdx k.toNat) cut->MsP T x.1/\TMk 0 w' x/\(x.1.k=2->x.2=(none,0))->NS w w' p ra ra->K (.tuple #[.agg (tmC x).toArray,cT]) w'):call Q 177 #[pB p,iv k] K w:=by
 refine ao (goK func177) (Uk (cD (z:=.agg msgZ.toArray) kr λN H C s1=>?_));have H:=cZ H
 have l:=h.below C;have P:=h.few;have q:∀{y:oG} {K:KV} {b:Nat} {f:oE},f.length=12->blk y b 268 f->K (.agg f.toArray) y->ld Q 268 (pB b) K y:=λV D m=>ldA (n:=12) underlying268 rfl kr D (by rw[oX,tL oo]) V m
 have r:∀{y:oG} {K:KV} {b:Nat} {f A:oE},f.length=12->A.length=12->(∀v∈f,v.oneCell'=true)->blk y b 268 A->(∀G,blk G b 268 f->Oth b y G->K undef G)->sto Q 268 (pB b) (.agg f.toArray) K y:=λ{y K b f A} V ac l D m=>fY (n:=12) kr V D oo l λG E o' => m G (by
  rw[qX,oV,oS oo,oW]at E;exact E) o'
 refine YN l (bH ?_);by_cases a:0<=k/\k<M.length
 .rw[qF a.1,qF a.2];obtain⟨j,rfl⟩:=Int.eq_ofNat_of_zero_le a.1;have U:j<M.length:=by omega
  have B:M[j]? = some M[j]:=gE U;generalize M[j]=x at B;have t:=λw' => t w' x B;obtain⟨m1,m2,m3⟩:=l.ms x (mO B);refine aD (au (l.fst ?_));refine GJ (i:=j) (enc:=tmC) (s:=12) (L:=M) (x:=x) underlying83 kf underlying268 rfl kr eF l.row rfl B λ_=>?_
  refine cD (z:=.agg msgZ.toArray) kr λZ I b2 s2=>?_;have I:=cZ I
  refine r (eF _) rfl (vY x) I λw3 z3 o3=>?_;have d:Below N.heap.size N w3:=aK b2 o3 oA;have g:=l.below d;have aa:=ae d H H.lt;refine au (g.fst (aY oo oo ?_));rw[show (j:Int)+1=((j+1:Nat):Int)by push_cast;rfl];refine zid g.row U P λw4 Y c4=>?_;have R:=g.b.ch c4 λc=>by obtain⟨ds,S⟩:=g.rwt c;exact g.b.ne S dc rfl
  refine au (By (dw kf R oB rfl λw5 z5 o5=>?_));have z5:blk w5 p 86 (.slice ra (M.eraseIdx j).length rc::cut.map .bool):=z5;obtain⟨n5,J⟩:=g.row' c4 Y (λy D=>List.mem_of_mem_eraseIdx D) (by rw[List.length_eraseIdx_of_lt U];omega) o5 z5 rfl;have W:∀k,w.heap.size<=k->k∉p::rwB ra:=λk a c=>by have:=h.lt k c;omega
  have ab:=z3.ch J.ch (W _ C.size);have u:=aa.ch J.ch (W _ oA);refine q (eF x) ab (r (eF _) rfl (vY x) u λw6 z6 X=>?_);refine yS (v:=.agg (tmC x).toArray) (λ_ m=>q (eF x) z6 m) ?_;have O:=C.trans (d.mono C.size);have F:=(NS.refl O).trans J
  have n6:=n5.chN (T':=T) (Ch.of_oth X (List.mem_singleton.2 rfl)) (λk a c=>W _ oA (mS c ▸ a)) (λx B k o b c=>by obtain⟨_,A,a⟩:=(n5.ms x B).2.1.ev k o b;exact a.ne u dc (mS c)) λ_=>Int.le_refl _
  have kp:TMk 0 w6 x:=((m2.below d).kp λk A a=>(J.ch.block k a.lt λc=>?_)).kp λk A a=>X.other k λe=>qI e (a.ne u dc);exact t w6 n6 ⟨m1,kp,m3⟩ ⟨F.ch.add (aK (jT _ w5) X oA),F.rw⟩;rcases oO.1 c with e|c
  .exact a.ne g.b dc e
  .obtain⟨ds,S⟩:=g.rwt c;exact a.ne S dc rfl
 .have:(decide (0<=k)&&decide (k<(M.length:Int)))=false:=by
   rw[Bool.eq_false_iff];intro hh;simp only[oM,oP]at hh;exact a hh
  rw[this];refine bc (cE (vs:=msgZ) kr (r rfl rfl dc H λZ I b=>yS (v:=.agg msgZ.toArray) (λ_ m=>q rfl I m) (no Z a (aK C b oA))))
def zgn{k:Int}(h:NM w T p ra rc M cut)(l:∀S M' (b:Bool),NM S T p ra rc M' cut->NS w S p ra ra->K (.bool b) S):call Q 179 #[pB p,iv k] K w:=by
 refine ao (goK func179) (Ui (VH h (λg _ d=>?_) λg x _ m r o=>?_))
 .refine bK (bJ (cD (z:=.agg msgZ.toArray) kr λi c e q=>?_));have c:=cZ c
  refine fY (n:=12) (vs:=msgZ) kr rfl c (by show 0+12<=12;omega) dc λj _ f=>?_;have a:=aK e f oA;exact l j M false ((h.below d).below a) (.refl (d.trans (a.mono d.size)))
 .refine bK (bJ (cD (z:=.agg msgZ.toArray) kr λi c e q=>?_));have c:=cZ c
  refine fY (n:=12) (vs:=tmC x) kr (eF x) c (by show 0+12<=12;omega) (vY x) λj _ f=>?_;have a:=aK e f oA;exact l j _ true (m.below a) (o.trans (.refl a))
def zex{k:Int}(h:NM w T p ra rc M cut)(a:∀w' c f M' (e:Int),NM w' T p c f M' cut->NS w w' p ra c->K (ci e) w'):call Q 180 #[pB p,iv k] K w:=by
 refine ao (goK func180) (Ss (Qf (aD (YN h (bH ?_)))));by_cases m:0<=k/\k<M.length
 .rw[qF m.1,qF m.2];obtain⟨j,rfl⟩:=Int.eq_ofNat_of_zero_le m.1;have H:j<M.length:=by omega
  have u:M[j]? = some M[j]:=gE H;generalize M[j]=x at u;refine aD (au (h.fst (bM underlying83 (cJ ?_))));by_cases S:128<=M.length
  .exact aG oo (a _ ra rc M 7 h (.refl (jT _ _)))
  refine aB oo ?_;have A:Below w.heap.size w w.drew:=(jT _ w).drew;have i:=h.below A;obtain⟨D,J,N⟩:=i.ms x (mO u);obtain⟨g,r,t,o⟩:=iM i.row oo;subst t;have U:=i.row;refine ax (λy=>blk y p 86 (.slice (some ⟨g,0,none⟩) M.length rc::cut.map .bool)/\blk y g 268 r) ⟨i.b,o.blk⟩ ?_
  refine ac (λy d _ a=>au a) (ac (λy d _ a=>By a) (ac (v:=.slice (some ⟨g,0,none⟩) M.length rc) (λy d _ a=>lK d.1 rfl a) ?_));refine ac (λy d _ a=>au a) (ac (λy d _ a=>By a) (ac (v:=.slice (some ⟨g,0,none⟩) M.length rc) (λy d _ a=>lK d.1 rfl a) ?_))
  refine ac (v:=pA g (0+((j:Nat):Int).toNat*12)) (λy d _ a=>gO underlying83 (s:=12) kf oo oo a) <|ac (v:=.agg (tmC x).toArray) (λy d _ a=>ldA (n:=12) (vs:=tmC x) underlying268 rfl kr d.2 (by rw[oQ,oK];exact o.elem eF rfl u) (eF _) a) ?_
  have I:x.1.L.length<=1000:=by rcases D.kd with h|h<;>simp_all<;>omega
  refine zfs J I λV W B R O q=>?_;have C:=i.below q;have F:=ae q o.blk o.blk.lt;refine zcs rfl C ⟨by rw[B];exact D,R,λl=>O (N (by rw[<-B];exact l))⟩ oo (λE z=>⟨(C.below z).b,ae z F F.lt⟩) λE c f G P=>?_;exact a E c f _ 0 G (.pre (A.trans q) P)
 .have:(decide (0<=k)&&decide (k<(M.length:Int)))=false:=by
   rw[Bool.eq_false_iff];intro l;simp only[oM,oP]at l;exact m l
  rw[this];exact bc (a w ra rc M 4 h (.refl (jT _ _)))
def zie(h:NM w T p ra rc M cut)(a:K (iv (M.length:Nat)) w):call Q 19 #[pB p] K w :=
 ao (goK func19) (VF (Qf (aD (au (h.fst (bM underlying83 a))))))
def NM.cuts{cs:List Bool}(h:NM w T p ra rc M cut)(o:Oth p w S)(d:blk S p 86 (.slice ra M.length rc::cs.map .bool))(g:cs.length=36):NM S T p ra rc M cs/\NS w S p ra ra:=by refine⟨⟨d,dl h.row λk a=>o.other k λe=>?_,λx c=>⟨(h.ms x c).1,(h.ms x c).2.1.kp λk b a=>o.other k λe=>qI e (a.ne h.b dc),(h.ms x c).2.2⟩,h.few,g⟩,Ch.of_oth o oB,λk a=>.inl a⟩;obtain⟨i,f⟩:=Pr h.row a;exact f.ne h.b dc e
def zgo(h:NM w T p ra rc M cut)(f:∀S cs,NM S T p ra rc M cs->NS w S p ra ra->K (.tuple #[]) S):call Q 151 #[pB p] K w:=by
 refine ao (goK func151) (Uj (zao (bc (cE (vs:=List.replicate 36 (.bool false)) kr (au (Mv (fY (n:=36) (vs:=List.replicate 36 (.bool false)) kr rfl h.b (by simp[h.cut]) dc λc a g=>?_)))))));have a:blk c p 86 (.slice ra M.length rc::(List.replicate 36 false).map .bool):=by
  have e:List.take 1 (.slice ra M.length rc::cut.map Value.bool)++List.replicate 36 (Value.bool false)++List.drop (1+36) (Value.slice ra M.length rc::cut.map Value.bool)=.slice ra M.length rc::(List.replicate 36 false).map .bool:=by
   rw[oS (by simp[h.cut]),oW];rfl
  rw[<-e];exact a
 obtain⟨d,i⟩:=h.cuts g a rfl;exact f c _ d i
def WC{o:Int}(h:K (.bool (bO o)) w):call Q 197 #[iv o] K w:=by
 refine ao (goK func197) (Xc (cJ ?_));unfold bO at h;by_cases a:o≥1
 .rw[show decide (1<=o)=true from qF a,qY]at h;exact ck a (kq (bR a h))
 .rw[show decide (1<=o)=false from qE a,qZ]at h;exact dt a (bG a h)
def zib{i j:Int}(h:NM w T p ra rc M cut)(c:∀S cs (e:Int),NM S T p ra rc M cs->NS w S p ra ra->K (ci e) S):call Q 181 #[pB p,iv i,iv j] K w:=by
 refine ao (goK func181) (VE (Qf (aD (WC (bH ?_)))));refine Sq ?_;have r:∀(z:oD),lg K (qq (pB p) (iv i) (iv j) cT z) w:=λz=>ID (bc (c w cut 10 h (.refl (jT _ _))));cases C:bO i with
 | false=>exact bc (r _)
 | true =>
 refine aD (WC (bH ?_));cases D:bO j with
 | false=>exact bc (r _)
 | true =>
 refine aD (aU (ID ?_));by_cases f:i=j
 .exact aG f (c w cut 10 h (.refl (jT _ _)))
 refine aB f (Sr ?_);simp only[bO,oM,oP]at C D;obtain⟨a,rfl⟩:∃a:Nat,i=(a:Int)+1:=⟨(i-1).toNat,by omega⟩
 obtain⟨b,rfl⟩:∃b:Nat,j=(b:Int)+1:=⟨(j-1).toNat,by omega⟩
 have l:Below w.heap.size w w.drew:=(jT _ w).drew;have m:=h.below l;have t:∀{w:oG} {K:KV},K (iv (a:Nat)) w->bT .sub 3 (iv ((a:Int)+1)) (ci 1) K w:=λc=>co oo oo (by rw[show (a:Int)+1-1=(a:Nat)by omega];exact c)
 have u:∀{w:oG} {K:KV},K (iv (b:Nat)) w->bT .sub 3 (iv ((b:Int)+1)) (ci 1) K w:=λc=>co oo oo (by rw[show (b:Int)+1-1=(b:Nat)by omega];exact c);have n:∀{w:oG} {K:KV} {x:Nat},x<6->K (pA p (1+x*6)) w->bv Q 84 (pA p 1) (iv (x:Nat)) K w:=λE c=>fB underlying84 (s:=6) kf oo oo c
 have q:∀{w:oG} {K:KV} {o x:Nat},x<6->K (pA p (o+x)) w->bv Q 31 (pA p o) (iv (x:Nat)) K w:=λ{w K o x} E c=>fB underlying31 (s:=1) kf oo oo (by rw[oQ,Nat.mul_one];exact c)
 refine ax (λ_=>True) trivial (ac (λy _ _ c=>t c) (ac (λy _ _ c=>u c) (ac (λy _ _ c=>u c) (ac (λy _ _ c=>t c) ?_))));refine ac (λy _ _ c=>au c) (ac (λy _ _ c=>Mv c) (ac (λy _ _ c=>n oo c) (ac (λy _ _ c=>q oo c) ?_)));refine ac (λy _ _ c=>au c) (ac (λy _ _ c=>Mv c) (ac (λy _ _ c=>n oo c) ?_))
 have d:∀{cs:List Bool} {x:Nat},Value.slice ra M.length rc::(cs.set x true).map Value.bool=(Value.slice ra M.length rc::cs.map Value.bool).set (x+1) (.bool true):=λ{cs x} => by rw[List.set_cons_succ,List.map_set]
 have g:=h.cut;refine dw kf m.b (by simp[g];omega) rfl λL k F=>?_;rw[show 1+a*6+b=(a*6+b)+1 by omega, <-d]at k;obtain⟨A,H⟩:=m.cuts F k (by simp[g]);refine aI trivial (ac (λy _ _ c=>q oo c) (dw kf k (by simp[g];omega) rfl λJ v G=>?_));rw[show 1+b*6+a=(b*6+a)+1 by omega, <-d]at v
 obtain⟨B,I⟩:=A.cuts G v (by simp[g]);exact c J _ 0 B ((NS.pre l H).trans I)
end
end
def KS(n0 c4 t19:oF)(zf:oD):=n0::zT zf 1 3 (c4::zT zf 5 14 (t19::zT zf 20 24 ([])))
def KT(c4:oF)(zf:oD):=zT zf 0 4 (c4::zT zf 5 39 ([]))
def nW(K:KV):KE:=kZ f6 [1,1,1,1] K
def zo(K:KV):KE:=aj Q (cd f6 (b1 122)) (nW K) (xx xf (nW K) 0) (rk f6 K)
section
variable {K:KV}{n0 c4 t19:oF}  
def UY{K:KV}(h:bT .lss 3 H (ci 1) (λb w=>aT b false (λb=>bT .gtr 3 H (ci 6) (λa=>b [H,a]) w) (λk=>k [uu,uu] w) λa=>pick b cT (gd a 1) λc w=>cond c (K (.tuple #[.pointer none,ci 1]) w) (call Q 12 #[] (λd=>bld Q 72 #[(0,H),(2,d)] λe=>box Q 72 e λf=>zo K (KS H f (ci 0) (zV (zV zu 2 [.pointer none,ci 0]) 9 [H,b,b,gd a 0,gd a 1,c,H,d,e,f]))) w)) w):Gives Q 6 #[H] w K:=aw func6 kr (mpK h)
def Rs(Inv:oF->oG->Prop)(μ:oF->oG->Nat)(i:Inv t19 w)(k:∀(a:oF) (g:oD) (w:oG) (m:Nat),Inv a w->m=μ a w ->
  bT .lss 3 a (ci 6) (λb w=>cond b (call Q 13 #[] (λb=>nC a λc=>call Q 14 #[n0,c,b] λc=>ext Q c 0 λd=>ext Q c 1 λc=>bT .neq 28 c (ci 0) λe w=>cond e (K (.tuple #[.pointer none,c]) w) (bld Q 69 #[(0,b),(1,d)] (λb=>bj c4 λd=>aq Q 72 d 1 λc=>bv Q 70 c a λc=>sto Q 69 c b λ_=>nC a λa w=>(Inv a w)/\((μ a w)<m)) w)) w) (nW K (KT c4 (zV (zV g 0 [n0]) 19 [a,b])) w)) w):zo K (KS n0 c4 t19 zf) w:=by refine aZ (cd f6 (b1 244)) (zr [(2,2),(5,4),(19,24)]) kr (vP [19] Inv) (vQ [19] μ) i ?_;intro f l j;have h:=k _ (zM zf (gd f) (zr [(2,2),(5,4),(19,24)])) l _ j rfl;revert h;generalize (nW K)=qc0;exact mpF
def Rt(h:K (.tuple #[c4,ci 0]) w):nW K (KT c4 zf) w:=mpK h
end
attribute [irreducible] nW zo
def Ot{K:KV}(h:bj H (λa=>aq Q 69 a 0 λa=>ld Q 66 a λa=>call Q 24 #[a] λb w=>aT b true (λb=>bj H (λa=>aq Q 69 a 1 λc=>ld Q 67 c λd=>call Q 25 #[d] λe=>un Q .not e λf=>b [H,a,c,d,e,f]) w) (λk=>k [uu,uu,uu,uu,uu,uu] w) λa=>pick b (gd a 5) cF K) w):Gives Q 16 #[H] w K:=aw func16 kr (mpK h)
def Qy{K:KV}(h:bT .geq 3 H (ci 1) (λb w=>aT b true (λb=>bT .leq 3 H (ci 6) (λa=>b [H,a]) w) (λk=>k [uu,uu] w) λa=>pick b (gd a 1) cF K) w):Gives Q 15 #[H] w K:=aw func15 kr (mpK h)
def Hx{K:KV}(h:alc Q 38 (λb=>bT .eql 27 Z (.pointer none) λa w=>aT a false (λf=>call Q 15 #[H] (λa=>un Q .not a λb=>f [H,a,b]) w) (λk=>k [uu,uu,uu] w) λe=>pick a cT (gd e 2) λc w=>aT c false (λb=>bT .sub 3 H (ci 1) (λa=>bj Z λc=>aq Q 72 c 1 λd=>bv Q 70 d a λe=>call Q 16 #[e] λf=>un Q .not f λg=>b [Z,H,a,c,d,e,f,g]) w) (λk=>k [uu,uu,uu,uu,uu,uu,uu,uu] w) λa=>pick c cT (gd a 7) λc w=>cond c (bld Q 38 #[] (λa=>sto Q 38 b a λ_=>bA Q [(some 38,b),(none,cF)] K) w) (bT .sub 3 H (ci 1) (λa=>bj Z λc=>aq Q 72 c 1 λc=>bv Q 70 c a λa=>aq Q 69 a 1 λa=>ld Q 67 a λd=>call Q 17 #[d] λa=>sto Q 38 b a λ_=>bA Q [(some 38,b),(none,cT)] K) w)) w):Gives Q 7 #[Z,H] w K:=aw func7 kr (mpK h)
def JY{K:KV}(h:bT .eql 27 H (.pointer none) (λa w=>cond a (K (ci 0) w) (bj H (λa=>aq Q 72 a 2 λa=>ld Q 64 a λa=>call Q 19 #[a] K) w)) w):Gives Q 11 #[H] w K:=aw func11 kr (mpK h)
def Tw{K:KV}(h:alc Q 51 (λa=>bld Q 51 #[(1,H)] λb=>sto Q 51 a b λ_=>bA Q [(some 51,a)] K) w):Gives Q 18 #[H] w K:=aw func18 kr (mpK h)
def vD{K:KV}(h:box Q 44 Z (λh=>alc Q 51 λd=>bT .eql 27 H (.pointer none) λa w=>cond a (call Q 18 #[ci 2] (λa=>sto Q 51 d a λ_=>bA Q [(some 51,d)] K) w) (aq Q 44 h 0 (λa=>ld Q 5 a λa=>bT .eql 5 a (cb 0) λb w=>aT b false (λd=>aq Q 44 h 0 (λa=>ld Q 5 a λb=>conv Q 5 3 b λc=>bT .geq 3 c (ci 13) λe=>d [a,b,c,e]) w) (λk=>k [uu,uu,uu,uu] w) λa=>pick b cT (gd a 3) λa w=>cond a (call Q 18 #[ci 1] (λa=>sto Q 51 d a λ_=>bA Q [(some 51,d)] K) w) (aq Q 44 h 0 (λa=>ld Q 5 a λa=>bv Q 82 (pA 0 0) a λa=>ld Q 81 a λf=>alc Q 81 λc=>sto Q 81 c f λ_=>aq Q 81 c 1 λa=>ld Q 4 a λa=>un Q .not a λa w=>aT a true (λe=>aq Q 44 h 1 (λa=>ld Q 3 a λb=>call Q 15 #[b] λc=>un Q .not c λd=>e [a,b,c,d]) w) (λk=>k [uu,uu,uu,uu] w) λb=>pick a (gd b 3) cF λg w=>cond g (call Q 18 #[ci 10] (λa=>sto Q 51 d a λ_=>bA Q [(some 51,d)] K) w) (aq Q 81 c 0 (λa=>ld Q 79 a λa=>ld Q 44 h λb=>bS Q a #[H,b] λa=>sto Q 51 d a λ_=>bA Q [(some 51,d)] K) w)) w)) w)) w):Gives Q 9 #[H,Z] w K:=aw func9 kr (mpK h)
def Kb{K:KV}(h:box Q 44 H (λa w=>sF 44 a 1 (λa=>sL 3 a λa=>sti (bT .sub 3 a (ci 1)) λa=>sN Z λb=>sF 72 b 1 λb=>sI 70 b a K) w.drew) w):Gives Q 173 #[Z,H] w K:=aw func173 kr (mpK h)
def JZ{K:KV}(h:box Q 44 Z (λa=>alc Q 51 λb=>ld Q 44 a λc=>call Q 173 #[H,c] λc=>call Q 16 #[c] λd=>un Q .not d λd w=>cond d (call Q 18 #[ci 8] (λa=>sto Q 51 b a λ_=>bA Q [(some 51,b)] K) w) (aL (λS w=>hN S c λc=>hF S 69 c 1 λc=>hL S 67 c λc=>hF S 44 a 2 λa=>hL S 42 a λa=>hN S H λd=>hF S 72 d 3 λd=>hL S 32 d λd=>(call Q 174 #[c,a,d] (λa=>aL λS w=>hld S (ext Q a 0) λc=>hld S (ext Q a 1) λa=>alc Q 49 (λd=>bw S λS=>sto Q 49 d c λ_=>bw S λ_=>ld Q 49 d λc=>bld Q 51 #[(0,c),(1,a)] λa=>sto Q 51 b a λ_=>bA Q [(some 51,b)] K) w) w)/\(alc Q 49 (λe=>bw S λ_=>call Q 174 #[c,a,d] λa=>aL λS w=>hld S (ext Q a 0) λc=>hld S (ext Q a 1) λa=>sto Q 49 e c (λ_=>bw S λ_=>ld Q 49 e λc=>bld Q 51 #[(0,c),(1,a)] λa=>sto Q 51 b a λ_=>bA Q [(some 51,b)] K) w) w)) w.drew)) w):Gives Q 161 #[H,Z] w K:=aw func161 kr (mpK h)
def Ad(c0 t4 t23 t24 t25:oF)(zf:oD):=c0::zT zf 1 3 (t4::zT zf 5 18 (t23::t24::t25::zT zf 26 11 ([])))
def Ae(t4:oF)(zf:oD):=zT zf 0 4 (t4::zT zf 5 32 ([]))
def gw(K:KV):KE:=kZ f162 [1,1,1,1] K
def qc(K:KV):KE:=aj Q (cd f162 (b1 122)) (gw K) (xx xf (gw K) 0) (rk f162 K)
section
variable {K:KV}{c0 t4 t23 t24 t25:oF}  
def Jb{K:KV}(h:box Q 44 Z (λb=>alc Q 51 λc=>ld Q 44 b λd=>call Q 173 #[H,d] λe=>call Q 16 #[e] λf=>un Q .not f λg w=>cond g (call Q 18 #[ci 8] (λa=>sto Q 51 c a λ_=>bA Q [(some 51,c)] K) w) (aL (λS w=>hN S e λh=>hF S 69 h 1 λi=>hL S 67 i λj=>hN S H λk=>hF S 72 k 3 λl=>hL S 32 l λa=>call Q 175 #[j,a] (λm=>aL λS w=>hld S (blt Q .len #[83] 3 #[false] #[m]) λn=>qc K (Ad H c m n (ci 0) (zV (zV (zV (zV (zV zu 1 [Z]) 3 [b]) 5 [e]) 8 [H,d,e,e,f,g]) 15 [e,h,i,j,H,k,l,a])) w) w) w.drew)) w):Gives Q 162 #[H,Z] w K:=aw func162 kr (mpK h)
def Gu(Inv:oF->oG->Prop)(μ:oF->oG->Nat)(i:Inv t25 w)(k:∀(a:oF) (g:oD) (w:oG) (m:Nat),Inv a w->m=μ a w ->
  lS a t24 (λb w=>cond b (bv Q 83 t23 a (λb=>ld Q 268 b λb=>alc Q 268 λf=>sto Q 268 f b λ_ w=>aL (λS w=>hN S c0 λb=>hF S 72 b 2 λc=>hL S 64 c λb=>hL S 268 f λc=>call Q 176 #[b,c] (λ_=>nC a λa w=>(Inv a w)/\((μ a w)<m)) w) w.drew) w) (gw K (Ae t4 (zV (zV g 0 [c0]) 23 [t23,t24,a,b])) w)) w):qc K (Ad c0 t4 t23 t24 t25 zf) w:=by refine aZ (cd f162 (b1 244)) (zr [(7,1),(25,11)]) kr (vP [25] Inv) (vQ [25] μ) i ?_;intro e l j;have h:=k _ (zM zf (gd e) (zr [(7,1),(25,11)])) l _ j rfl;revert h;generalize (gw K)=qc0;exact mpF
def Gv(h:call Q 18 #[ci 0] (λa=>sto Q 51 t4 a λ_=>bA Q [(some 51,t4)] K) w):gw K (Ae t4 zf) w:=mpK h
end
attribute [irreducible] gw qc
def Jc{K:KV}(h:box Q 44 Z (λc=>alc Q 51 λb w=>sF 44 c 5 (λa=>sL 3 a λa=>sti (bT .lss 3 a (ci 0)) λa w=>aT a false (λf=>sF 44 c 5 (λa=>sL 3 a λb=>sti (bT .gtr 3 b (ci 1099511627776)) λc=>f [a,b,c]) w) (λk=>k [uu,uu,uu] w) λe=>sti (pick a cT (gd e 2)) λd w=>aT d false (λb=>sN H (λa=>sF 72 a 3 λd=>sL 32 d λe=>sF 44 c 5 λf=>sL 3 f λg=>sti (conv Q 3 32 g) λh=>sti (bF .add 32 e h) λi=>sti (bT .gtr 32 i (cu 1099511627776)) λc=>b [H,a,d,e,f,g,h,i,c]) w) (λk=>k [uu,uu,uu,uu,uu,uu,uu,uu,uu] w) λa=>sti (pick d cT (gd a 8)) λa w=>cond a (call Q 18 #[ci 1] (λa=>sto Q 51 b a λ_=>bA Q [(some 51,b)] K) w) (sN H (λa=>sF 72 a 3 λa=>sL 32 a λa=>sF 44 c 5 λc=>sL 3 c λc=>sti (conv Q 3 32 c) λd=>sti (bF .add 32 a d) λa=>sN H λc=>sF 72 c 3 λc=>sto Q 32 c a λ_=>call Q 18 #[ci 0] λa=>sto Q 51 b a λ_=>bA Q [(some 51,b)] K) w.drew)) w.drew) w):Gives Q 163 #[H,Z] w K:=aw func163 kr (mpK h)
def nK(c0 t4 m5 x7:oF)(zf:oD):=c0::zT zf 1 3 (t4::m5::zf 6::x7::zT zf 8 35 ([]))
def gl(K:KV):KE:=aj Q (cd f164 [1,1,1,1]) (rk f164 K) xf (rk f164 K)
section
variable {K:KV}{c0 t4 m5 x7:oF}  
def FC{K:KV}(h:box Q 44 Z (λb=>alc Q 51 λc w=>aL (λS w=>hN S H λd=>hF S 72 d 2 λe=>hL S 64 e λf=>hF S 44 b 3 λg=>hL S 3 g λh=>(call Q 177 #[f,h] (λi=>aL λS w=>hld S (ext Q i 0) λj=>hld S (ext Q i 1) λk=>alc Q 268 (λl=>bw S λS=>sto Q 268 l j λ_=>bw S λ_=>un Q .not k λm w=>cond m (call Q 18 #[ci 4] (λa=>sto Q 51 c a λ_=>bA Q [(some 51,c)] K) w) (sF 268 l 2 (λa=>sL 3 a λn=>sti (bT .sub 3 n (ci 1)) λo=>sN H λp=>sF 72 p 1 λr=>sI 70 r o λs=>gl K (nK H c l s (zV (zV (zV (zV (zV zu 1 [Z]) 3 [b]) 6 [k]) 8 [i,H,d,e,f,g,h,i,j,k,k,m]) 21 [H,a,n,o,p,r,s]))) w.drew)) w) w)/\(alc Q 268 (λi=>bw S λ_=>call Q 177 #[f,h] λj=>aL λS w=>hld S (ext Q j 0) λk=>hld S (ext Q j 1) λl=>sto Q 268 i k (λ_=>bw S λ_=>un Q .not l λm w=>cond m (call Q 18 #[ci 4] (λa=>sto Q 51 c a λ_=>bA Q [(some 51,c)] K) w) (sF 268 i 2 (λa=>sL 3 a λn=>sti (bT .sub 3 n (ci 1)) λo=>sN H λp=>sF 72 p 1 λr=>sI 70 r o λs=>gl K (nK H c i s (zV (zV (zV (zV (zV zu 1 [Z]) 3 [b]) 6 [l]) 8 [j,H,d,e,f,g,h,j,k,l,l,m]) 21 [H,a,n,o,p,r,s]))) w.drew)) w) w)) w.drew) w):Gives Q 164 #[H,Z] w K:=by refine aw func164 kr <|Eq.mp (qH (λc=>aj Q c _ _ _ _ w) (by kernel_rfl:(rep [1,1,1,1] (cd f164 [1,1,1,1]) (cd f164 []))=(cd f164 []))) ?_;revert h;delta gl;generalize (cd f164 [1,1,1,1])=xc0;exact mpF
def Du(h:call Q 16 #[x7] (λa=>un Q .not a λa w=>cond a (call Q 18 #[ci 8] (λa=>sto Q 51 t4 a λ_=>bA Q [(some 51,t4)] K) w) (aL (λS w=>hN S x7 λa=>hF S 69 a 1 λa=>hL S 67 a λa=>hL S 268 m5 λc=>hN S c0 λb=>hF S 72 b 3 λb=>hL S 32 b λb=>call Q 178 #[a,c,b] (λa=>aL λ_=>call Q 18 #[a] λa=>aL λ_=>sto Q 51 t4 a λ_=>bA Q [(some 51,t4)] K) w) w.drew)) w):gl K (nK c0 t4 m5 x7 zf) w:=mpK h
end
attribute [irreducible] gl
def IV{K:KV}(h:box Q 44 H (λa=>alc Q 51 λb w=>aL (λS w=>hN S Z λc=>hF S 72 c 2 λc=>hL S 64 c λc=>hF S 44 a 3 λa=>hL S 3 a λa=>call Q 179 #[c,a] (λa=>aL λS w=>hld S (un Q .not a) λa=>cond a (call Q 18 #[ci 4] (λa=>sto Q 51 b a λ_=>bA Q [(some 51,b)] K) w) (call Q 18 #[ci 0] (λa=>sto Q 51 b a λ_=>bA Q [(some 51,b)] K) w)) w) w.drew) w):Gives Q 165 #[Z,H] w K:=aw func165 kr (mpK h)
def Hy{K:KV}(h:box Q 44 H (λa=>alc Q 51 λb w=>aL (λS w=>hN S Z λc=>hF S 72 c 2 λc=>hL S 64 c λc=>hF S 44 a 3 λa=>hL S 3 a λa=>call Q 180 #[c,a] (λa=>aL λ_=>call Q 18 #[a] λa=>aL λ_=>sto Q 51 b a λ_=>bA Q [(some 51,b)] K) w) w.drew) w):Gives Q 166 #[Z,H] w K:=aw func166 kr (mpK h)
def K8{K:KV}(h:box Q 44 H (λa=>alc Q 51 λb w=>aL (λS w=>hN S Z λc=>hF S 72 c 2 λc=>hL S 64 c λc=>hF S 44 a 1 λd=>hL S 3 d λd=>hF S 44 a 4 λa=>hL S 3 a λa=>call Q 181 #[c,d,a] (λa=>aL λ_=>call Q 18 #[a] λa=>aL λ_=>sto Q 51 b a λ_=>bA Q [(some 51,b)] K) w) w.drew) w):Gives Q 167 #[Z,H] w K:=aw func167 kr (mpK h)
def IX{K:KV}(h:box Q 44 H (λ_=>alc Q 51 λa=>bj Z λb=>aq Q 72 b 2 λb=>ld Q 64 b λb=>call Q 151 #[b] λ_=>call Q 18 #[ci 0] λb=>sto Q 51 a b λ_=>bA Q [(some 51,a)] K) w):Gives Q 168 #[Z,H] w K:=aw func168 kr (mpK h)
def IW{K:KV}(h:box Q 44 H (λa=>alc Q 51 λb w=>aL (λS w=>hL S 44 a λc=>hF S 44 a 5 λa=>hL S 3 a λa=>call Q 173 #[Z,c] (λc=>bw S λS w=>hN S c λc=>hF S 69 c 0 λc=>hL S 66 c λc=>call Q 182 #[c,a] (λ_=>call Q 18 #[ci 0] λa=>sto Q 51 b a λ_=>bA Q [(some 51,b)] K) w) w) w.drew) w):Gives Q 169 #[Z,H] w K:=aw func169 kr (mpK h)
def Ka{K:KV}(h:box Q 44 H (λa=>alc Q 51 λb=>ld Q 44 a λa=>call Q 173 #[Z,a] λa=>bj a λa=>aq Q 69 a 0 λa=>ld Q 66 a λa=>call Q 68 #[a] λ_=>call Q 18 #[ci 0] λa=>sto Q 51 b a λ_=>bA Q [(some 51,b)] K) w):Gives Q 170 #[Z,H] w K:=aw func170 kr (mpK h)
def BN(t4 x5 u_7 e8:oF)(zf:oD):=zT zf 0 4 (t4::x5::zf 6::u_7::e8::zT zf 9 36 ([]))
def BO(t4 x5 u_7 e8 t38:oF)(zf:oD):=zT zf 0 4 (t4::x5::zf 6::u_7::e8::zT zf 9 29 (t38::zT zf 39 6 ([])))
def vE(t4 e8:oF)(zf:oD):=zT zf 0 4 (t4::zT zf 5 3 (e8::zT zf 9 36 ([])))
def nU(K:KV):KE:=aj Q (cd f171 [1,1,1,1]) (rk f171 K) xf (rk f171 K)
def ic(K:KV):KE:=kZ f171 (b1 63) K
def nV(K:KV):KE:=aj Q (cd f171 (b1 125)) (ic K) xf (rk f171 K)
section
variable {K:KV}{t4 x5 u_7 e8 t38:oF}  
def KR{K:KV}(h:box Q 44 Z (λb=>alc Q 51 λc=>ld Q 44 b λd=>call Q 173 #[H,d] λe w=>aL (λS w=>hN S e λf=>hF S 69 f 0 λg=>hL S 66 g λh=>hF S 44 b 6 λi=>hL S 24 i λj=>call Q 183 #[h,j] (λk=>aL λ_=>bT .neq 28 k (ci 0) λl w=>cond l (call Q 18 #[k] (λb=>sto Q 51 c b λ_=>bA Q [(some 51,c)] K) w) (aL (λS w=>hN S H λm=>hF S 72 m 0 λn=>hL S 3 n λo=>hF S 44 b 1 λp=>hL S 3 p λr=>hN S e λa=>hF S 69 a 0 λs=>hL S 66 s λt=>call Q 14 #[o,r,t] (λu=>aL λS w=>hld S (ext Q u 0) λv=>hld S (ext Q u 1) λx=>nU K (BN c e v x (zV (zV (zV (zV (zV zu 0 [H,Z]) 3 [b]) 6 [k]) 9 [H,d,e,e,f,g,h,i,j,k,k,l]) 23 [u,H,m,n,o,p,r,e,a,s,t,u,v,x])) w) w) w.drew)) w) w.drew) w):Gives Q 171 #[H,Z] w K:=by refine aw func171 kr <|Eq.mp (qH (λc=>aj Q c _ _ _ _ w) (by kernel_rfl:(rep [1,1,1,1] (cd f171 [1,1,1,1]) (cd f171 []))=(cd f171 []))) ?_;revert h;delta nU;generalize (cd f171 [1,1,1,1])=xc0;exact mpF
def IY(h:bT .eql 28 e8 (ci 0) (λa=>nV K (BO t4 x5 u_7 e8 a (zV zf 37 [e8]))) w):nU K (BN t4 x5 u_7 e8 zf) w:=by delta nU;refine Eq.mp (qH (λc=>aj Q c _ _ _ _ w) (by kernel_rfl:(rep [0,1] (cd f171 (b1 125)) (cd f171 [1,1,1,1]))=(cd f171 [1,1,1,1]))) ?_;revert h;delta nV ic;generalize (cd f171 (b1 125))=xc0;exact mpF
def IZ(h:cond t38 (bj x5 (λa=>aq Q 69 a 1 λb=>sto Q 67 b u_7 λ_=>ic K (vE t4 e8 (zV (zV (zV zf 5 [x5]) 7 [u_7]) 38 [t38,x5,u_7,a,b]))) w) (ic K (vE t4 e8 (zV (zV (zV zf 5 [x5]) 7 [u_7]) 38 [t38])) w)):nV K (BO t4 x5 u_7 e8 t38 zf) w:=by delta nV;revert h;generalize (ic K)=qc0;exact mpF
def Ja(h:call Q 18 #[e8] (λa=>sto Q 51 t4 a λ_=>bA Q [(some 51,t4)] K) w):ic K (vE t4 e8 zf) w:=mpK h
end
attribute [irreducible] nU ic nV
def zil{F:List EV}{l:PL}(h:okL eff OK l F):∀e∈F,e.q<6:=λe a=>by
 have:=jb (VM h e a)
 unfold EV.q;omega
def zcv:∀{F:List EV} {l:PL},PI l->okL eff OK l F->∀e∈F,l.V.getD e.q 0<e.s
 | [],_,_,_,_,a=>by cases a
 | x::F,l,hp,hok,e,a=>by
  rcases oO.1 a with rfl|a
  .have b:=hok.1.rdy;unfold fW at b;simp only[oM,oP]at b
   have:e.s=l.V.getD e.q 0+1:=b.2.1
   omega
  .have d:=zcv (F:=F) (hp.eff hok.1) hok.2 e a;have c:=JT (i:=e.q) (F:=[x]) hp ⟨hok.1,trivial⟩;have c:l.V.getD e.q 0<=(eff x l).V.getD e.q 0:=c;omega
def zaq:∀{F:List EV} {l:PL},PI l->okL eff OK l F->F.Pairwise λa b=>a.q=b.q->a.s<b.s
 | [],_,_,_=>.nil
 | x::F,l,hp,hok=>by
  refine List.pairwise_cons.2 ⟨λe f g=>?_,zaq (hp.eff hok.1) hok.2⟩;have h:=zcv (F:=F) (hp.eff hok.1) hok.2 e f;have c:=hok.1.rdy;unfold fW at c;simp only[oM,oP]at c;have i:x.s=l.V.getD x.q 0+1:=c.2.1;have d:=congrFun (Ew hp hok.1) e.q;unfold kV upD at d;rw[oJ g.symm]at d;omega
def zcX:∀{F:List EV} {l:PL},(je eff l F).G.length<=l.G.length+F.length
 | [],_=>Nat.le_refl _
 | e::F,l=>by
  have a:(je eff (eff e l) F).G.length<=(eff e l).G.length+F.length:=zcX;have b:(eff e l).G.length<=l.G.length+1:=by
   show ((gop e).ap l.G).length<=_;unfold gop;split
   .show (kJ _ l.G).length<=_;rw[Yv];exact Nat.le_refl _
   .split
    .show (l.G.map _).length<=_;rw[oY];omega
    .exact Nat.le_succ _
  show (je eff (eff e l) F).G.length<=_;rw[oZ];omega
section
variable {n:Nat}{T:Nat->Int}{s:RS}{W:HM}
def SiP.G(h:SiP n i T s W):s.l.G.length<=s.A.length:=by
 have:=zcX (F:=s.A) (l:=pl0 n)
 rw[<-h.d.st]at this;have e:(pl0 n).G.length=0:=rfl;omega
def SiP.inc(h:SiP n i T s W):s.A.Pairwise λa b=>a.q=b.q->a.s<b.s:=zaq (GI n) h.d.ok
def SiP.q6(h:SiP n i T s W):∀e∈s.A,e.q<6:=zil h.d.ok
end
section
open Go.ChangeMaps
def zdO{K:KV}(h:K (pA b (o+0)) w):aq Q 72 (pA b o) 0 K w:=aQ kr h
def DB{K:KV}(h:K (pA b (o+1)) w):aq Q 72 (pA b o) 1 K w:=aQ kr h
def Bu{K:KV}(h:K (pA b (o+13)) w):aq Q 72 (pA b o) 2 K w:=aQ kr h
def DC{K:KV}(h:K (pA b (o+14)) w):aq Q 72 (pA b o) 3 K w:=aQ kr h
def HP{K:KV}(h:K (pA b (o+0)) w):aq Q 69 (pA b o) 0 K w:=aQ kr h
def DM{K:KV}(h:K (pA b (o+1)) w):aq Q 69 (pA b o) 1 K w:=aQ kr h
def uY{K:KV}(h:K (pA b (o+0)) w):aq Q 44 (pA b o) 0 K w:=aQ kr h
def DN{K:KV}(h:K (pA b (o+1)) w):aq Q 44 (pA b o) 1 K w:=aQ kr h
def DO{K:KV}(h:K (pA b (o+2)) w):aq Q 44 (pA b o) 2 K w:=aQ kr h
def RT{K:KV}(h:K (pA b (o+8)) w):aq Q 44 (pA b o) 3 K w:=aQ kr h
def zdV{K:KV}(h:K (pA b (o+9)) w):aq Q 44 (pA b o) 4 K w:=aQ kr h
def HQ{K:KV}(h:K (pA b (o+10)) w):aq Q 44 (pA b o) 5 K w:=aQ kr h
def Yg{K:KV}(h:K (pA b (o+11)) w):aq Q 44 (pA b o) 6 K w:=aQ kr h
def anC(e:EV)(x:Int):oE:=evC e++[ci x]
abbrev anV(e:EV)(x:Int):oF:=.agg (anC e x).toArray
theorem zfB{e:EV}:(anC e x).length=15:=rfl
def UQ{e:EV}:∀v∈anC e x,v.oneCell'=true:=λv a=>(oU.1 a).elim (Dz e v) λh=>by rw[mS h];rfl
def Cd{n:Nat}{X:Nat->SX}{now:Int}(hi:i<6):(mj n np X now)[1+i*2]? = some (ptr (X i).p)/\(mj n np X now)[1+i*2+1]? = some (pB (X i).u):=by
 match i,hi with
 | 0,_=>exact⟨rfl,rfl⟩
 | 1,_=>exact⟨rfl,rfl⟩
 | 2,_=>exact⟨rfl,rfl⟩
 | 3,_=>exact⟨rfl,rfl⟩
 | 4,_=>exact⟨rfl,rfl⟩
 | 5,_=>exact⟨rfl,rfl⟩
theorem XM{n:Nat}{X:Nat->SX}{a:Int}:(mj n np X a).length=15:=rfl
def SX.on:SX->Bool
 | .up _ _ _=>true
 | .dn _ _ _ _=>false
def ue:SX->SX
 | .up Y s _=>.dn Y.p Y.u s.A []
 | x=>x
def fuX(N:Int):SX->SX
 | .up Y s _=>.up Y s (if 0<=N then N else -1)
 | x=>x
section
variable  {K:KV}{B0 n t:Nat}{Z:List Nat}{c:CX}{s:STP}{v:oF}
theorem UO {p : Nat} (hw : s.who = (i : Int) + 1) (hi : i < 6) (hK : ∀ w', Below w.heap.size w w' → K (.pointer (some ⟨p, 1 + i * 2, none⟩)) w') : call Tryz.prog 173 #[pB p, .agg (stC s v).toArray] K w := by
  refine ao (goK Tryz.func173) (Kb (bU fun w1 z1 b1 s1 => ?_))
  have z1 : blk w1 w.heap.size 44 (stC s v) := by simpa [Value.cells] using z1
  refine ah (fun K hK => DN hK) (ah (v := iv s.who) (fun K hK => ld1 (fun _ => by kernel_rfl) z1.drew rfl hK) (ah (v := iv (i : Nat)) (fun K hK => by rw [hw]; exact co (by omega) (by omega) (by rw [show (i : Int) + 1 - 1 = (i : Nat) by omega]; exact hK)) ?_))
  refine ah (fun K hK => au hK) (ah (fun K hK => DB hK) (ah (v := .pointer (some ⟨p, 1 + i * 2, none⟩)) (fun K hK => fB Tryz.underlying70 (s := 2) (fun _ => by kernel_rfl) (by omega) (by omega) hK) (hK _ b1.drew)))
def Dx(h:K (.bool false) w):bin Q .eql 27 cx cy (pB b) (.pointer none) K w :=
 eH (by unfold eqG eqGuard;rfl) kr h
def Ox{o:Int}(h:K (.bool (bO o)) w):call Q 15 #[iv o] K w:=by
 refine ao (goK func15) (Qy (cJ ?_));unfold bO at h;by_cases a:o≥1
 .rw[show decide (1<=o)=true from qF a,qY]at h;exact ck a (kq (bR a h))
 .rw[show decide (1<=o)=false from qE a,qZ]at h;exact dt a (bG a h)
def CM.ldp(h:CM w B0 n b Z c)(hi:i<6)(a:K (ptr (c.X i).p) w):ld Q 66 (pA c.p (1+i*2)) K w:=lK h.cb (Cd hi).1 a
def CM.ldu(h:CM w B0 n b Z c)(hi:i<6)(a:K (pB (c.X i).u) w):ld Q 67 (pA c.p (1+i*2+1)) K w:=lK h.cb (Cd hi).2 a
def zbE(h:CM w B0 n b Z c)(hi:i<6)(a:K (.bool (c.X i).on) w):call Q 16 #[pA c.p (1+i*2)] K w:=by
 have d:=h.st i hi;refine ao (goK func16) (Ot (au (HP (h.ldp hi ?_))));have f:∀{K:KV},K (pB (c.X i).u) w->ld Q 67 (pA c.p (1+i*2+1)) K w:=λa=>h.ldu hi a;cases e:c.X i with
 | up Y s fu =>
  rw[e]at d a f;exact XU d.1.jk.1 (my (au (DM (f (zhE d.1 (bH (dD a)))))))
 | dn p u A L =>
  rw[e]at d a;obtain⟨z,g⟩:=d.1.dk;exact XU g (js (cA a))
def Up{e:Int}(a:∀S,Below w.heap.size w S->K (anV evZ e) S):call Q 18 #[ci e] K w:=by
 refine ao (goK func18) (Tw (cD (z:=anV evZ 0) kr λh b f i=>cE (vs:=anC evZ e) kr ?_));have b:=cZ b
 refine fY (n:=15) (vs:=anC evZ e) kr rfl b (by rw[zfB];omega) UQ λd c g=>?_;have c:blk d w.heap.size 51 (anC evZ e):=c;exact uO (v:=anV evZ e) (λ_ a=>ldA (n:=15) (vs:=anC evZ e) underlying51 rfl kr c rfl rfl a) (a d (aK f g oA))
def CM.pro{K2:oF->oF->oG->Prop}(h:CM w B0 n b Z c)(k:∀S t3 t4,CM S B0 n b (t4::t3::Z) c->CS w S B0 Z->t4∉Z->t4≠t3->blk S t3 44 (stC s v)->blk S t4 51 (anC evZ 0)->K2 (pB t3) (pB t4) S):box Q 44 (.agg (stC s v).toArray) (λa=>alc Q 51 λb=>K2 a b) w:=by
 refine bU λi a f m=>cD (z:=anV evZ 0) kr λj d g o=>?_;have a:=cZ a
 have d:=cZ d
 have e:=f.trans (g.mono f.size);refine k j w.heap.size i.heap.size ((h.new f oA a.lt).new g oA d.lt) (h.csb e) (λl=>by have:=(h.own _ l).1;omega) oo (ae g a a.lt) d
def CM.fin'{e:EV}{cs:oE}(h:CM w B0 n b (t::Z) c)(f:blk w t 51 cs)(m:cs.length=15)(j:t∉Z)(a:∀S,CM S B0 n b Z c->CS w S B0 Z->K (anV e x) S):sto Q 51 (pB t) (anV e x) (λ_=>bA Q [(some 51,pB t)] K) w:=by
 refine fY (n:=15) (vs:=anC e x) kr rfl f oo UQ λl g d=>?_;rw[qX,oV,oS oo,oW]at g;have k:=(h.own t oL).2.1
 exact uO (v:=anV e x) (λ_ a=>ldA (n:=15) (vs:=anC e x) underlying51 rfl kr g rfl rfl a) (a l ((h.oth d oL f dc).sub λ_ h=>oH _ h) ⟨(aK (jT _ w) d k),λx i=>d.other x λe=>j (e ▸ i)⟩)
def CM.fin{e:Int}{cs:oE}(h:CM w B0 n b (t::o::Z) c)(g:blk w t 51 cs)(k:cs.length=15)(m:t∉Z)(f:t≠o)(j:∀S,CM S B0 n b Z c->CS w S B0 Z->K (anV evZ e) S):call Q 18 #[ci e] (λa=>sto Q 51 (pB t) a λ_=>bA Q [(some 51,pB t)] K) w:=by refine Up λr d=>?_;refine(h.below d).fin' (ae d g g.lt) k (λl=>(oO.1 l).elim f m) λq i p=>?_;exact j q (i.sub λ_ h=>oH _ h) (((h.csb d).sub λ_ h=>oH _ (oH _ h)).trans (p.sub λ_ h=>oH _ h))
def Kt(c:blk w b 44 (stC s v))(a:K (.agg (stC s v).toArray) w):ld Q 44 (pB b) K w:=ldA (n:=12) (vs:=stC s v) underlying44 rfl kr c rfl rfl a
def zbT(h:CM w B0 n b Z c)(hw:s.who=(i:Int)+1)(hi:i<6)(V:∀w',CM w' B0 n b Z {c with X:=eR c.X i (ue (c.X i))}->CS w w' B0 Z->K (anV evZ 0) w'):call Q 170 #[pB c.p,.agg (stC s v).toArray] K w:=by
 refine ao (goK func170) (Ka (h.pro λw1 t3 I E s1 n4 ne z3 M=>Kt z3 (UO hw hi λJ t=>au (HP ?_))));have m:=E.below t;have D:=ae t M M.lt;have g:=m.st i hi;have o:=m.sz i hi;have C:CS w J B0 Z:=s1.trans ((E.csb t).sub λ_ h=>oH _ (oH _ h))
 have l:∀{w3:oG},SxM w3 n i c.T (ue (c.X i))->Oth (c.X i).p J w3->(ue (c.X i)).F⊆(c.X i).F->(ue (c.X i)).B⊆(c.X i).B->(c.X i).p∈(c.X i).F->(ue (c.X i)).p=(c.X i).p->(ue (c.X i)).u=(c.X i).u->(ue (c.X i)).n<=b ->
   call Q 18 #[ci 0] (λa=>sto Q 51 (pB I) a λ_=>bA Q [(some 51,pB I)] K) w3:=λ{w3} y j U S hp N O hn=>by
  obtain⟨P,H⟩:=m.site hi y (λ_=>Int.le_refl _) (λ_ _ _=>rfl) (Ch.of_oth j hp) (λk f=>.inl (U f)) (λk f=>.inl (S f)) N O oA hn;exact P.fin (H.blk oL D) rfl n4 ne λw4 R s4=>V w4 R ((C.trans (H.sub λ_ h=>oH _ (oH _ h))).trans s4)
 refine m.ldp hi ?_;cases G:c.X i with
 | up Y s' fu =>
  rw[G]at g l o;refine zbd g.1.jk.1 λw3 x j=>l ⟨g.1.dn x j,g.2.off⟩ j ?_ ?_ (rH.2 (.inr mp1)) rfl rfl o
  .intro k f;simp only[ue,SX.F,oO,oR,or_false]at f;rcases f with rfl|rfl
   .exact rH.2 (.inr mp1)
   .exact rH.2 (.inr mp3)
  .intro k f;simp only[ue,SX.B,oO,oR,or_false]at f;rcases f with rfl|rfl
   .exact qj.2 (.inr mp1)
   .exact qj.2 (.inr mp3)
 | dn p u A L =>
  rw[G]at g l o;obtain⟨z,f⟩:=g.1.dk;refine zbd f λw3 x j=>l ⟨⟨⟨-1,x⟩,?_⟩,g.2⟩ j (λ_ h=>h) (λ_ h=>h) oL rfl rfl o;obtain⟨r,q,d,W⟩:=g.1.b;exact⟨r,q,d,j.blk W λe=>g.1.ne e.symm⟩
def ZR(h:CM w B0 n b Z c)(hw:s.who=(i:Int)+1)(hi:i<6)(hN:FE s.n)(f:∀w',CM w' B0 n b Z {c with X:=eR c.X i (fuX s.n (c.X i))}->CS w w' B0 Z->K (anV evZ 0) w'):call Q 169 #[pB c.p,.agg (stC s v).toArray] K w:=by
 refine ao (goK func169) (IW (h.pro λD t3 R N s1 n4 ne I U=>?_));have M:Below D.heap.size D D.drew:=(jT _ D).drew;have x:=N.below M;refine ax (λy=>blk y t3 44 (stC s v)/\blk y c.p 72 (mj n c.np c.X c.now)) ⟨I.drew,x.cb⟩ ?_;refine ac (λy d _ f=>Kt d.1 f) (ac (λy d _ f=>HQ f) (ac (v:=iv s.n) (λy d _ f=>lK d.1 rfl f) ?_));refine UO hw hi λS m=>?_
 have t:=x.below m;have J:=ae m U.drew U.drew.lt;have g:=t.st i hi;have C:=t.sz i hi;have H:CS w S B0 Z:=s1.trans ((N.csb (M.trans m)).sub λ_ h=>oH _ (oH _ h));refine aI ⟨ae m I.drew I.drew.lt,t.cb⟩ (ac (λy d _ f=>au f) (ac (λy d _ f=>HP f) (ac (v:=ptr (c.X i).p) (λy d _ f=>lK d.2 (Cd hi).1 f) ?_)))
 have o:∀{w3:oG},SxM w3 n i c.T (fuX s.n (c.X i))->Oth (c.X i).p S w3->(fuX s.n (c.X i)).F=(c.X i).F->(fuX s.n (c.X i)).B=(c.X i).B->(c.X i).p∈(c.X i).F->(fuX s.n (c.X i)).p=(c.X i).p->(fuX s.n (c.X i)).u=(c.X i).u->(fuX s.n (c.X i)).n<=b ->
   call Q 18 #[ci 0] (λa=>sto Q 51 (pB R) a λ_=>bA Q [(some 51,pB R)] K) w3:=λ{w3} G j hF hB hp V W hn=>by
  obtain⟨h3,P⟩:=t.site hi G (λ_=>Int.le_refl _) (λ_ _ _=>rfl) (Ch.of_oth j hp) (λk l=>.inl (hF ▸ l)) (λk l=>.inl (hB ▸ l)) V W oA hn;exact h3.fin (P.blk oL J) rfl n4 ne λw4 h4 s4=>f w4 h4 ((H.trans (P.sub λ_ h=>oH _ (oH _ h))).trans s4)
 cases O:c.X i with
 | up Y s' fu =>
  rw[O]at g o C;refine zc9 g.1.jk.1 hN λw3 E j=>o (w3:=w3) ⟨(g.1.jrn (Ch.of_oth j oL) ⟨E,?_⟩).1,g.2⟩ j rfl rfl (rH.2 (.inr mp1)) rfl rfl C;obtain⟨ds,x⟩:=g.1.jk.1.blk;exact j.blk g.1.jk.2 λe=>g.1.jk.2.ne x dc e
 | dn p u A L =>
  rw[O]at g o C;obtain⟨z,l⟩:=g.1.dk;refine zc9 l hN λw3 E j=>o (w3:=w3) ⟨⟨⟨_,E⟩,?_⟩,g.2⟩ j rfl rfl oL rfl rfl C;obtain⟨r,q,d,hb⟩:=g.1.b;exact⟨r,q,d,j.blk hb λe=>g.1.ne e.symm⟩
end
def ziM{T:Nat->Int}(hi:i<6):zeZ T i 6=T 6:=oI oo
structure SP(c c':CX):Prop where
 p:c'.p=c.p
 r:c'.T 6=c.T 6
def SP.refl{c:CX}:SP c c:=⟨rfl,rfl⟩
def SP.trans{a b c:CX}(h:SP a b)(k:SP b c):SP a c:=⟨k.p.trans h.p,k.r.trans h.r⟩
section
variable  {B0 n:Nat}{Z:List Nat}{c:CX}{T':Nat->Int}{Y Y':DuX}{s s':RS}{fu':Int}{A L:List EV}{p u:Nat}
def CM.up(h:CM w B0 n b Z c)(hi:i<6)(a:c.X i=.up Y s fu)(l:∀q,c.T q<=T' q)(e:∀q,q≠i->T' q=c.T q)(m:DuM S i Y' s' s'.A fu')(r:SiP n i T' s' Y'.X.W)(t:DuS w S Y Y')(j:Y'.p=Y.p/\Y'.u=Y.u)(v:s'.A.length<=s.A.length+d):CM S B0 n (b+d) Z {c with X:=eR c.X i (.up Y' s' fu'),T:=T'}/\CS w S B0 Z:=by have g:=h.sz i hi;rw[a]at g;have g:s.A.length<=b:=g;refine h.site hi (x':=.up Y' s' fu') ⟨m,r⟩ l (λq o _=>e q o) (by rw[a];exact t.ch) (λk f=>by rw[a];exact t.nf k f) (λk f=>by rw[a];exact t.na k f) (by rw[a];exact j.1) (by rw[a];exact j.2) (Nat.le_add_right _ _) (by show s'.A.length<=_;omega)
def CM.down(h:CM w B0 n b Z c)(hi:i<6)(a:c.X i=.up Y s fu)(l:DnM S Y.p Y.u s.A L)(m:SdP n i c.T s.A L)(j:Ch (DF Y) w S)(o:L.length<=d):CM S B0 n (b+d) Z {c with X:=eR c.X i (.dn Y.p Y.u s.A L)}/\CS w S B0 Z:=by
 have g:=h.sz i hi;rw[a]at g;have g:s.A.length<=b:=g;have f:∀k∈[Y.p,Y.u],k∈[Y.p,Y.q,Y.u]:=λk e=>by simp only[oO,oR,or_false]at e |-; exact e.elim .inl λh=>.inr (.inr h)
 refine h.site hi (x':=.dn Y.p Y.u s.A L) ⟨l,m⟩ (λ_=>Int.le_refl _) (λ_ _ _=>rfl) (by rw[a];exact j) (λk e=>.inl ?_) (λk e=>.inl ?_) (by rw[a];rfl) (by rw[a];rfl) (Nat.le_add_right _ _) (by show s.A.length+L.length<=_;omega)
 .rw[a];exact rH.2 (.inr (f k e))
 .rw[a];exact qj.2 (.inr (f k e))
end
inductive AskR (i:Nat) (x:AK) (c:CX):CX->EV->Int->Prop
 | no {Y Y':DuX} {s:RS} {fu e:Int} (hX:c.X i=.up Y s fu) (hn:NoP i s.l x e):AskR i x c {c with X:=eR c.X i (.up Y' s fu)} evZ e
 | yes {Y Y':DuX} {s:RS} {fu fu':Int} (hX:c.X i=.up Y s fu) (h0:eC (mkP i s.l x) s.l=0) (hna:sx ((i:Int)+1) s.l x) (hf:fu = -1->fu' = -1) (hw:x.r=0->Y'.X.ws=Y.X.ws) :
  AskR i x c {c with X:=eR c.X i (.up Y' ⟨eff (mkP i s.l x) s.l,s.A++[mkP i s.l x],s.P⟩ fu'),T:=zeZ c.T i} (mkP i s.l x) 0
 | off {Y:DuX} {s:RS} {fu:Int} (hX:c.X i=.up Y s fu) (h0:eC (mkP i s.l x) s.l=0) (hna:sx ((i:Int)+1) s.l x) (hf:fu≠-1):AskR i x c {c with X:=eR c.X i (.dn Y.p Y.u s.A [mkP i s.l x])} evZ 8
section
variable  {K:KV}{B0 n t:Nat}{Z:List Nat}{c:CX}{s:STP}{v:oF}
def CM.do_{x:AK}{Y:DuX}{r:RS}(h:CM w B0 n b Z c)(hi:i<6)(N:b<=20000)(a:c.X i=.up Y r fu)(L:Ak x)(F:x.k≠7/\x.r<c.T 6)(t:∀S c' e y,AskR i x c c' e y->CM S B0 n (b+1) Z c'->CS w S B0 Z->K (.tuple #[evV e,ci y]) S):call Q 174 #[pB Y.u,.agg (akC x).toArray,u6 c.now] K w:=by
 have m:=h.st i hi;have z:=h.sz i hi;rw[a]at m z;have z:r.A.length<=b:=z;have M:=m.2.G;refine zjB m.1 m.2 hi oo oo L F (λS Y' e H p l B o=>?_) (λS Y' O E D s f v p l B J o=>?_) λS s f v C l c'=>?_
 .obtain⟨g,j⟩:=h.up hi a (λ_=>Int.le_refl _) (λ_ _=>rfl) p l B o (d:=1) oo;exact t S _ _ _ (.no a H) g j
 .subst D;obtain⟨g,j⟩:=h.up hi a (λq=>by split<;>omega) (λq I=>oI I) p l B o (d:=1) oB;exact t S _ _ _ (.yes a s f v J) g j
 .obtain⟨g,j⟩:=h.down hi a C l c' (d:=1) oB;exact t S _ _ _ (.off a s f v) g j
def AskR.sp{x:AK}{c':CX}{e:EV}{y:Int}(h:AskR i x c c' e y)(hi:i<6):SP c c':=by
 cases h with
 | no hX hn=>exact⟨rfl,rfl⟩
 | yes hX h0 hna hf hw=>exact⟨rfl,ziM hi⟩
 | off hX h0 hna hf=>exact⟨rfl,rfl⟩
abbrev sub2{Z:List Nat}{a b:Nat}:∀t∈Z,t∈a::b::Z:=λ_ h=>oH _ (oH _ h)
def XJ(h:CM w B0 n b Z c)(hb:b<=20000)(hw:s.who=(i:Int)+1)(hi:i<6)(q:Ak s.ak)(hg:s.kind≠7/\s.req<c.T 6)(h8:∀w',(c.X i).on=false->CM w' B0 n b Z c->CS w w' B0 Z->K (anV evZ 8) w')(a:∀w' c' e y,AskR i s.ak c c' e y->CM w' B0 n (b+1) Z c'->CS w w' B0 Z->K (anV e y) w'):call Q 161 #[pB c.p,.agg (stC s v).toArray] K w:=by
 refine ao (goK func161) (JZ (h.pro λw1 t3 E h1 s1 n4 ne z3 z4=>Kt z3 (UO hw hi λR J=>?_)));have N:=h1.below J;have s2:=s1.trans ((h1.csb J).sub sub2);have I:=ae J z4 z4.lt;have f:=ae J z3 z3.lt;refine zbE N hi (bH ?_);cases O:c.X i with
 | dn p u A L=>exact bc (N.fin I rfl n4 ne λa l H=>h8 a (by rw[O];rfl) l (s2.trans H))
 | up Y r fu =>
  refine aD ?_;have bd:Below R.heap.size R R.drew:=(jT _ R).drew;have B:=N.below bd;have sd:=s2.trans ((N.csb bd).sub sub2);have j:=I.drew;refine ax (λy=>blk y t3 44 (stC s v)/\blk y c.p 72 (mj n c.np c.X c.now)) ⟨f.drew,B.cb⟩ ?_
  refine ac (λy d _ a=>au a) (ac (λy d _ a=>DM a) (ac (v:=pB Y.u) (λy d _ a=>lK d.2 (by have:=(Cd (n:=n) (np:=c.np) (X:=c.X) (now:=c.now) hi).2;rw[O]at this;exact this) a) ?_));refine ac (λy d _ a=>DO a) (ac (v:=.agg (akC s.ak).toArray) (λy d _ a=>ldA (n:=6) (vs:=akC s.ak) underlying42 rfl kr d.1 rfl rfl a) ?_)
  refine ac (λy d _ a=>au a) (ac (λy d _ a=>DC a) (ac (v:=u6 c.now) (λy d _ a=>lK d.2 rfl a) ?_));have z:∀{w5:oG} {c':CX} {e:EV} {y:Int} {m:Nat} {cs:oE},AskR i s.ak c c' e y->CM w5 B0 n (b+1) (m::E::t3::Z) c'->CS w w5 B0 Z->blk w5 E 51 (anC evZ 0)->blk w5 m 49 (evC evZ)->m≠E->m≠t3->m∉Z->(∀x∈c'.M,∀b o,x.2.1=some ⟨b,o,none⟩->b≠m) ->
    sto Q 49 (pB m) (evV e) (λ_=>bw (λ_=>True) λ_=>ld Q 49 (pB m) λa=>bld Q 51 #[(0,a),(1,ci y)] λa=>sto Q 51 (pB E) a λ_=>bA Q [(some 51,pB E)] K) w5:=λ{w5 c' e y m cs} C D sm z5 zm aa ag ab U=>by
   refine fG (e':=e) zm λw6 z6 P=>aI trivial (dN z6 (cE (vs:=anC e y) kr ?_));have zt:=P.blk z5 aa.symm;have m0:=(D.own m oL).2.1;have h6:=(D.othE P oL zm dc U).sub (Z':=E::Z) λt G=>(oO.1 G).elim (λe=>by simp[e]) λG=>oH _ (sub2 t G)
   have s6:CS w5 w6 B0 Z:=⟨aK (jT _ w5) P m0,λt G=>P.other t λe=>ab (e ▸ G)⟩
   exact h6.fin' zt rfl n4 λw7 h7 s7=>a w7 c' e y C h7 ((sm.trans s6).trans s7)
  refine⟨?_,?_⟩
  .refine B.do_ hi hb O q hg λw3 c' e y C l H=>?_;refine ax (λ_=>True) trivial (ac (λy _ _ a=>bK a) (ac (λy _ _ a=>bJ a) (jj λw4 m4 S l4=>aI trivial ?_)));have g:=H.blk oL j
   exact z (cs:=[]) C (l.new S oA m4.lt) (sd.trans ((H.sub sub2).trans ((l.csb S).sub sub2))) (ae S g g.lt) m4 (by have:=g.lt;omega) (by have:=(H.blk oB (f.drew)).lt;omega) (λD=>by have:=(l.own _ (sub2 _ D)).1;omega) λx q k o V e=>by
    obtain⟨_,cs,W⟩:=(l.nm.ms x q).2.1.ev k o V
    have:=W.lt;omega
  .refine jj λw3 m3 F l3=>aI ⟨ae F f.drew f.drew.lt,(B.below F).cb⟩ ?_;have l:=B.new F oA m3.lt;refine l.do_ hi hb O q hg λw4 c' e y C h4 s4=>?_;refine ax (λ_=>True) trivial (ac (λy _ _ a=>bK a) (ac (λy _ _ a=>bJ a) ?_));have g:=ae F j j.lt
   exact z (cs:=[]) C h4 (sd.trans (((B.csb F).sub sub2).trans (s4.sub λ_ h=>oH _ (sub2 _ h)))) (s4.blk oB g) (s4.blk oL m3) (by have:=j.lt;omega) (by have:=f.drew.lt;omega) (λD=>by have:=(B.own _ (sub2 _ D)).1;omega) λx q k o V e=>by
    have q:x∈c.M:=by cases C<;>exact q
    obtain⟨_,cs,W⟩:=(B.nm.ms x q).2.1.ev k o V
    have:=W.lt;omega
end
end
inductive PreY (l:PL) (i:Nat) (X:AK):Int->PL->Prop
 | err {e:Int} (h:eC (mkP i l X) l=e) (he:e=11\/e=6):PreY l i X e l
 | ok (h:eC (mkP i l X) l=0):PreY l i X 0 (eff (mkP i l X) l)
 | pw {l':PL} (h:eC (mkP i l X) l=0) (hl:l'=l\/l'=eff (mkP i l X) l):PreY l i X 8 l'
def PostY(l:PL)(i:Nat)(X:AK)(x y:Int)(l2:PL):Prop :=
 ((x=0\/x=8)/\y=0/\eC (mkP i l X) l=0/\l2=eff (mkP i l X) l)\/((x=11\/x=6)/\y=x/\eC (mkP i l X) l=x/\l2=l)
def zdi(x y:Int)(g:Nat):Prop:=((x=0\/x=8)/\y=0/\g=1)\/((x=11\/x=6)/\y=x/\g=0)
def zax{i:Nat}:∀{F:List EV} {l:PL},PI l->okL eff OK l F->(je eff l F).V.getD i 0<=l.V.getD i 0+F.length
 | [],_,_,_=>by simp[je]
 | e::F,l,hp,hok=>by
  have d:=zax (i:=i) (F:=F) (hp.eff hok.1) hok.2;have b:=congrFun (Ew hp hok.1) i;unfold kV upD at b;have f:(eff e l).V.getD i 0<=l.V.getD i 0+1:=by
   rw[b];split
   .rename_i c;have a:=hok.1.rdy;unfold fW at a;simp only[oM,oP]at a
    have:e.s=l.V.getD e.q 0+1:=a.2.1
    rw[c];omega
   .show l.V.getD i 0<=_;omega
  show (je eff (eff e l) F).V.getD i 0<=_;rw[oZ];omega
section
variable {n:Nat}{l l' l2:PL}{nd a y:Int}{T:Nat->Int}{s:RS}{W:HM}
def SiP.Vl(h:SiP n i T s W):s.l.V.getD i 0<=s.A.length:=by
 have a:=zax (i:=i) (GI n) h.d.ok;rw[<-h.d.st]at a;have b:(pl0 n).V.getD i 0=0:=by
  show (List.replicate 6 (0:Int)).getD i 0=0;rw[oN,jL];split<;>rfl
 omega
def PreY.no(h:PreY l i (tkX nd a) x l')(g:AgS l i)(b:NoP i l' (tkX nd a) y):PostY l i (tkX nd a) x y l':=by
 cases h with
 | err h he =>
  obtain⟨c,_⟩:=g.nop b;exact .inr ⟨he,c.trans h,h,rfl⟩
 | ok h=>exact .inl ⟨.inl rfl,g.again b,h,rfl⟩
 | pw h hl =>
  rcases hl with rfl|rfl
  .obtain⟨c,d⟩:=g.nop b;exact qI (c.trans h) d
  .exact .inl ⟨.inr rfl,g.again b,h,rfl⟩
def PreY.yes(h:PreY l i (tkX nd a) x l')(g:AgS l i)(c:eC (mkP i l' (tkX nd a)) l'=0)(b:sx ((i:Int)+1) l' (tkX nd a)):PostY l i (tkX nd a) x 0 (eff (mkP i l' (tkX nd a)) l'):=by
 cases h with
 | err h he=>exact qI (c.symm.trans h) oo
 | ok h=>exact qI b g.noyes
 | pw h hl =>
  rcases hl with rfl|rfl
  .exact .inl ⟨.inr rfl,rfl,h,rfl⟩
  .exact qI b g.noyes
def PostY.no{z:Int}(h:PostY l i (tkX nd a) x y l2)(g:AgS l i)(b:NoP i l2 (tkX nd a) z):z=y:=by
 rcases h with⟨_,rfl,h,rfl⟩|⟨_,rfl,h,rfl⟩
 .exact g.again b
 .exact(g.nop b).1.trans h
def PostY.yes(h:PostY l i (tkX nd a) x y l2)(g:AgS l i)(c:eC (mkP i l2 (tkX nd a)) l2=0)(b:sx ((i:Int)+1) l2 (tkX nd a)):False:=by
 rcases h with⟨_,rfl,h,rfl⟩|⟨d,rfl,h,rfl⟩
 .exact g.noyes b
 .omega
def PostY.fin(h:PostY l i (tkX nd a) x y l2)(g:AgS l i):zdi x y (nG l2 i):=by
 rcases h with⟨b,c,h,rfl⟩|⟨b,c,h,rfl⟩
 .exact .inl ⟨b,c,g.one⟩
 .exact .inr ⟨b,c,g.none⟩
end
end
end Go.Proofs.YtgohpbmmcgenpaaGreatDoor
