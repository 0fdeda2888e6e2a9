import Derived.Test.YtgohpbmmcgenpaaGreatDoorQ8
import Derived.Test.YtgohpbmmcgenpaaGreatDoorQ7
import Derived.Shelf.SlSortCmp.NoneTotal
import Derived.Shelf.SlGeneric
import Derived.Test.YtgohpbmmcgenpaaGreatDoorQ2
import Derived.Test.YtgohpbmmcgenpaaGreatDoorQ1
import Derived.Ground.SlsfProg
namespace Go.Proofs.YtgohpbmmcgenpaaGreatDoor
set_option maxRecDepth 100000
set_option linter.defProp false
set_option maxHeartbeats 4000000
open Go.Proofs.Tryz
open Go.RowKit
variable {w w' w0 w2 S O:oG}{zf:Nat->oF}{b c o i g m s j z f d c2 gc D B' ba hi:Nat}{a av a2:Option Addr}{x v r N:Int}{E t e:TypeId}{A:List Int}{B1:KE}{xs ys vs:oE}{P:Program}{cx cy:Bool}{α:Type}{T:List (Int×Int)}{k':IntKind}{N1:List Nat}{Z1 N2 O2 P2 Q2 R2 T2 U2 V2 X2 N3 O3 P3 Q3 T3 U3 V3 W3 X3 N4 O4 P4 Q4 T4 U4 V4 Y4 Z4 j5 B5 N5 O5 P5 Q5 R5 T5 H Z U Y J C:oF}
section
attribute [local irreducible] bin un conv call bS blt slc aq fld bv idx lkp fJ nl eSt rng nxt ent ext alc box bld cH ld sto bj fK mkS ifc pick rdy wts aT sti cond bA Gives aj iK kH cOp
section
open Go.ChangeMaps
def bN:oF->Nat
 | .bool true=>1
 | _=>0
def mapN(w:oG)(m:Nat):Nat:=match w.heap[m]? with|some (.map es _)=>es.size|_=>0
def HoM.mapN{p:Nat}{W:HM}(h:HoM w p m W):Go.Proofs.YtgohpbmmcgenpaaGreatDoor.mapN w m=W.length:=by obtain⟨b,c,a⟩:=h.mb;unfold Go.Proofs.YtgohpbmmcgenpaaGreatDoor.mapN;rw[a.heap];exact a.len
def VR.ch{F:List Nat}{n:Nat}{L:List EV}(h:VR w a n c L)(f:Ch F w S)(hF:∀b o,a=some ⟨b,o,none⟩->b∉F):VR S a n c L :=
 ⟨h.len,h.some_,λi x k b o e j u g=>by
  have:=h.cell i x k b o e j u g
  have d:=jZ w _ this;rw[World.cell?_of_block (f.block b d (hF b o e))];exact this⟩
def VR.nm{n:Nat}{L:List EV}(h:VR w a n c L)(d:0<n){es:Array MapEntry}(j:w.heap[m]? = some (.map es i)):∀b o,a=some ⟨b,o,none⟩->b≠m:=λb o f e=>by
 have g:0<L.length:=by rw[h.len];exact d
 have:=h.cell 0 L[0] (gE g) b o f 0 _ rfl
 subst e;simp[World.cell?,j]at this
section
variable  {R:RpB}  {l:PL}{W:HM}{Rw:List jc}{c:Int}{L:List (List Int)}{B:Nat}
def blk.kp{k:Nat}{cs:oE}(h:blk w k E cs)(a:S.heap[k]? = w.heap[k]?):blk S k E cs:=by unfold Go.Proofs.YtgohpbmmcgenpaaGreatDoor.blk at *; rw[a];exact h
def RpM.keep(h:RpM w R i l W Rw c L)(a:∀k,k=R.p\/k=R.h\/k∈R.q.l\/k∈RpF R Rw->S.heap[k]? = w.heap[k]?):RpM S R i l W Rw c L :=
 {h with
  b:=h.b.kp (a _ (.inl rfl))
  pm:=h.pm.keep λk d _=>a k (.inr (.inr (.inl d)))
  g:=h.g.keep λk d=>a k (.inr (.inr (.inr (fZ.2 ((oO.1 d).elim (λe=>.inr (.inl e)) λe=>.inr (.inr (.inl e)))))))
  h:=⟨h.h.b.kp (a _ (.inr (.inl rfl))),h.h.mb.kept (a _ (.inr (.inr (.inr (fZ.2 oB)))))⟩
  e:=⟨h.e.b.kp (a _ (.inr (.inr (.inr (fZ.2 oB))))),h.e.l6,h.e.v6⟩}
def RpM.neE(h:RpM w R i l W Rw c L)(f:∀k∈R.q.l,k<B){cs:oE}(d:blk w z 49 cs)(j:B<=z):∀k,k=R.p\/k=R.h\/k∈R.q.l\/k∈RpF R Rw->k≠z:=λk a e=>by
 subst e;rcases a with rfl|rfl|a|a
 .exact qI rfl (d.ne h.b dc)
 .exact qI rfl (d.ne h.h.b dc)
 .have:=f _ a;omega
 .exact h.out d dc dc dc (λg=>by have:=f _ g;omega) a
def RpM.othE(h:RpM w R i l W Rw c L)(d:∀k∈R.q.l,k<B){cs:oE}(e:blk w z 49 cs)(a:B<=z)(o:Oth z w S):RpM S R i l W Rw c L :=
 h.keep λk b=>o.other k (h.neE d e a k b)
def RpM.grow(h:RpM w R i l W Rw c L)(r:∀k∈R.q.l,k<B){v:oF}{n:Nat}(s:w.ownsRow B 49 14 v n xs)(f:w.grownBy S v.ownBlock):RpM S R i l W Rw c L:=by
 have t:∀k,k=R.p\/k=R.h\/k∈R.q.l\/k∈RpF R Rw->some k≠v.ownBlock:=λk a e=>by
  rcases s.2 with⟨j,_⟩|⟨g,m,d,j,o,f,_⟩
  .rw[j]at e;cases e
  .rw[j]at e;simp only[Value.ownBlock,qD]at e;exact h.neE r (show blk w g 49 d.toList by unfold blk;rw[f]) o k a e
 refine h.keep λk a=>f.block k ?_ (t k a);rcases a with rfl|rfl|a|a
 .exact h.b.lt
 .exact h.h.b.lt
 .exact h.pm.lt k a
 .exact h.lt k a
def RpM.row(h:RpM w R i l W Rw c L)(p:∀k∈R.q.l,k<B){v:oF}{n:Nat}(d:w.ownsRow B 49 14 v n xs)(j:Ch (RpF R Rw) w S):S.ownsRow B 49 14 v n xs:=by
 refine dl d λk a=>j.block k (jS d k a).2 ?_;rcases d.2 with⟨e,_⟩|⟨g,f,b,e,r,m,_⟩
 .rw[e]at a;cases a
 .rw[e]at a;simp only[Value.ownBlock,qD]at a;subst a;exact h.out (show blk w g 49 b.toList by unfold blk;rw[m]) dc dc dc λo=>by have:=p _ o;omega
def RpM.ev(h:RpM w R i l W Rw c L)(f:∀k∈R.q.l,k<B){e:EV}(a:blk w z 49 (evC e))(g:B<=z)(b:Ch (RpF R Rw) w S):blk S z 49 (evC e) :=
 a.ch b (h.out a dc dc dc λd=>by have:=f _ d;omega)
end
section
variable  {K:KV}{R:RpB}  {l:PL}{W:HM}{Rw:List jc}{c:Int}{L:List (List Int)}{e:EV}{n ct:Nat}{E:List EV}
def ML{p:Nat}(h:HoM w p m W)(hi:PI l)(d:HK l.V W)(c:∀S,HoM S p m (V8 W (eD l.V W 6))->Ch [m] w S->K (.tuple #[evV ((eD l.V W 6).getD evZ),.bool (eD l.V W 6).isSome]) S):call Q 241 #[pB p,.agg (vCs l.V).toArray] K w:=by
 refine zg3 h hi.v6 (λk i=>hi.vb k i) (λx j=>d.key x j) d.late (λa S b=>?_) λe a S g f=>?_
 .have:=c S (by rw[a];exact h.below b) (Ch.of_below b)
  rwa[a]at this
 .have:=c S (by rw[a];exact g) f
  rwa[a]at this
def rsI(S:oG)(R:RpB)(i:Nat)(l:PL)(W:HM)(Rw b:List jc)(c:Int)(L:List (List Int))(g e7 is8:oF)(wr:oG):Prop :=
 ∃(d:PL) (W1:HM) (F:List EV) (e:Option Addr) (f:Nat) (a:List jc) (z:Nat),g=.slice e F.length f/\e7=pB z/\is8=.bool (eD d.V W1 6).isSome/\DG l W d W1 F /\
   RpM wr R i d (V8 W1 (eD d.V W1 6)) a (c+(F.length:Nat)) L/\blk wr z 49 (evC ((eD d.V W1 6).getD evZ))/\S.heap.size<=z/\wr.ownsRow S.heap.size 49 14 (.slice e F.length f) F.length (F.flatMap evC)/\Ch (RpF R b) S wr/\(∀k∈lrB a,k∈lrB b\/S.heap.size<=k)/\(Value.slice e F.length f).ownBlock≠some z/\nQ a=Jy (nQ Rw) c F
def zft{n r:List jc}{l2:PL}{W2:HM}{F2:List EV}{e:EV}(hi:PI l2)(t:HK l2.V W2)(T:∀k∈R.q.l,k<w0.heap.size)(h4:RpM w R i l2 W2 r (c+(F2.length:Nat)) L)(G:blk w b 49 (evC e))(r4:w.ownsRow w0.heap.size 49 14 (.slice a F2.length o) F2.length (F2.flatMap evC))(A:Ch (RpF R n) w0 w)(E:∀k∈lrB r,k∈lrB n\/w0.heap.size<=k)(hd:DG l W l2 W2 F2)(it:nQ r=Jy (nQ Rw) c F2)(hB:∀O z H M w',rsI w0 R i l W Rw n c L O z H w'->mapN w' R.m+bN H<W2.length+1->B1 (aH (pB R.p) Z1 O N2 z H P2 Q2 R2 M) w'):eU K B1 (aH (pB R.p) Z1 (.slice a F2.length o) N2 (pB b) O2 P2 Q2 R2 zf) w:=by
 have ab:=A.size;refine Dd (dN G (jj λw5 z5 b5 s5=>fG (e':=e) z5 λw6 J o6=>?_));have s:Below w.heap.size w w6:=aK b5 o6 oA;have P:=h4.below s;have aa:=s.size;have ad:w.heap.size<w6.heap.size:=J.lt;refine ax (λx=>blk x R.p 119 [iv (i:Nat),pB R.q.p,pB R.g,pB R.h,pB R.e,pB R.d]) P.b.drew ?_
 refine ac (λx d _ j=>au j) (ac (λx d _ j=>RQ j) (ac (v:=pB R.h) (λx d _ j=>lK d rfl j) ?_));refine ac (λx d _ j=>au j) (ac (λx d _ j=>rX j) (ac (v:=pB R.q.p) (λx d _ j=>lK d rfl j) ?_));have B:=P.below (jT _ w6).drew;refine IJ B.pm λw7 N=>?_;have y:=B.below N;have u:Below w6.heap.size w6 w7:=(jT _ w6).drew.trans N
 have Y:=ae u J J.lt;refine aI y.b ?_;refine ML y.h hi t λX F C=>?_;have h8:=y.setH C F;refine ax (λ_=>True) trivial (ac (λx _ _ j=>bK j) (ac (λx _ _ j=>bJ j) ?_));have Z:blk X w.heap.size 49 (evC e):=Y.ch C λhh=>y.h.mb' Y (mS hh);refine fG (e':=(eD l2.V W2 6).getD evZ) Z λw9 z9 I=>?_;refine aI trivial ?_
 have U:=dl r4 λk t=>s.block k (jS r4 k t).2;have r7:=dl U λk t=>u.block k (jS U k t).2;have r8:=y.row T r7 (y.sub1 C);have r9:=dl r8 (w':=w9) λk t=>I.other k λe' => by have:=(jS r4 k t).2;omega
 have D:Ch (RpF R n) w0 w9:=(((A.add (s.mono oo)).add (u.mono oo)).trans C λx a=>.inl (fZ.2 (by rw[mS a];simp))).add (aK (jT _ X) I oo);have S:=h8.othE T Z oo I;refine hB _ _ _ _ w9 ⟨l2,W2,F2,a,o,r,w.heap.size,rfl,rfl,rfl,hd,S,z9,by omega,r9,D,E,(λe'=>?_),it⟩ ?_
 .have:=(jS r4 _ e').2
  omega
 .rw[S.h.mapN];cases hn:eD l2.V W2 6 with
  | none=>exact Nat.lt_succ_self _
  | some f =>
   have:=(t.step hi hn).2.2.1
   show (ud W2 (ph f)).length+1<_;omega
def zcK(h:RpM w R i l W Rw c L)(hi:PI l)(r:eC e l≠0)(f:∀S,RpM S R i l W Rw c L->Ch (RpF R Rw) w S->K (ci (eC e l)) S):call Q 43 #[pB R.p,evV e] K w:=by
 refine ao (goK func43) (yR (Bj λu A o E=>?_));have s:=h.below o;refine ax (λx=>blk x R.p 119 [iv (i:Nat),pB R.q.p,pB R.g,pB R.h,pB R.e,pB R.d]/\blk x w.heap.size 49 (evC e)) ⟨s.b.drew,A.drew⟩ ?_;refine ac (λx d _ f=>au f) (ac (λx d _ f=>rX f) (ac (v:=pB R.q.p) (λx d _ f=>lK d.1 rfl f) (ac (λx d _ f=>dN d.2 f) ?_)));have a:=s.below (jT _ u).drew
 refine Sz a.pm hi λy t j=>?_;rw[show lQ e l=l by unfold lQ;rw[oI r]]at t;have n:∀k,k∉R.q.l->k∉R.q.wv:=λk m B=>m (LB.wl k B);have D:RpM y R i l W Rw c L:={a with
  b:=a.b.ch j (n _ h.pq)
  pm:=t
  g:=a.g.ch j λk m=>n _ (h.gq k m)
  h:=a.h.ch j (n _ h.hq) (n _ h.mq)
  e:=a.e.ch j (n _ h.eq)}
 refine ax (λ_=>True) trivial (bo (aG r (f y D ?_)));have z:Ch (RpF R Rw) w u.drew:=Ch.of_below o.drew;exact z.trans j λx C=>.inl (fZ.2 (.inl C))
def zjz{a:List jc}(hi:PI l)(hr:HK l.V W)(hc:c+100<=1000000)(D:∀k∈R.q.l,k<w0.heap.size)(h:RpM w R i l (V8 W (eD l.V W 6)) Rw c L)(hz:blk w z 49 (evC ((eD l.V W 6).getD evZ)))(zz:w0.heap.size<=z)(ag:Ch (RpF R a) w0 w)(hB:∀k∈lrB Rw,k∈lrB a\/w0.heap.size<=k)(hK:∀w' l' W' y F X Y,RpM w' R i l' W' y (c+(F.length:Nat)) L->DG l W l' W' F->eD l'.V W' 6=none->w'.ownsRow w0.heap.size 49 14 (.slice X F.length Y) F.length (F.flatMap evC)->Ch (RpF R a) w0 w'->(∀k∈lrB y,k∈lrB a\/w0.heap.size<=k)->nQ y=Jy (nQ Rw) c F->K (.slice X F.length Y) w'):kj K (aH (pB R.p) Z1 (.slice none 0 0) N2 (pB z) (.bool (eD l.V W 6).isSome) O2 P2 Q2 zf) w:=by
 refine CW (Inv:=rsI w0 R i l W Rw a c L) (μ:=λ_ _ a b=>mapN b R.m+bN a)
  ⟨l,W,[],none,0,Rw,z,rfl,rfl,rfl,.nil,by rw[List.length_nil];simpa using h,hz,zz,World.ownsRow_nil _ _ _ _,ag,hB,(λe=>by cases e),rfl⟩ ?_
 rintro _ _ _ dd w1 mu ⟨t,W1,F,X,Y,A,z1,rfl,rfl,rfl,hd,f,d,U,H,n,o,O,G⟩ r;obtain⟨i1,i2,i3,_⟩:=hd.inv hi hr;have ar:=hr.few;cases J:eD t.V W1 6 with
 | none =>
  rw[J]at f;exact aD (Db (hK w1 t W1 A F X Y f hd J H n o G))
 | some e =>
  rw[J]at f d;obtain⟨au,aj,hg,Z⟩:=i2.step i1 J;have r:mu=(ud W1 (ph e)).length+1:=by
   rw[r,f.h.mapN,J];rfl
  have d:blk w1 z1 49 (evC e):=d;have f:RpM w1 R i t (ud W1 (ph e)) A (c+(F.length:Nat)) L:=f;have b:=hd.snoc J;have p2:PI (lQ e t):=XC i1;have av:=n.size;have T:∀x∈RpF R A,x∈RpF R a\/w0.heap.size<=x:=λx g=>by
   rcases fZ.1 g with g|g|g|g
   .exact .inl (fZ.2 (.inl g))
   .exact .inl (fZ.2 (.inr (.inl g)))
   .exact(o x g).imp (λg=>fZ.2 (.inr (.inr (.inl g)))) id
   .exact .inl (fZ.2 (.inr (.inr (.inr g))))
  refine bc (CR (dN d ?_));by_cases B:eC e t=0
  .rw[oJ B]at b;rw[show lQ e t=eff e t by unfold lQ;rw[oJ B]]at b p2 Z;refine YY f i1 aj B oo λw2 aa h2 j n2 ao=>aU (aG rfl ?_);have E:=f.ev D d U j;have S:=f.row D H j;have ap:=j.size;refine dN E (qb [evV e] underlying100 (s:=14) kr kr oo rfl oB dc rfl (by
    intro v hv;rw[mS hv];rfl) λw3 e3 M s3=>?_)
   have e3:blk w3 w2.heap.size 49 (evC e):=by simpa[Value.cells,evV]using e3
   have h3:=h2.below M;have P:=ae M E E.lt;have I:=dl S λk u=>M.block k (jS S k u).2;obtain⟨ii,ah,al,ak,af⟩:=info_parts Vt;refine zc (enc:=evC) (x:=e) underlying100 ah al ak af rfl oo (λ_=>rfl) I e3 (Dz _) oo oo oo λa' c' w4 r4 g4 b4 k4=>?_;have aw:=M.size;have h4:=h3.grow D I g4;have ai:=jS I
   have ab:Below w0.heap.size w3 w4:=cS g4 oo λk u=>(ai k u).1;have ac:Ch (RpF R a) w0 w4:=((n.trans j T).add (M.mono oo)).add ab;have ad:∀k∈lrB aa,k∈lrB a\/w0.heap.size<=k:=λk u=>(n2 k u).elim (λu=>o k u) λu=>.inr oo;have am:blk w4 z1 49 (evC e):=P.kp (g4.block z1 P.lt λa => O a.symm)
   have N:(F++[e]).length=F.length+1:=by simp
   rw[<-N]at r4 |-;rw[show c+(F.length:Nat)+1=c+((F++[e]).length:Nat)by rw[N];omega]at h4;refine zft p2 Z D h4 am r4 ac ad b (by rw[ao,G,Tf]) λfr z is aq w' hI C=>⟨hI,by rw[r];exact C⟩
  .rw[oI B]at b;rw[show lQ e t=t by unfold lQ;rw[oI B]]at b p2 Z;refine zcK f i1 B λw2 h2 j=>aU (aB B ?_);have ap:=j.size;refine zft p2 Z D h2 (f.ev D d U j) (f.row D H j) (n.trans j T) o b G λfr z is aq w' hI C=>⟨hI,by rw[r];exact C⟩
end
section
variable  {K:KV}{R:RpB}  {l:PL}{W:HM}{Rw:List jc}{c:Int}{L:List (List Int)}{e:EV}{n ct:Nat}{E:List EV}
def zgH{k:Nat}{E1:List EV}{f t:Int}{V:List Int}(h:RpM w R i l W Rw c L)(hi:PI l)(hr:HK l.V W)(hc:c+100<=1000000)(hv:VR w a k g E1)(hk:k<=16)(hV:V.length=6)(r:∀w' l' W' O F fa fc,RpM w' R i l' W' O (c+(F.length:Nat)) L->DG l (nM l.V W E1) l' W' F->eD l'.V W' 6=none->w'.ownsRow w.heap.size 49 14 (.slice fa F.length fc) F.length (F.flatMap evC)->Ch (RpF R Rw) w w'->(∀k∈lrB O,k∈lrB Rw\/w.heap.size<=k)->nQ O=Jy (nQ Rw) c F->K (.slice fa F.length fc) w'):call Q 217 #[pB R.p,.agg (mgC 1 f t V (.slice a k g) 0 0).toArray] K w:=by
 have hq:=h.pm.lt;have ak:(Value.agg (mgC 1 f t V (.slice a k g) 0 0).toArray).cells.toList=mgC 1 f t V (.slice a k g) 0 0:=by simp[Value.cells]
 have c9:(mgC 1 f t V (.slice a k g) 0 0)[9]? = some (.slice a k g):=by
  unfold mgC;rw[show 9=3+6 by rfl,fh (n:=3) rfl,show 6=6+0 by rfl,fh (n:=6) (by rw[bE,hV])];rfl
 refine ao (goK func217) (Fm (bU λw1 m1 b1 s1=>?_));rw[ak]at m1;refine DL (lK (v:=.slice a k g) m1 c9 (bM underlying100 ?_));have h1:=h.below b1;refine CU (Inv:=λj a=>∃q:Nat,j=iv (q:Nat)/\q<=k/\RpM a R i l (nM l.V W (E1.take q)) Rw c L/\Ch [R.m] w a) (μ:=λj _=>k-(intOf j).toNat)
  ⟨0,rfl,qG _,by rw[qX];exact h1,Ch.of_below b1⟩ ?_
 rintro _ dd w2 mu ⟨q,rfl,az,h2,c2⟩ ar;have ay:=hv.len;have B:HK l.V (nM l.V W (E1.take q)):=hr.puts;have ap:=B.few;refine aW ?_;by_cases ah:q<k
 .have an:q<E1.length:=by rw[hv.len];exact ah
  have E:E1[q]? = some E1[q]:=gE an;have H:E1.take (q+1)=E1.take q++[E1[q]]:=by rw[List.take_add_one,E];rfl
  generalize E1[q]=x at E H;obtain⟨b,o,Y⟩:=hv.some_ oo;obtain⟨es,cl,aq⟩:=h.h.mb;have aw:VR w2 a k g E1:=hv.ch c2 λb o Y hh=>hv.nm oo aq.heap b o Y (mS hh);subst Y;refine aG oo (gO underlying100 (s:=14) kf oo oo ?_);rw[oQ]
  refine zb5 aw rfl E (jj λw3 z3 D s3=>fG (e':=x) z3 λw4 I o4=>?_);have ab:Below w2.heap.size w2 w4:=aK D o4 oA;have C:=h2.below ab;refine ax (λy=>blk y R.p 119 [iv (i:Nat),pB R.q.p,pB R.g,pB R.h,pB R.e,pB R.d]/\blk y w2.heap.size 49 (evC x)) ⟨C.b.drew,I.drew⟩ ?_
  refine ac (λy d _ r=>au r) (ac (λy d _ r=>RQ r) (ac (v:=pB R.h) (λy d _ r=>lK d.1 rfl r) ?_));refine ac (λy d _ r=>au r) (ac (λy d _ r=>rX r) (ac (v:=pB R.q.p) (λy d _ r=>lK d.1 rfl r) (ac (λy d _ r=>dN d.2 r) ?_)));have ag:=C.below (jT _ w4).drew;refine IJ ag.pm λw5 b5=>?_;have ad:Below w4.heap.size w4 w5:=(jT _ w4).drew.trans b5
  have X:=ag.below b5;refine aI ⟨X.b,ae ad I I.lt⟩ <|zhU X.h hi.v6 oo λw6 _ am c6=>aY oo oo ?_;have h6:=X.setH c6 am;refine⟨⟨q+1,qH iv (by push_cast;rfl),ah,?_,?_⟩,by rw[ar];show k-((q:Int)+1).toNat<k-(q:Int).toNat;omega⟩
  .rw[H];unfold nM;rw[List.foldl_append];exact h6
  .have a1:=c2.add (ab.mono c2.size);have a2:=a1.add (ad.mono a1.size);exact a2.trans c6 λx E=>.inl E
 .have av:q=k:=by omega
  subst av;have H:E1.take q=E1:=by rw[<-hv.len];exact List.take_length
  rw[H]at h2 B ap;refine aB oo (CZ ?_);have aC:=c2.size;have ai:Ch (RpF R Rw) w w2:=h.sub1 c2;have aA:∀k∈R.q.l,k<w.heap.size:=hq;refine ax (λy=>blk y R.p 119 [iv (i:Nat),pB R.q.p,pB R.g,pB R.h,pB R.e,pB R.d]) h2.b.drew ?_;refine ac (λy d _ r=>au r) (ac (λy d _ r=>RQ r) (ac (v:=pB R.h) (λy d _ r=>lK d rfl r) ?_))
  refine ac (λy d _ r=>au r) (ac (λy d _ r=>rX r) (ac (v:=pB R.q.p) (λy d _ r=>lK d rfl r) ?_));have A:=h2.below (jT _ w2).drew;have u:Ch (RpF R Rw) w w2.drew:=ai.add (jT _ w2).drew
  -- the last step,whatever the order
  have U:∀{wr:oG} {z:Nat} {zf:oD} {e6:oF},RpM wr R i l (V8 (nM l.V W E1) (eD l.V (nM l.V W E1) 6)) Rw c L->blk wr z 49 (evC ((eD l.V (nM l.V W E1) 6).getD evZ))->w.heap.size<=z->Ch (RpF R Rw) w wr ->
    kj K (aH (pB R.p) (pB w.heap.size) (.slice none 0 0) e6 (pB z) (.bool (eD l.V (nM l.V W E1) 6).isSome) (.slice a q g) (iv (q:Nat)) (iv (q:Nat)) zf) wr:=λY hb hz aj =>
   zjz hi B hc hq Y hb hz aj (λk a=>.inl a) r
  have aa:∀{wr w':oG} {z:Nat},RpM wr R i l (V8 (nM l.V W E1) (eD l.V (nM l.V W E1) 6)) Rw c L->blk wr z 49 (evC evZ)->w.heap.size<=z->Oth z wr w'->RpM w' R i l (V8 (nM l.V W E1) (eD l.V (nM l.V W E1) 6)) Rw c L:=λY hb hz o=>Y.othE hq hb hz o;refine⟨?_,?_⟩
  .refine IJ A.pm λw3 D=>aI (A.below D).b ⟨?_,?_⟩
   .have G:=A.below D;have P:=u.add (D.mono u.size);refine ML G.h hi B λw4 al c4=>?_;have C:=G.setH c4 al;have af:=P.trans c4 λx E=>.inl (fZ.2 (by rw[mS E];simp));refine ax (λ_=>True) trivial (ac (λx _ _ r=>bK r) (ac (λx _ _ r=>bJ r) ?_))
    refine jj λw5 N b5 s5=>aI trivial (fG (e':=(eD l.V (nM l.V W E1) 6).getD evZ) N λw6 z6 M=>aI trivial ?_);have s4:=af.size;exact U (aa (C.below b5) N s4 M) z6 s4 ((af.add (b5.mono s4)).add (aK (jT _ w5) M s4))
   .have G:=A.below D;have P:=u.add (D.mono u.size);refine jj λw4 I J s4=>aI (G.below J).b ?_;have C:=G.below J;have s3:=P.size;have c4:=P.add (J.mono s3);refine ML C.h hi B λw5 Z S=>?_;have X:=C.setH S Z;have N:=I.ch S λhh=>C.h.mb' I (mS hh);have T:=c4.trans S λx E=>.inl (fZ.2 (by rw[mS E];simp))
    refine ax (λ_=>True) trivial (ac (λx _ _ r=>bK r) (ac (λx _ _ r=>bJ r) ?_));exact fG (e':=(eD l.V (nM l.V W E1) 6).getD evZ) N λw6 z6 M=>aI trivial (U (aa X N s3 M) z6 s3 (T.add (aK (jT _ w5) M s3)))
  .refine jj λw3 z3 D s3=>aI (A.below D).b ?_;have G:=A.below D;have P:=u.add (D.mono u.size);have s2:=u.size;refine IJ G.pm λw4 J=>aI (G.below J).b ?_;have C:=G.below J;have I:=ae J z3 z3.lt;have c4:=P.add (J.mono P.size);refine ML C.h hi B λw5 Z S=>?_;have X:=C.setH S Z;have N:=I.ch S λhh=>C.h.mb' I (mS hh)
   have T:=c4.trans S λx E=>.inl (fZ.2 (by rw[mS E];simp));refine ax (λ_=>True) trivial (ac (λx _ _ r=>bK r) (ac (λx _ _ r=>bJ r) ?_));exact fG (e':=(eD l.V (nM l.V W E1) 6).getD evZ) N λw6 z6 M=>aI trivial (U (aa X N s2 M) z6 s2 (T.add (aK (jT _ w5) M s2)))
def u8K:Hs Q 5 (Value.int .u8):=Yx underlying5
end
abbrev lr0:List jc:=List.replicate 6 ⟨none,0,[]⟩
abbrev gp0:List (List Int):=List.replicate 6 (List.replicate 6 0)
def SO.oth{B:Nat}{s:PL}{t:STA}(h:SO w B s t a gc)(o:Oth z w S)(c:z<B):SO S B s t a gc :=
 {h with
  nd:=dl h.nd λk b=>o.other k λe=>by have:=(jS h.nd k b).1;omega
  gr:=dl h.gr λk b=>o.other k λe=>by have:=(jS h.gr k b).1;omega}
def SO.fresh{B:Nat}{s:PL}{t:STA}(h:SO w B s t a gc)(b:Below w.heap.size w S):SO S B s t a gc :=
 {h with
  nd:=dl h.nd λk c=>b.block k (jS h.nd k c).2
  gr:=dl h.gr λk c=>b.block k (jS h.gr k c).2}
def pV :Option Nat->Value
 | some b=>pB b
 | none=>.pointer none
structure DmM (w:World) (d m:Nat):Prop where
 b:blk w d 154 [.map (some m)]
 mb:MB u6 pV w m []
theorem DmM.below (h:DmM w d m)(j:Below w.heap.size w w'):DmM w' d m:=⟨ae j h.b h.b.lt,h.mb.below j⟩
section
variable  {K:KV}{R:RpB}  {l:PL}{W:HM}{Rw:List jc}{c:Int}{L:List (List Int)}
def zeQ(h:RpM w R i l W Rw c L)(hi:PI l)(B:l.G.length<=1000000)(k:∀S t j gc,SO S (w.heap.size+2) l t j gc->Below w.heap.size w S->K (.agg (saC t).toArray) S):call Q 26 #[pB R.p] K w:=by
 refine ao (goK func26) (IL ?_);refine cD (z:=.agg (saC ⟨List.replicate 6 false,List.replicate 6 false,List.replicate 6 0,[],none,0,.slice none 0 0⟩).toArray) kr λE a g D=>?_;have a:=cZ a
 generalize m:saC ⟨List.replicate 6 false,List.replicate 6 false,List.replicate 6 0,[],none,0,.slice none 0 0⟩=zs at a;have C:zs.length=20:=by rw[<-m];rfl
 have s:=h.below g;refine Lf (aD (au (rX (lK (v:=pB R.q.p) s.b rfl ?_))));refine SE s.pm hi B λH t j gc d r=>?_;have A:=ae r a a.lt;have x:(saC t).length=20:=ss (by rw[d.eI];exact hi.i6) (by rw[d.eL];exact hi.l6) (by rw[d.eV];exact hi.v6);have o:∀v∈saC t,v.oneCell'=true:=by
  intro v f;unfold saC at f;rw[d.gv]at f;simp only[oU,qT,oO,oR,or_false]at f;rcases f with((⟨_,_,rfl⟩|⟨_,_,rfl⟩)|⟨_,_,rfl⟩)|(rfl|rfl)<;>rfl
 refine fY (n:=20) (vs:=saC t) kr x A oo o λF u y=>?_;rw[qX,oV,oS oo,oW]at u;refine uO (v:=.agg (saC t).toArray) (λ_ k=>ldA (n:=20) (vs:=saC t) underlying38 rfl kr u (by rw[oX,tL oo]) x k) ?_;have e:=d.oth y oo;rw[D]at e
 exact k F t j gc e (aK (g.trans (r.mono g.size)) y oA)
theorem zhG (j:∀w',DmM w' (w.heap.size+1) w.heap.size->Below w.heap.size w w'->w'.heap.size=w.heap.size+2->K (pB (w.heap.size+1)) w'):call Q 31 #[] K w:=by
 refine ao (goK func31) (WV (xa underlying152 rfl u6 pV λC m1 b1 s1=>cE (vs:=[.map (some w.heap.size)]) kr (bU λw2 h b2 s2=>?_)));rw[s1]at h |-;exact j w2 ⟨by simpa[Value.cells]using h,m1.below b2⟩ (b1.trans (b2.mono b1.size)) oo
end
end
structure RS where
 l:PL
 A:List EV
 P:List (List Int)
structure MW(k:Nat) (E:List EV) (S:Nat->RS):Prop where
 hist:zaK k E
 noj:noJ E
 few:∀e∈E,e.q<k
 lk:∀i,i<k->LK k E (S i).l
 own:∀i,i<k->∀e∈E,e.q=i->e.s<=(S i).l.V.getD i 0
 app:∀i,i<k->zjJ E (S i).A (S i).l
 kn:∀i j,i<k->j<k->∀v,(S i).P[j]? = some v->∀q,v.getD q 0<=(S j).l.V.getD q 0
structure MG where
 k:Int
 f:Nat
 t:Nat
 V:List Int
 n:Int
 a:Int
 L:List EV
structure MgOK(k:Nat) (E:List EV) (S:Nat->RS) (m:MG):Prop where
 ft:m.f<k/\m.t<k/\m.f≠m.t
 v6:m.V.length=6
 le:∀q,m.V.getD q 0<=(S m.f).l.V.getD q 0
 is:(m.k=1/\m.n=0/\m.a=0/\m.L.length<=16/\∃P,ChE E P m.L/\∀q,P.getD q 0<=(S m.t).l.V.getD q 0)\/(m.k=2/\m.L=[]/\m.n≠0/\1<=m.a/\m.a<=1125899906842624)
structure RdI(k:Nat) (E:List EV) (S:Nat->RS) (a b:Nat) (D:Nat->Nat->Prop):Prop where
 ra:∀j,j<k->min E.length a<=cnE E (S j).l.V
 rb:∀o j,o<k->j<k->o≠j->∀v,(S o).P[j]? = some v->min E.length b<=cnE E v
 rc:∀o j,o<k->j<k->o≠j->D o j->min E.length (b+1)<=cnE E (S j).l.V\/∀f∈E,f.q=o->f.s<=(S j).l.V.getD o 0
 rd:∀o j,o<k->j<k->o≠j->D o j->∀v,(S j).P[o]? = some v->min E.length a<=cnE E v
section
open Go.ChangeMaps
abbrev Ca:Int:=1125899906842624
structure DmW (w:World) (d m:Nat) (ws:List (Int×Option Nat)):Prop where
 b:blk w d 154 [.map (some m)]
 mb:MB u6 pV w m ws
 wt:∀p∈ws,∃b a t x,p.2=some b/\blk w b 278 [u6 p.1,iv a,u6 t,u6 x]/\1<=a/\a<=Ca/\p.1≠0
 few:ws.length<=32
def wB(ws:List (Int×Option Nat)):List Nat:=ws.filterMap (·.2)
def tt{ws:List (Int×Option Nat)}{k:Nat}:k∈wB ws↔∃p∈ws,p.2=some k:=by unfold wB;rw[List.mem_filterMap]
section
variable   {ws:List (Int×Option Nat)}
def DmW.wlt(h:DmW w d m ws){k:Nat}(f:k∈wB ws):∃cs,blk w k 278 cs:=by obtain⟨p,g,e⟩:=tt.1 f;obtain⟨b,a,t,x,c,i,_⟩:=h.wt p g;rw[c]at e;cases e;exact⟨_,i⟩
def DmW.lt(h:DmW w d m ws):∀k∈d::m::wB ws,k<w.heap.size:=by
 intro k a;rcases oO.1 a with rfl|a
 .exact h.b.lt
 .rcases oO.1 a with rfl|a
  .exact h.mb.lt
  .obtain⟨cs,c⟩:=h.wlt a;exact c.lt
def DmW.keep(h:DmW w d m ws)(c:∀k∈d::m::wB ws,S.heap[k]? = w.heap[k]?):DmW S d m ws :=
 ⟨by have:=h.b;unfold blk at *; rw[c d oB];exact this,h.mb.kept (c m oB),λp f=>by
  obtain⟨b,a,t,x,e,i,g⟩:=h.wt p f;refine⟨b,a,t,x,e,?_,g⟩;unfold blk at *;rw[c b (by simp[tt];exact .inr (.inr ⟨p.1,by rw[<-e];exact f⟩))];exact i,h.few⟩
def DmW.below(h:DmW w d m ws)(a:Below w.heap.size w S):DmW S d m ws:=h.keep λk b=>a.block k (h.lt k b)
end
structure RpX where
 R:RpB
 m:Nat
 ws:List (Int×Option Nat)
 Rw:List jc
 W:HM
def FF(X:RpX):List Nat:=RpF X.R X.Rw++X.m::wB X.ws
def AF(X:RpX):List Nat:=X.R.p::X.R.h::X.R.d::X.R.q.l++FF X
def nB{X:RpX}{k:Nat}:k∈FF X↔k∈RpF X.R X.Rw\/k=X.m\/k∈wB X.ws:=by simp[FF]
def pG{X:RpX}{k:Nat}:k∈AF X↔k=X.R.p\/k=X.R.h\/k=X.R.d\/k∈X.R.q.l\/k∈FF X:=by simp[AF]
structure RepW(w:oG) (i:Nat) (X:RpX) (s:RS):Prop where
 rp:RpM w X.R (i+1) s.l X.W X.Rw (s.A.length:Nat) s.P
 it:nQ X.Rw=yi s.A
 dm:DmW w X.R.d X.m X.ws
 dq:X.R.d∉X.R.q.l
 nq:X.m∉X.R.q.l
 nm:X.m≠X.R.m
 wq:∀k∈wB X.ws,k∉X.R.q.l
section
variable   {X:RpX}{s:RS}
def RepW.lt(h:RepW w i X s):∀k∈AF X,k<w.heap.size:=λk a=>by
 rcases pG.1 a with rfl|rfl|rfl|a|a
 .exact h.rp.b.lt
 .exact h.rp.h.b.lt
 .exact h.dm.b.lt
 .exact h.rp.pm.lt k a
 .rcases nB.1 a with a|rfl|a
  .exact h.rp.lt k a
  .exact h.dm.mb.lt
  .exact h.dm.lt k (by simp[a])
def RepW.keep(h:RepW w i X s)(b:∀k∈AF X,S.heap[k]? = w.heap[k]?):RepW S i X s :=
 {h with
  rp:=h.rp.keep λk a => b k (pG.2 (by
   rcases a with h|h|h|h
   .exact .inl h
   .exact .inr (.inl h)
   .exact .inr (.inr (.inr (.inl h)))
   .exact .inr (.inr (.inr (.inr (nB.2 (.inl h)))))))
  dm:=h.dm.keep λk a => b k (pG.2 (by
   rcases oO.1 a with h|h
   .exact .inr (.inr (.inl h))
   .exact .inr (.inr (.inr (.inr (nB.2 (.inr (oO.1 h))))))))}
def RepW.below(h:RepW w i X s)(a:Below w.heap.size w S):RepW S i X s:=h.keep λk b=>a.block k (h.lt k b)
def RepW.ch{F:List Nat}(h:RepW w i X s)(b:Ch F w S)(hF:∀k∈AF X,k∉F):RepW S i X s:=h.keep λk a=>b.block k (h.lt k a) (hF k a)
theorem MB.ne {kv:Int->Value}{ws:List (Int×Option Nat)}{k:Nat}{cs:List Value}(h:MB kv pV w b ws)(j:blk w k E cs):k≠b:=λe=>by
 obtain⟨es,c,C⟩:=h;unfold blk at j;rw[e,C.heap]at j;cases j
def RepW.dF(h:RepW w i X s):∀k∈X.R.d::X.m::wB X.ws,k∉RpF X.R X.Rw:=λk c=>by
 rcases oO.1 c with rfl|c
 .exact h.rp.out h.dm.b dc dc dc h.dq
 .rcases oO.1 c with rfl|c
  .intro a;rcases fZ.1 a with a|a|a|a|a
   .exact h.nq (LB.wl _ a)
   .exact h.dm.mb.ne h.rp.g.b a.symm
   .obtain⟨j,r,o,e⟩:=h.rp.g.in a;obtain⟨f,n⟩:=h.rp.g.cur o e;exact h.dm.mb.ne (show blk w X.m 200 f.toList by unfold blk;rw[n]) rfl
   .exact h.nm a
   .exact h.dm.mb.ne h.rp.e.b a.symm
  .obtain⟨p,l⟩:=h.dm.wlt c;exact h.rp.out l dc dc dc (h.wq k c)
def RepW.turn{a:List jc}{s':RS}(h:RepW w i X s){W':HM}(d:RpM S X.R (i+1) s'.l W' a (s'.A.length:Nat) s'.P)(hi:nQ a=yi s'.A)(c:Ch (RpF X.R X.Rw) w S):RepW S i {X with Rw:=a,W:=W'} s' :=
 {h with
  rp:=d
  it:=hi
  dm:=h.dm.keep λk b=>c.block k (h.dm.lt k b) (h.dF k b)}
def RepW.want{f:List (Int×Option Nat)}(h:RepW w i X s)(q:DmW S X.R.d X.m f)(p:Ch (X.m::wB X.ws) w S)(r:∀k∈wB f,k∈wB X.ws\/w.heap.size<=k):RepW S i {X with ws:=f} s:=by
 refine {h with dm:=q,wq:=λk c n=>(r k c).elim (λl=>h.wq k l n) (λl=>by have:=h.rp.pm.lt k n;omega),rp:=h.rp.keep λk c=>?_};have j:k<w.heap.size:=h.lt k (pG.2 (by
   rcases c with h|h|h|h
   .exact .inl h
   .exact .inr (.inl h)
   .exact .inr (.inr (.inr (.inl h)))
   .exact .inr (.inr (.inr (.inr (nB.2 (.inl h)))))))
 refine p.block k j λa=>?_;rcases c with rfl|rfl|c|c
 .rcases oO.1 a with e|a
  .exact h.dm.mb.ne h.rp.b e
  .obtain⟨o,g⟩:=h.dm.wlt a;exact qI rfl (g.ne h.rp.b dc)
 .rcases oO.1 a with e|a
  .exact h.dm.mb.ne h.rp.h.b e
  .obtain⟨o,g⟩:=h.dm.wlt a;exact qI rfl (g.ne h.rp.h.b dc)
 .rcases oO.1 a with rfl|a
  .exact h.nq c
  .exact h.wq k a c
 .exact h.dF k (oH _ a) c
end
structure StpX(w w':oG) (X X':RpX):Prop where
 R:X'.R=X.R
 m:X'.m=X.m
 ch:Ch (FF X) w w'
 new:∀k∈FF X',k∈FF X\/w.heap.size<=k
def StpX.af{X X':RpX}(h:StpX w S X X'):∀k∈AF X',k∈AF X\/w.heap.size<=k:=λk a=>by
 rcases pG.1 a with a|a|a|a|a
 .exact .inl (pG.2 (.inl (h.R ▸ a)))
 .exact .inl (pG.2 (.inr (.inl (h.R ▸ a))))
 .exact .inl (pG.2 (.inr (.inr (.inl (h.R ▸ a)))))
 .exact .inl (pG.2 (.inr (.inr (.inr (.inl (h.R ▸ a))))))
 .exact(h.new k a).imp (λb=>pG.2 (.inr (.inr (.inr (.inr b))))) id
def StpX.refl{X:RpX}(h:Below w.heap.size w S):StpX w S X X:=⟨rfl,rfl,Ch.of_below h,λ_ a=>.inl a⟩
def StpX.trans{a b c:oG}{X Y Z:RpX}(h:StpX a b X Y)(k:StpX b c Y Z):StpX a c X Z :=
 have f:=h.ch.size
 ⟨k.R.trans h.R,k.m.trans h.m,h.ch.trans k.ch h.new,λx e=>(k.new x e).elim (λd=>h.new x d) λd=>.inr oo⟩
def StpX.rww{W':HM}{X:RpX}{b:List jc}(c:Ch (RpF X.R X.Rw) w S)(d:∀k∈lrB b,k∈lrB X.Rw\/w.heap.size<=k):StpX w S X {X with Rw:=b,W:=W'} :=
 ⟨rfl,rfl,c.mono λk a=>nB.2 (.inl a),λk a=>by
  rcases nB.1 a with a|a
  .rcases fZ.1 a with a|a|a|a
   .exact .inl (nB.2 (.inl (fZ.2 (.inl a))))
   .exact .inl (nB.2 (.inl (fZ.2 (.inr (.inl a)))))
   .exact(d k a).imp (λa=>nB.2 (.inl (fZ.2 (.inr (.inr (.inl a)))))) id
   .exact .inl (nB.2 (.inl (fZ.2 (.inr (.inr (.inr a))))))
  .exact .inl (nB.2 (.inr a))⟩
def StpX.rw{X:RpX}{a:List jc}(b:Ch (RpF X.R X.Rw) w S)(c:∀k∈lrB a,k∈lrB X.Rw\/w.heap.size<=k):StpX w S X {X with Rw:=a}:=StpX.rww (W':=X.W) b c
def StpX.ws{X:RpX}{b:List (Int×Option Nat)}(c:Ch (X.m::wB X.ws) w S)(d:∀k∈wB b,k∈wB X.ws\/w.heap.size<=k):StpX w S X {X with ws:=b} :=
 ⟨rfl,rfl,c.mono λk a=>nB.2 (.inr (oO.1 a)),λk a=>by
  rcases nB.1 a with a|a|a
  .exact .inl (nB.2 (.inl a))
  .exact .inl (nB.2 (.inr (.inl a)))
  .exact(d k a).imp (λa=>nB.2 (.inr (.inr a))) id⟩
structure WW(w:oG) (B k:Nat) (X:Nat->RpX) (S:Nat->RS) (Z:List Nat):Prop where
 rp:∀i,i<k->RepW w i (X i) (S i)
 sep:∀i j,i<k->j<k->i≠j->∀x∈AF (X i),x∉FF (X j)
 z:∀i,i<k->∀x∈Z,x∉AF (X i)
 zl:∀x∈Z,x<w.heap.size
 lo:∀i,i<k->∀x∈FF (X i),B<=x
end
def Dw{y:Int}:rE x y<0↔x<y:=by
 unfold rE;split
 .omega
 .split<;>omega
def swoZ(f:α->Int):Go.Sort.SWO (Go.Proofs.ltOf λx y:α=>rE (f x) (f y)) where
 irrefl x:=qE (by rw[Dw];omega)
 trans x y z h k:=qF (by
  have h:=Dw.1 (of_decide_eq_true h);have k:=Dw.1 (of_decide_eq_true k);rw[Dw];omega)
 ntrans x y z h k:=qE (by
  have h:=mt Dw.2 (of_decide_eq_false h);have k:=mt Dw.2 (of_decide_eq_false k);rw[Dw];omega)
section
variable  {K:KV}
open Go.Sort in
theorem WR [Inhabited α]{k0:Nat}{enc:α->oE}(e:0<k0)(a:∀x,(enc x).length=k0){G:List α}{n:Nat}(b:G.length=n)(l:n*k0<=xs.length):putCells id 0 (flatK enc k0 G.toArray) xs.toArray=(G.flatMap enc++xs.drop (n*k0)).toArray:=by
 have i:(flatK enc k0 G.toArray).size=n*k0:=by rw[size_flatK];simp[b]
 have c:(G.flatMap enc).length=n*k0:=by rw[rZ a,b]
 apply Array.ext_getElem?;intro k;unfold putCells;rw[Array.getElem?_mapIdx,i,List.getElem?_toArray,List.getElem?_toArray];by_cases h:k<n*k0
 .have d:k<xs.length:=by omega
  have g:k / k0<G.length:=by rw[b];exact Nat.div_lt_of_lt_mul (by rw[Nat.mul_comm];exact h)
  rw[gE d,jP,oJ ⟨qG _,by omega⟩,qO oo,Nat.sub_zero,get_flatK _ _ _ _ (by simp[b];exact h)];have j:G[k / k0]? = some G[k / k0]:=gE g
  have:=Hh a G (k / k0) _ (k%k0) j (Nat.mod_lt _ e)
  rw[show k / k0*k0+k%k0=k from Nat.div_add_mod' _ _]at this;rw[this];have f:k%k0<(enc G[k / k0]).length:=by rw[a];exact Nat.mod_lt _ e
  rw[gE f];simp[g,f]
 .rw[qP oo,c,jM,show n*k0+(k-n*k0)=k by omega];cases m:xs[k]? with
  | none=>rfl
  | some v=>rw[jP,oI oo]
open Go.Sort in
theorem NI [Inhabited α]{k0:Nat}{enc:α->oE}{T:TypeId}(j:0<k0)(f:∀x,(enc x).length=k0){G G':List α}{B n:Nat}{os:Array Obj}(a:Opn w B T k0 n c g xs (G.flatMap enc))(i:G'.length=n):Opn (sortWorldK enc k0 w g 0 m G'.toArray os) B T k0 n c g (G'.flatMap enc++xs.drop (n*k0)) (G'.flatMap enc)/\w.grownBy (sortWorldK enc k0 w g 0 m G'.toArray os) (some g):=by
 have o:n*k0<=xs.length:=by rw[a.len];exact Nat.mul_le_mul_right _ a.nc
 have d:(G'.flatMap enc).length=n*k0:=by rw[rZ f,i]
 have p:=a.blk.lt;have l:(sortWorldK enc k0 w g 0 m G'.toArray os).heap[g]? = some (.cells (G'.flatMap enc++xs.drop (n*k0)).toArray T):=by
  show (w.heap.modify g (onCells (putCells id 0 (flatK enc k0 G'.toArray)))++os)[g]? = _;have b:=a.blk;unfold Go.Proofs.YtgohpbmmcgenpaaGreatDoor.blk at b;rw[Array.getElem?_append_left (by simpa using p),Array.getElem?_modify,oJ rfl,b,jP];unfold onCells;simp only;rw[WR j f i o]
 refine⟨⟨l,a.lo,a.nc,a.cm,?_,?_,?_⟩,⟨rfl,rfl,rfl,?_,λk q h=>?_⟩⟩
 .rw[oT,d,qB,a.len]
  have:=a.len
  omega
 .rw[qJ oo,tL oo]
 .exact d
 .show w.heap.size<=(w.heap.modify g _++os).size;simp
 .show (w.heap.modify g _++os)[k]? = _;rw[Array.getElem?_append_left (by simpa using q),Array.getElem?_modify,oI (λe=>h (by rw[e]))]
open Go.Sort in
theorem zgU [Inhabited α]{k0:Nat}{enc:α->oE}{T:TypeId}(A:0<k0)(b:∀x,(enc x).length=k0)(Z:∀x,∀v∈enc x,v.oneCell'=true){r:Go.Shelf.Ren}(L:SlLaysF0.n6 Q r)(N:∀w,(isAgg (r.t 24)).run Q w=.ok true w)(zE:∀w,(Go.sizeOf (r.t 24)).run Q w=.ok k0 w){s:α->α->Int}(hO:SWO (Go.Proofs.ltOf s))(U:∀d w,(callFunc f d).run Q w=.ok (.enter f d) w)(D:Kr Q (r.f 6))(O:∀x y W,Calls Q f (#[.agg (enc x).toArray,.agg (enc y).toArray]++#[]) W λe a => e=.returned (ci (s x y))/\∃q os',a=grow (W.drewN q) os'){G:List α}{B n:Nat}(M:w.ownsRow B T k0 (.slice a n c) n (G.flatMap enc))(I:G.length=n)(hn:n<4611686018427387904)(h:∀(w':oG) (G':List α),G'.Perm G->G'.Pairwise (λx y=>¬s y x<0)->w'.ownsRow B T k0 (.slice a n c) n (G'.flatMap enc)->w.grownBy w' (Value.slice a n c).ownBlock->K (.tuple #[]) w'):call Q (r.f 6) #[.slice a n c,.func (.func f) #[] #[]] K w:=by
 refine ao D ?_;unfold Gives;by_cases hz:n=0
 .subst hz;have hG:G=[]:=List.eq_nil_of_length_eq_zero I;subst hG;have u:=AnyF.slices_SortFunc_none L a c (.func (.func f) #[] #[]) w;refine Calls.mono u λe w' C=>?_;obtain⟨rfl,rfl⟩:=C;exact⟨_,rfl,h _ [] (List.Perm.refl _) List.Pairwise.nil M ⟨rfl,rfl,rfl,Nat.le_refl _,λ_ _ _=>rfl⟩⟩
 .obtain⟨g,P,rfl,p⟩:=iM M oo;subst I;have hH:HoldsK enc k0 w g 0 G.toArray:=by
   intro j k;rw[size_flatK]at k;have k:j<G.length*k0:=by simpa using k
   have z:j / k0<G.length:=Nat.div_lt_of_lt_mul (by rw[Nat.mul_comm];exact k);have hx:G[j / k0]? = some G[j / k0]:=gE z;have H:j%k0<(enc G[j / k0]).length:=by rw[b];exact Nat.mod_lt _ A
   refine⟨?_,?_⟩
   .rw[p.blk.cell,oK,get_flatK _ _ _ _ (by simpa using k)]
    have:=p.cell b rfl hx (Nat.mod_lt j A)
    rw[show j / k0*k0+j%k0=j from Nat.div_add_mod' _ _]at this;rw[this,gE H];simp[z,H]
   .have o:=p.blk;unfold Go.Proofs.YtgohpbmmcgenpaaGreatDoor.blk at o;unfold World.frozen?;rw[o];rfl
  have u:=AnyQ.slices_SortFunc L k0 N zE enc b Z s hO f #[] g 0 c G.toArray w U (λm a b _ x y=>O x y _) hH p.blk.lt (by simpa using hn);rw[List.size_toArray]at u;refine Calls.mono u λe w' C=>?_;obtain⟨rfl,d',m,os,J,hs,rfl⟩:=C;have hd:d'.toList.toArray=d':=rfl;have l:d'.toList.length=G.length:=by
   have:=J.1
   simpa using this
  rw[<-hd];obtain⟨o2,Y⟩:=NI (m:=m) (os:=os) A b p (G':=d'.toList) l;refine⟨_,rfl,h _ d'.toList ?_ ?_ o2.own Y⟩
  .have F:=J.2.2;have R:d'.extract 0 G.length=d':=by rw[<-l];simp
   have S:G.toArray.extract 0 G.length=G.toArray:=by simp
   rw[R,S]at F;exact F
  .rw[List.pairwise_iff_getElem];intro i j z k E
   have:=hs i j (qG _) E (by rw[<-l];exact k)
   unfold Go.Proofs.ltOf at this;rw[decide_eq_false_iff_not]at this;have V:d'[i]! = d'.toList[i]:=by simp[show i<d'.size by simpa using z]
   have X:d'[j]! = d'.toList[j]:=by simp[show j<d'.size by simpa using k]
   rw[V,X]at this;exact this
end
end
end Go.Proofs.YtgohpbmmcgenpaaGreatDoor
namespace Go.Proofs
open Go.Shelf
def Tryz.sortWt_ren:Go.Shelf.Ren:=⟨λ|6=>250|15=>82|14=>263|28=>105|29=>106|20=>268|21=>269|22=>270|23=>271|24=>272|25=>273|26=>274|27=>275|46=>284|47=>113|48=>114|49=>285|50=>286|57=>290|n=>n,λ|22=>333|24=>273|25=>352|3=>3|39=>188|0=>0|53=>206|55=>32|4=>4|46=>220|45=>219|50=>224|5=>5|9=>9|66=>232|70=>236|76=>247|77=>248|n=>n,λ|n=>n⟩
theorem Tryz.sortWt : Go.Proofs.SlLaysF.n6 Tryz.prog Tryz.sortWt_ren := {
  mixed := by kernel_rfl
  f6 := ⟨Tryz.f250.name, by decide, Tryz.func250.trans (congrArg some (by kernel_rfl))⟩
  f14 := ⟨Tryz.f263.name, by decide, Tryz.func263.trans (congrArg some (by kernel_rfl))⟩
  f15 := Tryz.func82.trans (congrArg some (by kernel_rfl))
  f20 := ⟨Tryz.f268.name, by decide, Tryz.func268.trans (congrArg some (by kernel_rfl))⟩
  f21 := ⟨Tryz.f269.name, by decide, Tryz.func269.trans (congrArg some (by kernel_rfl))⟩
  f22 := ⟨Tryz.f270.name, by decide, Tryz.func270.trans (congrArg some (by kernel_rfl))⟩
  f23 := ⟨Tryz.f271.name, by decide, Tryz.func271.trans (congrArg some (by kernel_rfl))⟩
  f24 := ⟨Tryz.f272.name, by decide, Tryz.func272.trans (congrArg some (by kernel_rfl))⟩
  f25 := ⟨Tryz.f273.name, by decide, Tryz.func273.trans (congrArg some (by kernel_rfl))⟩
  f26 := ⟨Tryz.f274.name, by decide, Tryz.func274.trans (congrArg some (by kernel_rfl))⟩
  f27 := ⟨Tryz.f275.name, by decide, Tryz.func275.trans (congrArg some (by kernel_rfl))⟩
  f28 := Tryz.func105.trans (congrArg some (by kernel_rfl))
  f29 := Tryz.func106.trans (congrArg some (by kernel_rfl))
  f46 := ⟨Tryz.f284.name, by decide, Tryz.func284.trans (congrArg some (by kernel_rfl))⟩
  f47 := Tryz.func113.trans (congrArg some (by kernel_rfl))
  f48 := Tryz.func114.trans (congrArg some (by kernel_rfl))
  f49 := ⟨Tryz.f285.name, by decide, Tryz.func285.trans (congrArg some (by kernel_rfl))⟩
  f50 := ⟨Tryz.f286.name, by decide, Tryz.func286.trans (congrArg some (by kernel_rfl))⟩
  f57 := ⟨Tryz.f290.name, by decide, Tryz.func290.trans (congrArg some (by kernel_rfl))⟩
  t0 := Tryz.underlying0
  a0 := Tryz.isAgg0
  z0 := Tryz.sizeOf0
  v0 := Tryz.zeroValue0
  t3 := Tryz.underlying3
  a3 := Tryz.isAgg3
  z3 := Tryz.sizeOf3
  v3 := Tryz.zeroValue3
  t4 := Tryz.underlying4
  a4 := Tryz.isAgg4
  z4 := Tryz.sizeOf4
  v4 := Tryz.zeroValue4
  t5 := Tryz.underlying5
  a5 := Tryz.isAgg5
  z5 := Tryz.sizeOf5
  v5 := Tryz.zeroValue5
  t9 := Tryz.underlying9
  a9 := Tryz.isAgg9
  z9 := Tryz.sizeOf9
  v9 := Tryz.zeroValue9
  t22 := Tryz.underlying333
  a22 := Tryz.isAgg333
  z22 := Tryz.sizeOf333
  v22 := Tryz.zeroValue333
  a24 := Tryz.isAgg273
  z24 := Tryz.sizeOf273
  t25 := Tryz.underlying352
  a25 := Tryz.isAgg352
  z25 := Tryz.sizeOf352
  v25 := Tryz.zeroValue352
  t39 := Tryz.underlying188
  a39 := Tryz.isAgg188
  z39 := Tryz.sizeOf188
  v39 := Tryz.zeroValue188
  t45 := Tryz.underlying219
  a45 := Tryz.isAgg219
  z45 := Tryz.sizeOf219
  v45 := Tryz.zeroValue219
  t46 := Tryz.underlying220
  a46 := Tryz.isAgg220
  z46 := Tryz.sizeOf220
  v46 := Tryz.zeroValue220
  t50 := Tryz.underlying224
  a50 := Tryz.isAgg224
  z50 := Tryz.sizeOf224
  v50 := Tryz.zeroValue224
  t53 := Tryz.underlying206
  a53 := Tryz.isAgg206
  z53 := Tryz.sizeOf206
  v53 := Tryz.zeroValue206
  t55 := Tryz.underlying32
  a55 := Tryz.isAgg32
  z55 := Tryz.sizeOf32
  v55 := Tryz.zeroValue32
  t66 := Tryz.underlying232
  a66 := Tryz.isAgg232
  z66 := Tryz.sizeOf232
  v66 := Tryz.zeroValue232
  t70 := Tryz.underlying236
  a70 := Tryz.isAgg236
  z70 := Tryz.sizeOf236
  v70 := Tryz.zeroValue236
  t76 := Tryz.underlying247
  a76 := Tryz.isAgg247
  z76 := Tryz.sizeOf247
  v76 := Tryz.zeroValue247
  t77 := Tryz.underlying248
  a77 := Tryz.isAgg248
  z77 := Tryz.sizeOf248
  v77 := Tryz.zeroValue248 }
end Go.Proofs
namespace Go.Proofs.YtgohpbmmcgenpaaGreatDoor
variable {w w' w0 w2 S O:oG}{zf:Nat->oF}{b c o i g m s j z f d c2 gc D B' ba hi:Nat}{a av a2:Option Addr}{x v r N:Int}{E t e:TypeId}{A:List Int}{B1:KE}{xs ys vs:oE}{P:Program}{cx cy:Bool}{α:Type}{T:List (Int×Int)}{k':IntKind}{N1:List Nat}{Z1 N2 O2 P2 Q2 R2 T2 U2 V2 X2 N3 O3 P3 Q3 T3 U3 V3 W3 X3 N4 O4 P4 Q4 T4 U4 V4 Y4 Z4 j5 B5 N5 O5 P5 Q5 R5 T5 H Z U Y J C:oF}
set_option maxRecDepth 100000
set_option linter.defProp false
open Go.Proofs.Tryz
open Go.RowKit
def gj(d0 fl x2 jd w_9:oF)(zf:oD):=d0::fl::x2::jd::zT zf 4 5 (w_9::zT zf 10 52 ([]))
def ku(K:KV):KE:=kZ f205 [1,1,1,1] K
def sE(K:KV):KE:=aj Q (cd f205 (b1 61)) (ku K) xf (rk f205 K)
abbrev Dk(K:KV)(hA0:KE)(d0 fl x2 jd:oF)(w:oG):Prop :=
  bT .eql 116 d0 (.pointer none) (λa w=>cond a (K (ci 2) w) (bT .lss 2 x2 (ci 1) (λb w=>aT b false (λa=>bT .gtr 2 x2 (ci 1125899906842624) (λb=>a [x2,b]) w) (λk=>k [uu,uu] w) λc=>pick b cT (gd c 1) λd w=>aT d false (λa=>bT .eql 32 fl (cu 0) (λb=>a [fl,b]) w) (λk=>k [uu,uu] w) λe=>pick d cT (gd e 1) λf w=>aT f false (λa=>bT .gtr 32 jd (cu 4611686018427387904) (λb=>a [jd,b]) w) (λk=>k [uu,uu] w) λg=>pick f cT (gd g 1) λh w=>cond h (K (ci 1) w) (bj d0 (λi=>aq Q 154 i 0 λj=>ld Q 152 j λk=>lkp Q 152 k fl false λl=>hA0 (gj d0 fl x2 jd l (zV (zV zu 8 [ci 0]) 10 [d0,a,x2,b,b,gd c 0,gd c 1,d,d,gd e 0,gd e 1,f,f,gd g 0,gd g 1,h,d0,i,j,k,fl,l]))) w)) w)) w
section
variable {K:KV}{d0 fl x2 jd w_9:oF}  
def NL{K:KV}(a:Code)(h:Dk K (aj Q a (aj Q (cd f205 [1,1,1,1]) (rk f205 K) (λ_ _ _=>False) (rk f205 K)) (λ_ _ _=>False) (rk f205 K)) Y H Z U w):aj Q (rep (b1 61) a (cd f205 [])) (rk f205 K) xf (rk f205 K) (gj Y H Z U uu zu) w:=Eq.mp kr h
def Mk{K:KV}(h:Dk K (sE K) Y H Z U w):Gives Q 205 #[Y,H,Z,U] w K:=aw func205 kr (Eq.mp (qH (λc=>aj Q c (rk f205 K) xf (rk f205 K) (gj Y H Z U uu zu) w) (by kernel_rfl:(rep (b1 61) (cd f205 (b1 61)) (cd f205 []))=(cd f205 []))) (NL (cd f205 (b1 61)) h))
abbrev Ax(K:KV)(hA0:KE)(d0 fl x2 jd w_9:oF)(zf:oD)(w:oG):Prop :=
  bT .neq 273 w_9 (.pointer none) (λa w=>cond a (bj w_9 (λa=>aq Q 278 a 0 λa=>aq Q 276 a 1 λa=>ld Q 2 a λa=>blt Q .max #[2,2] 2 #[false,false] #[a,x2] λa=>bj w_9 λb=>aq Q 278 b 0 λb=>aq Q 276 b 1 λb=>sto Q 2 b a λ_=>K (ci 0)) w) (hA0 (gj d0 fl x2 jd w_9 (zV zf 32 [w_9,a])) w)) w
def Kf{K:KV}(a:KE)(h:Ax K a J H Z U Y zf w):aj Q (cd f205 (b1 61)) a xf (rk f205 K) (gj J H Z U Y zf) w:=Eq.mp kr h
def Kg(h:Ax K (ku K) d0 fl x2 jd w_9 zf w):sE K (gj d0 fl x2 jd w_9 zf) w:=by delta sE;exact Eq.mp (qH (λc=>aj Q c (ku K) xf (rk f205 K) (gj d0 fl x2 jd w_9 zf) w) (by kernel_rfl:(cd f205 (b1 61))=(cd f205 (b1 61)))) (Kf (ku K) h)
abbrev Ay(K:KV)(d0 fl x2 jd w_9:oF)(zf:oD)(w:oG):Prop :=
  bj d0 (λa=>aq Q 154 a 0 λa=>ld Q 152 a λa=>lN 152 a λa=>bT .geq 3 a (ci 32) λa w=>cond a (K (ci 7) w) (bj d0 (λa=>aq Q 154 a 0 λa=>ld Q 152 a λa=>bld Q 276 #[(0,fl),(1,x2)] λb=>bld Q 278 #[(0,b),(1,jd),(2,cu 1)] λb=>box Q 278 b λb=>fJ Q 152 a fl b λ_=>K (ci 0)) w)) w
def Kh{K:KV}(h:Ay K J H Z U Y zf w):aj Q (cd f205 [1,1,1,1]) (rk f205 K) xf (rk f205 K) (gj J H Z U Y zf) w:=Eq.mp kr h
def Ki(h:Ay K d0 fl x2 jd w_9 zf w):ku K (gj d0 fl x2 jd w_9 zf) w:=by delta ku;exact Eq.mp (qH (λc=>aj Q c (rk f205 K) xf (rk f205 K) (gj d0 fl x2 jd w_9 zf) w) (by kernel_rfl:(cd f205 [1,1,1,1])=(cd f205 [1,1,1,1]))) (Kh h)
end
attribute [irreducible] ku sE
def KY{K:KV}(h:bT .eql 116 H (.pointer none) (λb w=>aT b false (λb=>bj H (λa=>aq Q 154 a 0 λc=>ld Q 152 c λd=>lkp Q 152 d Z false λe=>bT .eql 273 e (.pointer none) λf=>b [H,a,c,d,Z,e,f]) w) (λk=>k [uu,uu,uu,uu,uu,uu,uu] w) λa=>pick b cT (gd a 6) λa w=>cond a (K cF w) (bj H (λa=>aq Q 154 a 0 λa=>ld Q 152 a λa=>blt Q .delete #[152,32] 0 #[false,false] #[a,Z] λ_=>K cT) w)) w):Gives Q 158 #[H,Z] w K:=aw func158 kr (mpK h)
def HB{K:KV}(h:aL (λS w=>hN S Z λa=>hF S 278 a 0 λa=>hF S 276 a 0 λa=>hL S 32 a λa=>hN S H λb=>hF S 278 b 0 λb=>hF S 276 b 0 λb=>hL S 32 b λb=>call Q 66 #[a,b] (λa=>aL λ_=>K a) w) w.drew):Gives Q 251 #[Z,H] w K:=aw func251 kr (mpK h)
def Kc{K:KV}(h:sN Z (λa=>sF 278 a 1 λa=>sL 32 a λa=>sL 32 H λb=>sti (bF .leq 32 a b) K) w.drew):Gives Q 235 #[Z,H] w K:=aw func235 kr (mpK h)
section
attribute [local irreducible] bin un conv call bS blt slc aq fld bv idx lkp fJ nl eSt rng nxt ent ext alc box bld cH ld sto bj fK mkS ifc pick rdy wts aT sti cond bA Gives aj iK kH cOp
def DD{K:KV}(h:K (pA b (o+0)) w):aq Q 154 (pA b o) 0 K w:=aQ kr h
def DQ{K:KV}(h:K (pA b (o+0)) w):aq Q 278 (pA b o) 0 K w:=aQ kr h
def Yi{K:KV}(h:K (pA b (o+2)) w):aq Q 278 (pA b o) 1 K w:=aQ kr h
def RU{K:KV}(h:K (pA b (o+3)) w):aq Q 278 (pA b o) 2 K w:=aQ kr h
def Bz{K:KV}(h:K (pA b (o+0)) w):aq Q 276 (pA b o) 0 K w:=aQ kr h
def MC{K:KV}(h:K (pA b (o+1)) w):aq Q 276 (pA b o) 1 K w:=aQ kr h
def wtC(k a t x:Int):oE:=[u6 k,iv a,u6 t,u6 x]
def IsW(w:oG)(p:Int×Nat):Prop:=∃a t x,blk w p.2 278 (wtC p.1 a t x)
section
variable  {K:KV}
def Vc(h:K (.bool false) w):bin Q .eql 116 cx cy (pB b) (.pointer none) K w :=
 eH (by unfold eqG eqGuard;rfl) kr h
def zj5{p q:Int×Nat}{W:oG}(f:IsW W p)(g:IsW W q):Calls Q 251 (#[pB p.2,pB q.2]++#[]) W λe S => e=.returned (ci (rE p.1 q.1))/\∃n os',S=Go.Sort.grow (W.drewN n) os':=by
 obtain⟨a,t,x,f⟩:=f;obtain⟨h,l,m,g⟩:=g;have d:Gives Q 251 #[pB p.2,pB q.2] W λv S => v=ci (rE p.1 q.1)/\∃n os',S=Go.Sort.grow (W.drewN n) os':=by
  refine HB <|ax (λu=>blk u p.2 278 (wtC p.1 a t x)/\blk u q.2 278 (wtC q.1 h l m)) ⟨f.drew,g.drew⟩ ?_;refine ac (λu c _=>au) (ac (λu c _=>DQ) (ac (λu c _=>Bz) (ac (λu c _=>lK (v:=u6 p.1) c.1 rfl) ?_)));refine ac (λu c _=>au) (ac (λu c _=>DQ) (ac (λu c _=>Bz) (ac (λu c _=>lK (v:=u6 q.1) c.2 rfl) ?_)));refine zaP (ax (λ_=>True) trivial ⟨rfl,1,#[],?_⟩)
  unfold Go.Sort.grow World.drewN World.drew;simp
 rw[show (#[pB p.2,pB q.2]++#[]:Array oF)=#[pB p.2,pB q.2]from rfl];unfold Gives at d;exact Calls.mono d λ_ _ ⟨v,i,j,k⟩=>⟨by rw[i,j],k⟩
open Go.Sort in
theorem Zf [Inhabited α]{enc:α->oF}{d:Array α}{c:Array Obj}(f:b<w.heap.size)(a:b≠g):(sortWorld enc w g 0 m d c).heap[b]? = w.heap[b]? := by
 show (w.heap.modify g _++c)[b]? = _;rw[Array.getElem?_append_left (by simpa using f),Array.getElem?_modify,oI (λe=>a e.symm)]
open Go.Sort in
theorem zk1 [Inhabited α]{enc:α->oF}{d:Array α}{os:Array Obj}:sortWorld enc w g 0 m d os=sortWorldK (λx=>[enc x]) 1 w g 0 m d os:=by
 have e:∀c:Array oF,putCells enc 0 d c=putCells id 0 (flatK (λx=>[enc x]) 1 d) c:=λc=>by
  apply Array.ext_getElem?;intro k;unfold putCells;rw[Array.getElem?_mapIdx,Array.getElem?_mapIdx,size_flatK,Nat.mul_one];by_cases a:0<=k/\k<0+d.size
  .have b:k<d.size*1:=by omega
   cases c[k]? with
   | none=>rfl
   | some v =>
    rw[jP,jP,oJ a,oJ a,Nat.sub_zero,get_flatK _ _ _ _ b,Nat.div_one,Nat.mod_one];rfl
  .cases c[k]? with
   | none=>rfl
   | some v=>rw[jP,jP,oI a,oI a]
 show grow (mapBlock (Go.Sort.ahead w m) g (putCells enc 0 d)) os=grow (mapBlock (Go.Sort.ahead w m) g (putCells id 0 (flatK (λx=>[enc x]) 1 d))) os;rw[show putCells enc 0 d=putCells id 0 (flatK (λx=>[enc x]) 1 d)from funext e]
open Go.Sort in
theorem zgR {bs : List Nat} {B n c : Nat} {a : Option Addr} (hr : w.ownsRow B 273 1 (.slice a n c) n (bs.flatMap fun b => [pB b])) (hl : bs.length = n) (hn : n < 4611686018427387904) (hw : ∀ b ∈ bs, ∃ k, IsW w (k, b))
    (h : ∀ (w' : World) (bs' : List Nat), bs'.Perm bs → w'.ownsRow B 273 1 (.slice a n c) n (bs'.flatMap fun b => [pB b]) → w.grownBy w' (Value.slice a n c).ownBlock → K (.tuple #[]) w') :
    call Tryz.prog 250 #[.slice a n c, .func (.func 251) #[] #[]] K w := by
  have hgo : Kr Tryz.prog 250 := ⟨_, Tryz.func250, by kernel_rfl, by kernel_rfl⟩
  refine ao hgo ?_
  unfold Gives
  by_cases hz : n = 0
  · subst hz
    have hG : bs = [] := List.eq_nil_of_length_eq_zero hl
    subst hG
    have hc := AnyF.slices_SortFunc_none { Tryz.sortWt with } a c (.func (.func 251) #[] #[]) w
    change Calls Tryz.prog 250 _ _ _ at hc
    refine Calls.mono hc fun e w' he => ?_
    obtain ⟨rfl, rfl⟩ := he
    exact ⟨_, rfl, h _ [] (List.Perm.refl _) hr ⟨rfl, rfl, rfl, Nat.le_refl _, fun _ _ _ => rfl⟩⟩
  · obtain ⟨g, cur, rfl, op⟩ := iM hr (by omega)
    subst hl
    obtain ⟨D, hD⟩ : ∃ D : List { p : Int × Nat // IsW w p }, D.map (fun p => p.1.2) = bs := by
      clear h hr op hz hn
      induction bs with
      | nil => exact ⟨[], rfl⟩
      | cons b bs ih =>
        obtain ⟨D, hD⟩ := ih fun b hb => hw b (List.mem_cons_of_mem _ hb)
        obtain ⟨k, hk⟩ := hw b (by simp)
        exact ⟨⟨(k, b), hk⟩ :: D, by rw [List.map_cons, hD]⟩
    have hDl : D.length = bs.length := by rw [← hD, List.length_map]
    haveI : Inhabited { p : Int × Nat // IsW w p } := ⟨D[0]'(by omega)⟩
    have hfl : bs.flatMap (fun b => [pB b]) = D.flatMap fun p => [pB p.1.2] := by rw [← hD, List.flatMap_map]
    rw [hfl] at op
    have hgw : ∀ p : { p : Int × Nat // IsW w p }, p.1.2 ≠ g ∧ p.1.2 < w.heap.size := fun p => by
      obtain ⟨_, _, _, hp⟩ := p.2
      exact ⟨fun e => (hp.ne op.blk (by decide)) e, hp.lt⟩
    have hH : Holds (fun p : { p : Int × Nat // IsW w p } => pB p.1.2) w g 0 D.toArray := by
      intro j hj
      have hj : j < D.length := by simpa using hj
      have hx : D[j]? = some D[j] := List.getElem?_eq_getElem hj
      refine ⟨?_, ?_⟩
      · have := op.cell (s := 1) (enc := fun p : { p : Int × Nat // IsW w p } => [pB p.1.2]) (fun _ => rfl) hDl hx (show 0 < 1 by omega)
        rw [op.blk.cell, Nat.zero_add]
        rw [show j * 1 + 0 = j by omega] at this
        rw [this]
        simp [hj]
      · have hbk := op.blk
        unfold Go.Proofs.YtgohpbmmcgenpaaGreatDoor.blk at hbk
        unfold World.frozen?
        rw [hbk]
        rfl
    have hc := Any.slices_SortFunc Tryz.sortWt (fun p : { p : Int × Nat // IsW w p } => pB p.1.2) (fun _ => rfl) (fun x y => rE x.1.1 y.1.1) (swoZ fun x : { p : Int × Nat // IsW w p } => x.1.1) 251 #[] g 0 c D.toArray w
      (enters_of Tryz.func251 (by kernel_rfl) rfl) (fun m os dk _ x y => zj5 (p := x.1) (q := y.1) (by
        obtain ⟨a1, t1, x1, h1⟩ := x.2
        refine ⟨a1, t1, x1, ?_⟩
        unfold Go.Proofs.YtgohpbmmcgenpaaGreatDoor.blk at *
        rw [Zf (hgw x).2 (hgw x).1]; exact h1) (by
        obtain ⟨a1, t1, x1, h1⟩ := y.2
        refine ⟨a1, t1, x1, ?_⟩
        unfold Go.Proofs.YtgohpbmmcgenpaaGreatDoor.blk at *
        rw [Zf (hgw y).2 (hgw y).1]; exact h1)) hH op.blk.lt (by simpa [hDl] using hn)
    change Calls Tryz.prog 250 _ _ _ at hc
    rw [List.size_toArray, hDl] at hc
    refine Calls.mono hc fun e w' he => ?_
    obtain ⟨rfl, d', m, os, hp, hs, rfl⟩ := he
    have hd : d'.toList.toArray = d' := rfl
    have hdl : d'.toList.length = bs.length := by
      have := hp.1
      simpa [hDl] using this
    rw [← hd, zk1]
    obtain ⟨o2, g2⟩ := NI (k0 := 1) (m := m) (os := os) Nat.one_pos (fun _ => rfl) op (G' := d'.toList) hdl
    refine ⟨_, rfl, h _ (d'.toList.map fun p => p.1.2) ?_ ?_ g2⟩
    · have h2 := hp.2.2
      have e1 : d'.extract 0 bs.length = d' := by rw [← hdl]; simp
      have e2 : D.toArray.extract 0 bs.length = D.toArray := by rw [← hDl]; simp
      rw [e1, e2] at h2
      rw [← hD]
      exact List.Perm.map _ h2
    · rw [List.flatMap_map]; exact o2.own
end
def Ri{α:Type}{p:α->Bool}:∀{l:List α} {i:Nat},(∀(k:Nat) x,l[k]? = some x->k<i->p x=false)->(∀(k:Nat) x,l[k]? = some x->i<=k->p x=true)->l.drop i=l.filter p
 | [],i,_,_=>by simp
 | a::l,0,h1,h2=>by
  rw[oX,List.filter_eq_self.2 λx b=>by
   obtain⟨k,c⟩:=List.getElem?_of_mem b;exact h2 k x c (qG _)]
 | a::l,i+1,h1,h2=>by
  rw[List.drop_succ_cons,List.filter_cons_of_neg (by rw[h1 0 a rfl (Nat.succ_pos _)];exact Bool.false_ne_true)];exact Ri (λk x b c=>h1 (k+1) x b oo) λk x b c=>h2 (k+1) x b oo
def toI(p:EV×Nat):EV×Int:=(p.1,(p.2:Int))
def zA(A:List EV)(v:List Int):List (EV×Int):=(A.zipIdx.filter λp=>decide (v.getD p.1.q 0<p.1.s)).map toI
def me(A:List EV)(v:List Int)(n:Nat):List (EV×Int):=(List.range n).flatMap λq=>(xJ A q).filter λp=>decide (v.getD q 0<p.1.s)
def zcf{A:List EV}:A.zipIdx.Pairwise λx y=>x.2<y.2:=by rw[List.pairwise_iff_getElem];intro i j b c a;rw[List.getElem_zipIdx,List.getElem_zipIdx];simp only;omega
def zh9{A:List EV}{p:EV×Nat}(h:p∈A.zipIdx):p.1∈A:=by
 have e:A.zipIdx.map (·.1)=A:=by rw[List.zipIdx_map_fst]
 rw[<-e];exact qT.2 ⟨p,h,rfl⟩
def zA_sorted{A:List EV}{v:List Int}:(zA A v).Pairwise λx y=>x.2<y.2:=by
 unfold zA;rw[List.pairwise_map];refine(List.Pairwise.filter _ zcf).imp λ{a b} h=>?_;show (a.2:Int)<(b.2:Int)
 omega
def ziV{A:List EV}{v:List Int}:(zA A v).map (·.1)=A.filter λe=>decide (v.getD e.q 0<e.s):=by
 have h:A.zipIdx.map (·.1)=A:=by rw[List.zipIdx_map_fst]
 conv=>rhs;rw[<-h]
 unfold zA;rw[jG,List.filter_map];rfl
def ziW{A:List EV}{v:List Int}{x:EV×Int}:x∈zA A v↔∃p∈A.zipIdx,v.getD p.1.q 0<p.1.s/\toI p=x:=by unfold zA;simp only[qT,qU,oP,and_assoc]
def SR{A:List EV}{q:Nat}{x:EV×Int}:x∈xJ A q↔∃p∈A.zipIdx,p.1.q=q/\toI p=x:=by unfold xJ;simp only[qT,qU,oP,and_assoc];rfl
def zgF{A:List EV}{q:Nat}:(xJ A q).Nodup:=by
 unfold xJ;rw[List.nodup_iff_pairwise_ne,List.pairwise_map];refine(List.Pairwise.filter _ zcf).imp λ{a b} h e=>?_
 have:=qH (·.2) e
 simp only at this;omega
def Nj{A:List EV}{v:List Int}{n:Nat}{x:EV×Int}:x∈me A v n↔∃p∈A.zipIdx,p.1.q<n/\v.getD p.1.q 0<p.1.s/\toI p=x:=by
 unfold me;simp only[List.mem_flatMap,jQ,qU,oP];constructor
 .rintro⟨q,b,d,c⟩;obtain⟨p,a,rfl,rfl⟩:=SR.1 d;exact⟨p,a,b,c,rfl⟩
 .rintro⟨p,a,b,c,rfl⟩;exact⟨p.1.q,b,SR.2 ⟨p,a,rfl,rfl⟩,c⟩
def PS{A:List EV}{v:List Int}:∀{n:Nat},(me A v n).Nodup
 | 0=>List.nodup_nil
 | n+1=>by
  have e:me A v (n+1)=me A v n++(xJ A n).filter λp=>decide (v.getD n 0<p.1.s):=by
   unfold me;rw[List.range_succ,List.flatMap_append];simp
  rw[e,List.nodup_append];refine⟨PS,List.Nodup.sublist List.filter_sublist zgF,λa h b i c=>?_⟩;subst c;obtain⟨p,_,d,_,f⟩:=Nj.1 h;obtain⟨k,_,j,g⟩:=SR.1 (qU.1 i).1
  have:=qH (·.1) (f.trans g.symm)
  simp only[toI]at this;rw[this]at d;omega
def zeS{A:List EV}{v:List Int}{L:List (EV×Int)}(u:∀e∈A,e.q<6)(t:L.Perm (me A v 6))(w:L.Pairwise λx y=>¬y.2<x.2):L=zA A v:=by
 have k:(zA A v).Nodup:=by
  rw[List.nodup_iff_pairwise_ne];exact zA_sorted.imp λ{a b} h e=>by rw[e]at h;omega
 have f:L.Perm (zA A v):=t.trans ((List.perm_ext_iff_of_nodup PS k).2 λx=>by
  rw[Nj,ziW];constructor
  .rintro⟨p,c,_,d,g⟩;exact⟨p,c,d,g⟩
  .rintro⟨p,c,d,g⟩;exact⟨p,c,u _ (zh9 c),d,g⟩)
 refine List.Perm.eq_of_pairwise (le:=λx y=>¬y.2<x.2) (λa b n o c d=>?_) w (zA_sorted.imp λ{x y} h=>by omega) f;obtain⟨i,r⟩:=List.getElem?_of_mem (f.mem_iff.1 n);obtain⟨j,s⟩:=List.getElem?_of_mem o;obtain⟨l,rfl⟩:=gS r;obtain⟨m,rfl⟩:=gS s;rcases Nat.lt_trichotomy i j with e|e|e
 .exact qI (List.pairwise_iff_getElem.1 zA_sorted i j l m e) d
 .subst e;rfl
 .exact qI (List.pairwise_iff_getElem.1 zA_sorted j i m l e) c
def zeP{A:List EV}{q:Nat}(h:A.Pairwise λa b=>a.q=b.q->a.s<b.s):(xJ A q).Pairwise λx y=>x.1.s<y.1.s:=by
 unfold xJ;rw[List.pairwise_map];have d:A.zipIdx.Pairwise λx y=>x.1.q=y.1.q->x.1.s<y.1.s:=by
  have e:A.zipIdx.map (·.1)=A:=by rw[List.zipIdx_map_fst]
  rw[<-e,List.pairwise_map]at h;exact h
 refine List.Pairwise.imp_of_mem (λ{a b} i j c=>?_) (List.Pairwise.filter _ d);have f:=of_decide_eq_true (qU.1 i).2;have g:=of_decide_eq_true (qU.1 j).2;exact c (f.trans g.symm)
def zgE{A:List EV}{q:Nat}:(xJ A q).length<=A.length:=by unfold xJ;rw[oY];refine qR (List.length_filter_le _ _) ?_;rw[List.length_zipIdx];exact Nat.le_refl _
end
end Go.Proofs.YtgohpbmmcgenpaaGreatDoor
namespace Go.Proofs
open Go.Shelf
def Tryz.sortIt_ren:Go.Shelf.Ren:=⟨λ|6=>253|15=>82|14=>266|28=>105|29=>106|20=>276|21=>277|22=>278|23=>279|24=>280|25=>281|26=>282|27=>283|46=>287|47=>113|48=>114|49=>288|50=>289|57=>291|n=>n,λ|22=>142|24=>200|25=>355|3=>3|39=>188|0=>0|53=>206|55=>32|4=>4|46=>220|45=>219|50=>224|5=>5|9=>9|66=>232|70=>236|76=>247|77=>248|n=>n,λ|n=>n⟩
theorem Tryz.sortIt : Go.Proofs.SlLaysF0.n6 Tryz.prog Tryz.sortIt_ren := {
  mixed := by kernel_rfl
  f6 := ⟨Tryz.f253.name, by decide, Tryz.func253.trans (congrArg some (by kernel_rfl))⟩
  f14 := ⟨Tryz.f266.name, by decide, Tryz.func266.trans (congrArg some (by kernel_rfl))⟩
  f15 := Tryz.func82.trans (congrArg some (by kernel_rfl))
  f20 := ⟨Tryz.f276.name, by decide, Tryz.func276.trans (congrArg some (by kernel_rfl))⟩
  f21 := ⟨Tryz.f277.name, by decide, Tryz.func277.trans (congrArg some (by kernel_rfl))⟩
  f22 := ⟨Tryz.f278.name, by decide, Tryz.func278.trans (congrArg some (by kernel_rfl))⟩
  f23 := ⟨Tryz.f279.name, by decide, Tryz.func279.trans (congrArg some (by kernel_rfl))⟩
  f24 := ⟨Tryz.f280.name, by decide, Tryz.func280.trans (congrArg some (by kernel_rfl))⟩
  f25 := ⟨Tryz.f281.name, by decide, Tryz.func281.trans (congrArg some (by kernel_rfl))⟩
  f26 := ⟨Tryz.f282.name, by decide, Tryz.func282.trans (congrArg some (by kernel_rfl))⟩
  f27 := ⟨Tryz.f283.name, by decide, Tryz.func283.trans (congrArg some (by kernel_rfl))⟩
  f28 := Tryz.func105.trans (congrArg some (by kernel_rfl))
  f29 := Tryz.func106.trans (congrArg some (by kernel_rfl))
  f46 := ⟨Tryz.f287.name, by decide, Tryz.func287.trans (congrArg some (by kernel_rfl))⟩
  f47 := Tryz.func113.trans (congrArg some (by kernel_rfl))
  f48 := Tryz.func114.trans (congrArg some (by kernel_rfl))
  f49 := ⟨Tryz.f288.name, by decide, Tryz.func288.trans (congrArg some (by kernel_rfl))⟩
  f50 := ⟨Tryz.f289.name, by decide, Tryz.func289.trans (congrArg some (by kernel_rfl))⟩
  f57 := ⟨Tryz.f291.name, by decide, Tryz.func291.trans (congrArg some (by kernel_rfl))⟩
  t0 := Tryz.underlying0
  a0 := Tryz.isAgg0
  z0 := Tryz.sizeOf0
  v0 := Tryz.zeroValue0
  t3 := Tryz.underlying3
  a3 := Tryz.isAgg3
  z3 := Tryz.sizeOf3
  v3 := Tryz.zeroValue3
  t4 := Tryz.underlying4
  a4 := Tryz.isAgg4
  z4 := Tryz.sizeOf4
  v4 := Tryz.zeroValue4
  t5 := Tryz.underlying5
  a5 := Tryz.isAgg5
  z5 := Tryz.sizeOf5
  v5 := Tryz.zeroValue5
  t9 := Tryz.underlying9
  a9 := Tryz.isAgg9
  z9 := Tryz.sizeOf9
  v9 := Tryz.zeroValue9
  t22 := Tryz.underlying142
  a22 := Tryz.isAgg142
  z22 := Tryz.sizeOf142
  v22 := Tryz.zeroValue142
  t25 := Tryz.underlying355
  a25 := Tryz.isAgg355
  z25 := Tryz.sizeOf355
  v25 := Tryz.zeroValue355
  t39 := Tryz.underlying188
  a39 := Tryz.isAgg188
  z39 := Tryz.sizeOf188
  v39 := Tryz.zeroValue188
  t45 := Tryz.underlying219
  a45 := Tryz.isAgg219
  z45 := Tryz.sizeOf219
  v45 := Tryz.zeroValue219
  t46 := Tryz.underlying220
  a46 := Tryz.isAgg220
  z46 := Tryz.sizeOf220
  v46 := Tryz.zeroValue220
  t50 := Tryz.underlying224
  a50 := Tryz.isAgg224
  z50 := Tryz.sizeOf224
  v50 := Tryz.zeroValue224
  t53 := Tryz.underlying206
  a53 := Tryz.isAgg206
  z53 := Tryz.sizeOf206
  v53 := Tryz.zeroValue206
  t55 := Tryz.underlying32
  a55 := Tryz.isAgg32
  z55 := Tryz.sizeOf32
  v55 := Tryz.zeroValue32
  t66 := Tryz.underlying232
  a66 := Tryz.isAgg232
  z66 := Tryz.sizeOf232
  v66 := Tryz.zeroValue232
  t70 := Tryz.underlying236
  a70 := Tryz.isAgg236
  z70 := Tryz.sizeOf236
  v70 := Tryz.zeroValue236
  t76 := Tryz.underlying247
  a76 := Tryz.isAgg247
  z76 := Tryz.sizeOf247
  v76 := Tryz.zeroValue247
  t77 := Tryz.underlying248
  a77 := Tryz.isAgg248
  z77 := Tryz.sizeOf248
  v77 := Tryz.zeroValue248 }
end Go.Proofs
namespace Go.Proofs.YtgohpbmmcgenpaaGreatDoor
variable {w w' w0 w2 S O:oG}{zf:Nat->oF}{b c o i g m s j z f d c2 gc D B' ba hi:Nat}{a av a2:Option Addr}{x v r N:Int}{E t e:TypeId}{A:List Int}{B1:KE}{xs ys vs:oE}{P:Program}{cx cy:Bool}{α:Type}{T:List (Int×Int)}{k':IntKind}{N1:List Nat}{Z1 N2 O2 P2 Q2 R2 T2 U2 V2 X2 N3 O3 P3 Q3 T3 U3 V3 W3 X3 N4 O4 P4 Q4 T4 U4 V4 Y4 Z4 j5 B5 N5 O5 P5 Q5 R5 T5 H Z U Y J C:oF}
set_option maxRecDepth 100000
set_option linter.defProp false
open Go.Proofs.Tryz
open Go.RowKit
def hU(s0 f1 s2 f3 i5 A4 A5:oF)(zf:oD):=s0::f1::s2::f3::zf 4::i5::zf 6::A4::A5::zT zf 9 10 ([])
def cY(K:KV):KE:=kZ f256 [1,1] K
def gY(K:KV):KE:=aj Q (cd f256 [1,0,1,0]) (cY K) (xx xf (cY K) 0) (rk f256 K)
section
variable {K:KV}{s0 f1 s2 f3 i5 A4 A5:oF}  
def xy{K:KV}(h:lN 36 H (λa=>gY K (hU H Z uu uu uu a (ci 0) (zV (zV zu 4 [ci 0]) 6 [H]))) w):Gives Q 256 #[H,Z] w K:=aw func256 kr (mpK h)
def wg(Inv:oF->oG->Prop)(μ:oF->oG->Nat)(f:Inv A5 w)(i:∀(a:oF) (d:oD) (w:oG) (m:Nat),Inv a w->m=μ a w ->
  lS a A4 (λb w=>cond b (bv Q 36 s0 a (λb=>ld Q 61 b λb=>bS Q f1 #[b] λb w=>cond b (K a w) (nC a (λa w=>(Inv a w)/\((μ a w)<m)) w)) w) (cY K (hU s0 f1 s2 f3 (d 5) A4 a (zV d 9 [b])) w)) w):gY K (hU s0 f1 s2 f3 i5 A4 A5 zf) w:=by refine aZ (cd f256 (b1 52)) (zr [(4,2),(8,11)]) kr (vP [8] Inv) (vQ [8] μ) f ?_;intro e j g;have h:=i _ (zM zf (gd e) (zr [(4,2),(8,11)])) j _ g rfl;revert h;generalize (cY K)=qc0;exact mpF
def wi(h:K (ci (-1)) w):cY K (hU s0 f1 s2 f3 i5 A4 A5 zf) w:=mpK h
end
attribute [irreducible] cY gY
def Py{K:KV}(h:box Q 61 U (λd=>aq Q 61 d 0 λa=>ld Q 3 a λa=>ld Q 3 Z λb=>bF .eql 3 a b λe w=>aT e true (λe=>aq Q 61 d 1 (λa=>ld Q 32 a λb=>aq Q 42 H 4 λc=>ld Q 32 c λd=>bF .eql 32 b d λf=>e [a,b,c,d,f,f]) w) (λk=>k [uu,uu,uu,uu,uu,uu] w) λa w=>aT (gd a 5) false (λf=>aq Q 61 d 4 (λa=>ld Q 32 a λb=>aq Q 42 H 4 λc=>ld Q 32 c λd=>bF .eql 32 b d λe=>f [a,b,c,d,e]) w) (λk=>k [uu,uu,uu,uu,uu] w) λb w=>aT e true (λg=>pick (gd a 5) cT (gd b 4) (λa=>g [a]) w) (λk=>k [uu] w) λc=>pick e (gd c 0) cF K) w):Gives Q 257 #[U,Z,H] w K:=aw func257 kr (mpK h)
def FQ{K:KV}(h:box Q 268 Z (λa w=>aL (λS w=>hN S H λb=>hF S 119 b 1 λb=>hL S 107 b λb=>hN S H λc=>hF S 119 c 0 λc=>hL S 3 c λc=>hF S 268 a 5 λd=>hL S 32 d λd=>hF S 268 a 6 λe=>hL S 2 e λe=>call Q 154 #[b,c,d] (λb=>bw S λ_=>call Q 242 #[b,e] λb=>aL λ_=>bT .eql 2 b (ci 0) λc w=>cond c (K cN w) (aq Q 268 a 5 (λc=>ld Q 32 c λc=>aq Q 268 a 1 λa=>ld Q 3 a λa=>bld Q 42 #[(0,cb 5),(1,c),(2,a),(3,b)] λa=>call Q 203 #[H,a] λa=>ext Q a 0 λb=>ext Q a 1 λa=>alc Q 49 λc=>sto Q 49 c b λ_=>bT .neq 28 a (ci 0) λa w=>cond a (K cN w) (ld Q 49 c (λa=>cH Q 100 1 #[(0,a)] K) w)) w)) w) w.drew) w):Gives Q 218 #[H,Z] w K:=aw func218 kr (mpK h)
section
instance:Inhabited (EV×Int):=⟨(evZ,0)⟩
def tl(A:List EV)(v:List Int):List EV:=((zA A v).take 16).map (·.1)
def zd2{A:List EV}{v:List Int}{n:Nat}:(me A v n).length<=A.length:=by
 have:=wG (l:=me A v n) (l':=A.zipIdx.map toI) PS λx c=>by
  obtain⟨p,a,_,_,b⟩:=Nj.1 c;exact qT.2 ⟨p,a,b⟩
 rwa[oY,List.length_zipIdx]at this
def OW{α:Type}{enc:α->oE}{s:Nat}(a:∀x,(enc x).length=s):∀(L:List α) (q:Nat),(L.flatMap enc).drop (q*s)=(L.drop q).flatMap enc
 | [],q=>by simp
 | x::L,0=>by simp
 | x::L,q+1=>by
  rw[jI,List.drop_succ_cons,qS,oS (by rw[a,Nat.succ_mul];omega),oV,a,show (q+1)*s-s=q*s by rw[Nat.succ_mul];omega,OW a L q]
def OX{α:Type}{enc:α->oE}{s:Nat}(a:∀x,(enc x).length=s):∀(L:List α) (q:Nat),(L.flatMap enc).take (q*s)=(L.take q).flatMap enc
 | [],q=>by simp
 | x::L,0=>by simp
 | x::L,q+1=>by
  rw[jI,List.take_succ_cons,List.take_append,tL (by rw[a,Nat.succ_mul];omega),a,show (q+1)*s-s=q*s by rw[Nat.succ_mul];omega,OX a L q,jI]
section
variable   {K:KV}
def zjN{cs:Array Bool}{x:Option Addr}(d:P.underlying t=some (.slice e))(b:∀w,(sizeOf e).run P w=.ok s w)(a:m<=c)(h:K (.slice av m c) w):blt P .append #[t,t] E cs #[.slice av m c,.slice x 0 c2] K w:=by refine rD (v:=.slice av m c) (w':=w) ?_ h;rw[BigFrame.builtin_append];cases av<;>cases x<;>simp[Builtin.append_,jY d,b,Builtin.lenOf,Builtin.firstCells,jW,jX,Result.andThen,a,storeCells,loadCells,loadCellsFrom]
end
attribute [local irreducible] bin un conv call bS blt slc aq fld bv idx lkp fJ nl eSt rng nxt ent ext alc box bld cH ld sto bj fK mkS ifc pick rdy wts aT sti cond bA Gives aj iK kH cOp
section
variable  {K:KV}
def YX{x:EV×Int}(h:∀S,Below w.heap.size w S->K (iv (if x.1.s<=v then -1 else 1)) S):call Q 265 #[.agg (itC x).toArray,u6 v] K w:=by
 refine ao (goK func265) (QW (bU λc b d e=>?_));have b:=cZ b
 refine aQ (off:=0) kr (pC (lK (v:=u6 x.1.s) b rfl (kq ?_)))
 have:=h c d
 by_cases a:x.1.s<=v
 .rw[oJ a]at this;exact aG a this
 .rw[oI a]at this;exact aB a this
def zgv{n B:Nat}{L:List (EV×Int)}(N:w.ownsRow B 200 15 (.slice a n c) n (L.flatMap itC))(M:L.length=n)(hn:n<=1000000)(W:L.Pairwise λx y=>x.1.s<y.1.s)(h:∀w' (q:Nat),q<=n->L.drop q=L.filter (λp=>decide (v<p.1.s))->Below w.heap.size w w'->K (iv (q:Nat)) w'):call Q 252 #[.slice a n c,u6 v] K w:=by
 refine ao (goK func252) (Uq (ao (goK func264) (qm (bM underlying142 ?_))));refine pJ (Inv:=λi j X=>∃p q:Nat,i=iv (p:Nat)/\j=iv (q:Nat)/\p<=q/\q<=n/\(∀(k:Nat) x,L[k]? = some x->k<p->x.1.s<=v)/\(∀(k:Nat) x,L[k]? = some x->q<=k->v<x.1.s)/\Below w.heap.size w X) (μ:=λi j _=>(intOf j).toNat-(intOf i).toNat)
  ⟨0,n,rfl,rfl,qG _,Nat.le_refl _,λk x _ e=>by omega,λk x b e=>by have:=(gS b).1;omega,jT _ _⟩ ?_
 rintro _ _ Y O mu ⟨p,q,rfl,rfl,V,r,H,I,u⟩ z;have A:=dl N (w':=O) λk e=>u.block k (jS N k e).2;have g:∀(i j:Nat) x y,L[i]? = some x->L[j]? = some y->i<j->x.1.s<y.1.s:=λi j x y b f D=>by
  obtain⟨R,rfl⟩:=gS b;obtain⟨S,rfl⟩:=gS f;exact List.pairwise_iff_getElem.1 W i j R S D
 refine aW ?_;by_cases T:p<q
 .refine aG oo (aY oo oo (dP underlying3 underlying188 ?_));rw[show IntKind.u64.wrap ((p:Int)+(q:Nat))=((p+q:Nat):Int)by rw[gu];omega];refine He oo ?_;rw[show Int.fdiv ((p+q:Nat):Int) (2 ^ (min (1:Int).toNat IntKind.u64.bits))=(((p+q) / 2:Nat):Int)by
   rw[show (2:Int) ^ (min (1:Int).toNat IntKind.u64.bits)=2 from rfl,Int.fdiv_eq_ediv_of_nonneg _ oo];omega]
  refine dP underlying188 underlying3 ?_;rw[eY oo oo];generalize Z:(p+q) / 2=m;have E:p<=m:=by omega
  have F:m<q:=by omega
  have b:L[m]? = some L[m]:=gE oo;generalize L[m]=x at b;refine GJ (i:=m) (enc:=itC) (s:=15) (L:=L) (x:=x) underlying142 kf underlying200 rfl kr BS A M b λ_=>cB rfl (YX λP C=>aW ?_);have d:=u.trans (C.mono u.size);by_cases t:x.1.s<=v
  .rw[oJ t];refine aG oo (aY oo oo ⟨⟨m+1,q,qH iv (by push_cast;rfl),rfl,F,r,λk y f e=>?_,I,d⟩,?_⟩)
   .by_cases o:k=m
    .subst o;rw[b]at f;cases f;exact t
    .have:=g k m y x f b oo;omega
   .rw[z];show (q:Int).toNat-((m:Int)+1).toNat<(q:Int).toNat-(p:Int).toNat;omega
  .rw[oI t];refine aB oo ⟨⟨p,m,rfl,rfl,E,by omega,H,λk y f e=>?_,d⟩,?_⟩
   .by_cases o:k=m
    .subst o;rw[b]at f;cases f;omega
    .have:=g m k x y b f oo;omega
   .rw[z];show (m:Int).toNat-(p:Int).toNat<(q:Int).toNat-(p:Int).toNat;omega
 .have G:p=q:=by omega
  subst G;have J:=Ri (p:=λp=>decide (v<p.1.s)) (l:=L) (i:=p) (λk x b e=>qE (by have:=H k x b e;omega)) λk x b e=>qF (I k x b e);refine aB oo (pK (aW ?_));by_cases U:p<n
  .have b:L[p]? = some L[p]:=gE oo;generalize L[p]=x at b;refine ck oo (GJ (i:=p) (enc:=itC) (s:=15) (L:=L) (x:=x) underlying142 kf underlying200 rfl kr BS A M b λ_=>cB rfl (YX λP C=>aU ?_));have d:=u.trans (C.mono u.size);exact bR oo (bK (bJ (h P p r J d)))
  .exact dt oo (bG oo (bK (bJ (h O p r J u))))
def zj7(x y:EV×Int)(W:oG):Calls Q 254 (#[.agg (itC x).toArray,.agg (itC y).toArray]++#[]) W λe S => e=.returned (ci (rE x.2 y.2))/\∃q os',S=Go.Sort.grow (W.drewN q) os':=by
 have a:Gives Q 254 #[.agg (itC x).toArray,.agg (itC y).toArray] W λv S => v=ci (rE x.2 y.2)/\∃q os',S=Go.Sort.grow (W.drewN q) os':=by
  refine Lz ?_;refine Tq (Tq ?_);generalize d:W.alloc (.cells (Value.agg (itC x).toArray).cells 200)=w1;have c:blk w1 W.heap.size 200 (itC x):=by
   rw[<-d];unfold Go.Proofs.YtgohpbmmcgenpaaGreatDoor.blk;rw[heap_alloc_new];rfl
  generalize b:w1.alloc (.cells (Value.agg (itC y).toArray).cells 200)=O;have g:blk O w1.heap.size 200 (itC y):=by
   rw[<-b];unfold Go.Proofs.YtgohpbmmcgenpaaGreatDoor.blk;rw[heap_alloc_new];rfl
  have f:blk O W.heap.size 200 (itC x):=by
   rw[<-b];exact ae (cS (World.grownBy_alloc _ _ none) oA (λk i=>by cases i)) c c.lt
  refine aQ (off:=14) kr (lK (v:=u6 x.2) f rfl ?_);refine aQ (off:=14) kr (lK (v:=u6 y.2) g rfl ?_);refine zaP ⟨rfl,0,#[.cells (Value.agg (itC x).toArray).cells 200,.cells (Value.agg (itC y).toArray).cells 200],?_⟩;rw[<-b, <-d];unfold Go.Sort.grow World.drewN World.alloc
  simp only[Array.push_eq_append,Array.append_assoc,List.append_toArray,jE,oV];rfl
 rw[show (#[.agg (itC x).toArray,.agg (itC y).toArray]++#[]:Array oF)=#[.agg (itC x).toArray,.agg (itC y).toArray]from rfl];unfold Gives at a;exact Calls.mono a λ_ _ ⟨v,h,j,l⟩=>⟨by rw[h,j],l⟩
theorem zgT {G : List (EV × Int)} {B n c : Nat} {a : Option Addr} (hr : w.ownsRow B 200 15 (.slice a n c) n (G.flatMap itC)) (hl : G.length = n) (hn : n < 4611686018427387904)
    (h : ∀ (w' : World) (G' : List (EV × Int)), G'.Perm G → G'.Pairwise (fun x y => ¬ y.2 < x.2) → w'.ownsRow B 200 15 (.slice a n c) n (G'.flatMap itC) → w.grownBy w' (Value.slice a n c).ownBlock → K (.tuple #[]) w') :
    call Tryz.prog 253 #[.slice a n c, .func (.func 254) #[] #[]] K w :=
  zgU (by omega) BS Ql Tryz.sortIt (fun W => by kernel_rfl) (fun W => by kernel_rfl) (swoZ (fun x : EV × Int => x.2)) (enters_of Tryz.func254 (by kernel_rfl) rfl) ⟨_, Tryz.func253, by kernel_rfl, by kernel_rfl⟩ zj7 hr hl hn
    fun w' G' hp hs hr' hg => h w' G' hp (hs.imp fun {x y} hxy hlt => hxy (by show rE y.2 x.2 < 0; unfold rE; rw [if_pos hlt]; decide)) hr' hg
end
end
section
attribute [local irreducible] bin un conv call bS blt slc aq fld bv idx lkp fJ nl eSt rng nxt ent ext alc box bld cH ld sto bj fK mkS ifc pick rdy wts aT sti cond bA Gives aj iK kH cOp
def wI{B:Nat}{n:Nat}{v:oF}(h:w.ownsRow B E s v n xs)(f:B'<=B):w.ownsRow B' E s v n xs:=by refine⟨h.1,h.2.imp id ?_⟩;rintro⟨g,a,b,c,d,e⟩;exact⟨g,a,b,c,qR f d,e⟩
def zis{B:Nat}{n:Nat}{enc:α->oE}{L:List α}(t:∀x,(enc x).length=s)(h:w.ownsRow B E s (.slice a n c) n (L.flatMap enc))(f:m<=n):w.ownsRow B E s (.slice a m c) m ((L.take m).flatMap enc):=by
 by_cases k:n=0
 .subst k
  have:m=0:=by omega
  subst this;rcases h.2 with⟨i,_⟩|⟨g,e,d,i,l,o,p,q,r,u⟩
  .rw[i];exact World.ownsRow_nil _ _ _ _
  .exact⟨by simp,.inr ⟨g,e,d,i,l,o,p,q,r,by simp⟩⟩
 .obtain⟨g,d,rfl,b⟩:=iM h oo;have j:(L.take m).flatMap enc=d.take (m*s):=by
   rw[<-OX t, <-b.take,List.take_take,Nat.min_eq_left (Nat.mul_le_mul_right _ f)]
  refine Opn.own ⟨b.blk,b.lo,qR f b.nc,b.cm,b.len,j.symm,?_⟩;rw[j,qA,b.len,Nat.min_eq_left];exact Nat.mul_le_mul_right _ (qR f b.nc)
def zeW{Z:List α}:Z.take (min 16 Z.length)=Z.take 16:=by
 by_cases h:Z.length<=16
 .rw[Nat.min_eq_right h,List.take_length,tL h]
 .rw[Nat.min_eq_left oo]
def ZF{A:List EV}{v:List Int}{n:Nat}:me A v (n+1)=me A v n++(xJ A n).filter λp=>decide (v.getD n 0<p.1.s):=by unfold me;rw[List.range_succ,List.flatMap_append];simp
def ziN{v:List Int}{k:Nat}(h:k<v.length):(vCs v)[k]? = some (u6 (v.getD k 0)):=by unfold vCs;rw[qC,oN,gE h];rfl
section
variable  {K:KV}
def zgN{Rw:List jc}{V v:List Int}{A:List EV}{c:Int}(h:LoM w g Rw V c)(aw:nQ Rw=yi A)(hA:∀e∈A,e.q<6)(aF:A.Pairwise λa b=>a.q=b.q->a.s<b.s)(hl:A.length<=30000)(hv:v.length=6)(hK:∀w' D fc,w'.ownsRow w.heap.size 49 14 (.slice D (tl A v).length fc) (tl A v).length ((tl A v).flatMap evC)->Below w.heap.size w w'->K (.slice D (tl A v).length fc) w'):call Q 233 #[pB g,.agg (vCs v).toArray,ci 16] K w:=by
 refine ao (goK func233) (Oc (yX hv λw1 v1 b1 s1=>za2 (aD (au (RJ ?_)))));have I:=h.below b1;have c0:((loC Rw V c).drop 0).take 6=Rw.map lrV:=by
  unfold loC;rw[oX,qJ (by rw[oY,h.l6];omega),tL (by rw[oY,h.l6];omega)]
 refine ldA (n:=6) (vs:=Rw.map lrV) underlying143 rfl kr I.b c0 (by rw[oY,h.l6]) ?_;obtain⟨ii,av,aE,aC,am⟩:=info_parts Ww
 refine LA (Inv:=λa t O=>∃(k:Nat) (D:Option Addr) (fc:Nat),t=iv (k:Nat)/\k<=6/\Below w.heap.size w O/\blk O w.heap.size 34 (vCs v)/\a=.slice D (me A v k).length fc/\O.ownsRow (w.heap.size+1) 200 15 (.slice D (me A v k).length fc) (me A v k).length ((me A v k).flatMap itC)) (μ:=λ_ t _=>6-(intOf t).toNat)
  ⟨0,none,0,rfl,by omega,b1,v1,rfl,World.ownsRow_nil _ _ _ _⟩ ?_
 rintro al _ dd w2 mu ⟨k,D,fc,rfl,f,P,v2,rfl,ho⟩ aA;have ab:(me A v k).length<=30000:=qR zd2 hl;refine aW ?_;by_cases o:k<6
 .refine aG oo ?_;have W:6-(intOf (iv ((k:Int)+1))).toNat<mu:=by rw[aA];show 6-((k:Int)+1).toNat<6-((k:Nat):Int).toNat;omega
  have ak:k<Rw.length:=by rw[h.l6];exact o
  have hr:Rw[k]? = some Rw[k]:=gE ak;generalize Rw[k]=r at hr;have N:r.it=xJ A k:=by
   have I:(nQ Rw)[k]? = some r.it:=by unfold nQ;rw[qC,hr];rfl
   rw[aw,Nh o]at I;exact(Option.some.inj I).symm
  have F:=h.row k r hr;have M:=dl F (w':=w2) λk f=>P.block k (jS F k f).2;have aI:r.it.length<=30000:=by rw[N];exact qR zgE hl
  refine Xq (v:=lrV r) underlying143 kf kf o (by rw[qC,hr];rfl) (ixV rfl o (lK (v:=u6 (v.getD k 0)) v2 (by rw[oK];exact ziN oo) ?_));refine zgv M rfl oo (by rw[N];exact zeP aF) λw3 q hq hd b3=>?_;have af:=dl M (w':=w3) λk f=>b3.block k (jS M k f).2
  have B:=dl ho (w':=w3) λk f=>b3.block k (jS ho k f).2;have l:=P.trans (b3.mono P.size);have v3:=ae b3 v2 v2.lt;have C:me A v (k+1)=me A v k++r.it.drop q:=by rw[ZF, <-N,hd]
  have aa:(me A v k).length<=fc:=by
   rcases B.2 with⟨d,h0⟩|⟨_,_,_,d,_,_,I,_⟩
   .simp only[Value.slice.injEq]at d;omega
   .simp only[Value.slice.injEq]at d;omega
  by_cases hz:r.it.length=q
  .have X:q<=r.cap:=by
    rcases af.2 with⟨d,h0⟩|⟨_,_,_,d,_,_,I,_⟩
    .omega
    .unfold lrV at d;simp only[Value.slice.injEq]at d;omega
   refine Xr (q:=q) underlying142 (s:=15) kf hq oo ?_;rw[show r.it.length-q=0 by omega];refine zjN (s:=15) underlying142 kf aa (aY oo oo ⟨⟨k+1,D,fc,qH iv (by push_cast;rfl),o,l,v3,?_,?_⟩,W⟩)
   .rw[C,show r.it.drop q=[]from List.drop_eq_nil_of_le oo,oW]
   .rw[C,show r.it.drop q=[]from List.drop_eq_nil_of_le oo,oW];exact B
  .obtain⟨gb,U,ha,op⟩:=iM af oo;have X:=op.nc;refine Xr (q:=q) underlying142 (s:=15) kf hq X ?_;rw[oI (by omega : ¬r.cap=q),ha,show (Option.map (λx:Addr=>x.add (q*15)) (some ⟨gb,0,none⟩))=some ⟨gb,0+q*15,none⟩by rw[jP,yZ]];have Y:(U.drop (0+q*15)).take ((r.it.length-q)*15)=(r.it.drop q).flatMap itC:=by
    rw[<-OW BS, <-op.take,List.drop_take,oK,Nat.mul_sub_right_distrib]
   refine ZM (s:=15) (m:=r.it.length-q) (g:=gb) (q:=0+q*15) (zs:=U) (ys:=(r.it.drop q).flatMap itC) underlying142 av aE aC am rfl oo B op.blk (by rw[rZ BS,qB]) Y (λu a=>by
    obtain⟨x,_,hx⟩:=List.mem_flatMap.1 a;exact Ql x u hx) oo oo v3.lt λa' c' w4 r4 g4=>?_
   have R:Below (w.heap.size+1) w3 w4:=cS g4 v3.lt λk f=>(jS B k f).1;have E:(me A v (k+1)).length=(me A v k).length+(r.it.length-q):=by rw[C,oT,qB]
   refine aY oo oo ⟨⟨k+1,a',c',qH iv (by push_cast;rfl),o,l.trans (R.mono oo),ae R v3 oo,by rw[E],?_⟩,W⟩;rw[E,C,List.flatMap_append];exact r4
 .have ay:k=6:=by omega
  subst ay;refine aB oo (LD (zgT ho rfl oo λw3 G' hp hs G g3=>?_));have hG:=zeS hA hp hs;subst hG;have hn:(me A v 6).length=(zA A v).length:=hp.length_eq.symm;have aj:Below w.heap.size w2 w3:=cS g3 P.size λk f=>by have:=(jS ho k f).1;omega
  have l:=P.trans aj;rw[hn]at G ab |-;generalize hZ:zA A v=Z at G ab |-;have aa:Z.length<=fc:=by
   rcases G.2 with⟨d,h0⟩|⟨_,_,_,d,_,_,I,_⟩
   .simp only[Value.slice.injEq]at d;omega
   .simp only[Value.slice.injEq]at d;omega
  have hT:(Z.take 16).length=min 16 Z.length:=qA;have J:tl A v=(Z.take 16).map (·.1):=by unfold tl;rw[hZ]
  have G:w3.ownsRow (w.heap.size+1) 200 15 (.slice D (Z.take 16).length fc) (Z.take 16).length ((Z.take 16).flatMap itC):=by
   have:=zis BS G (m:=(Z.take 16).length) oo
   rwa[show Z.take (Z.take 16).length=Z.take 16 by rw[hT];exact zeW]at this
  refine bM underlying142 (zb7 (Uf ?_));rw[show (if (if (Z.length:Int)<16 then (Z.length:Int)else 16)<0 then (0:Int)else if (Z.length:Int)<16 then (Z.length:Int)else 16)=((Z.take 16).length:Nat)by rw[hT];split<;>split<;>omega];refine UH (m:=(Z.take 16).length) underlying142 (s:=15) kf oo (bM underlying142 ?_);generalize Z.take 16=T at G hT J |-
  have aH:T.length<=16:=by omega
  obtain⟨ei,ap,ar,aq,an⟩:=info_parts Vt;refine LC (Inv:=λa t O=>∃(j:Nat) (p:Option Addr) (y:Nat),t=iv (j:Nat)/\j<=T.length/\a=.slice p j y/\Below w3.heap.size w3 O/\O.ownsRow w3.heap.size 49 14 (.slice p j y) j (((T.take j).map (·.1)).flatMap evC)) (μ:=λ_ t _=>T.length-(intOf t).toNat)
   ⟨0,none,0,rfl,qG _,rfl,jT _ _,World.ownsRow_nil _ _ _ _⟩ ?_
  rintro ah _ dd w4 aJ ⟨j,p,y,rfl,hj,rfl,b4,o4⟩ ad;have ai:=b4.size;refine aW ?_;by_cases ac:j<T.length
  .have hx:T[j]? = some T[j]:=gE ac;have ag:(T.take (j+1)).map (·.1)=(T.take j).map (·.1)++[T[j].1]:=by rw[List.take_add_one,hx,jJ];rfl
   generalize T[j]=x at hx ag;have r4:=dl G (w':=w4) λk f=>b4.block k (jS G k f).2;refine aG oo (GJ (i:=j) (enc:=itC) (s:=15) (L:=T) (x:=x) underlying142 kf underlying200 rfl kr BS r4 rfl hx λ_=>?_);refine cD (z:=.agg (itC (evZ,0)).toArray) kr λw5 z5 b5 s5=>?_
   have z5:=cZ z5
   refine fY (n:=15) (vs:=itC x) kr rfl z5 (by show 0+15<=15;omega) (Ql _) λw6 z6 p6=>?_;have z6:blk w6 w4.heap.size 200 (itC x):=z6;refine aQ (off:=0) kr (ldA (n:=14) (vs:=evC x.1) underlying49 rfl kr z6 rfl rfl ?_);have S:Below w4.heap.size w4 w6:=aK b5 p6 oA
   refine qb [evV x.1] underlying100 (s:=14) kr kr oo rfl oB dc rfl (by
    intro v hv;rw[mS hv];rfl) λw7 e7 b7 s7=>?_
   have e7:blk w7 w6.heap.size 49 (evC x.1):=by simpa[Value.cells,evV]using e7
   have H:=S.trans (b7.mono S.size);have o7:=dl o4 (w':=w7) λk f=>H.block k (jS o4 k f).2;refine zc (enc:=evC) (x:=x.1) underlying100 ap ar aq an rfl oo (λ_=>rfl) o7 e7 (Dz _) oo oo (qR ai H.size) λa' c' w8 r8 g8 b8 _=>?_
   refine aY oo oo ⟨⟨j+1,a',c',qH iv (by push_cast;rfl),ac,rfl,(b4.trans (H.mono ai)).trans b8,by rw[ag];exact r8⟩,?_⟩;rw[ad];show T.length-((j:Int)+1).toNat<T.length-(j:Int).toNat;omega
  .have ax:j=T.length:=by omega
   subst ax;rw[List.take_length, <-J]at o4;have az:(tl A v).length=T.length:=by rw[J,oY]
   refine aB oo (LF ?_);rw[<-az]at o4 |-;exact hK w4 p y (wI o4 l.size) (l.trans (b4.mono l.size))
def zjY{p:Nat}{L:List (List Int)}{v:List Int}(h:GoM w p L)(m:j<6)(e:L[j]? = some v)(c:∀S,Below w.heap.size w S->K (.agg (vCs v).toArray) S):call Q 157 #[pB p,iv ((j:Int)+1)] K w:=by
 have a:=h.v6 v (mO e);refine ao (goK func157) (Pc (IU λq i d o=>Vd (eK (zcc (bH ?_)))));rw[show bO ((j:Int)+1)=true by unfold bO;simp;omega];refine cA (aD (co oo oo (au (RD ?_))));have f:=h.below d;rw[show (j:Int)+1-1=(j:Nat)by omega];refine fB underlying149 (s:=6) kf oo oo ?_;rw[oQ]
 refine ldA (n:=6) (vs:=vCs v) underlying34 rfl kr f.b (by rw[oK];exact Yq h.v6 e) (by rw[bE];exact a) (Fx (W:=v) rfl a i λl k g=>?_);exact uO (v:=.agg (vCs v).toArray) (λ_ c=>tT a k c) (c l (aK d g oA))
def zgb{p:Nat}{L:List (List Int)}{Rw:List jc}{V v:List Int}{A:List EV}{c:Int}(m:GoM w p L)(u:j<6)(n:L[j]? = some v)(h:LoM w g Rw V c)(k:nQ Rw=yi A)(r:∀e∈A,e.q<6)(l:A.Pairwise λa b=>a.q=b.q->a.s<b.s)(x:A.length<=30000)(t:∀S f i,S.ownsRow w.heap.size 49 14 (.slice f (tl A v).length i) (tl A v).length ((tl A v).flatMap evC)->Below w.heap.size w S->K (.slice f (tl A v).length i) S):call Q 209 #[pB p,iv ((j:Int)+1),pB g,ci 16] K w:=by refine ao (goK func209) (Li (Vd (aD (zjY m u n λB d=>zgN (h.below d) k r l x (m.v6 v (mO n)) λz f i y o=>?_))));exact t z f i (wI y d.size) (d.trans (o.mono d.size))
end
section
open Go.ChangeMaps
def wnC(p:Int×Int):oE:=[u6 p.1,iv p.2]
def Wm(p:Int×Int):∀v∈wnC p,v.oneCell'=true:=by intro v a;simp only[wnC,oO,oR,or_false]at a;rcases a with rfl|rfl<;>rfl
def zg7:(Tryz.prog.info? 273).map (λi=>(i.zero,i.size,i.bytes))=some (some (.pointer none),1,8):=by kernel_rfl
def zac:(Tryz.prog.info? 276).map (λi=>(i.zero,i.size,i.bytes))=some (some (.agg (wnC (0,0)).toArray),2,16):=by kernel_rfl
section
variable   {ws:List (Int×Option Nat)}
def DmW.isw(h:DmW w d m ws)(l:b∈wB ws):∃k a t x,blk w b 278 (wtC k a t x)/\1<=a/\a<=Ca/\k≠0/\(k,some b)∈ws:=by obtain⟨p,f,e⟩:=tt.1 l;obtain⟨o,a,t,x,c,n,g,i,j⟩:=h.wt p f;rw[c]at e;cases e;exact⟨p.1,a,t,x,n,g,i,j,by rw[<-c];exact f⟩
def M8{k a t x':Int}(h:blk w b 278 (wtC k a t x))(c:blk w b 278 (wtC v r N x')):k=v/\a=r:=by unfold blk at h c;rw[h]at c;simp[wtC,u6,iv]at c;exact⟨c.1,c.2.1⟩
end
section
variable  {K:KV}  {ws:List (Int×Option Nat)}
theorem zaB {f:Value}{pr:Nat->Bool}(h:DmW w d m ws)(hf:∀b∈wB ws,∀(w1:World) (K1:KV),Below w.heap.size w w1->(∀w2,Below w1.heap.size w1 w2->K1 (.bool (pr b)) w2)->bS Q f #[pB b] K1 w1)(hK:∀w' a c (j:List Nat),Below w.heap.size w w'->j.length<=32->(∀b∈j,b∈wB ws/\pr b=true)->(∀b∈wB ws,pr b=true->b∈j)->w'.ownsRow (w.heap.size+1) 273 1 (.slice a j.length c) j.length (j.flatMap λb=>[pB b])->K (.slice a j.length c) w'):call Q 231 #[pB d,f] K w:=by
 refine ao (goK func231) (Kj (Vc (aD (au (DD (lK (v:=.map (some m)) h.b rfl ?_))))));refine PJ underlying152 h.mb λw1 a6 b1 s1=>?_;have b8:=h.mb.lt;have ak:=a6.nodup.2.1;obtain⟨ii,bk,bm,bl,bg⟩:=info_parts zg7
 refine HC (Inv:=λl wr=>∃(D:List Int) (j:List Nat) (a:Option Addr) (c:Nat),l=.slice a j.length c/\IT u6 pV wr w.heap.size m ws D/\Below w.heap.size w wr/\w.heap.size+1<=wr.heap.size/\j.length<=D.length/\(∀b∈j,b∈wB ws/\pr b=true)/\(∀p∈ws,p.1∈D->∀b,p.2=some b->pr b=true->b∈j)/\wr.ownsRow (w.heap.size+1) 273 1 (.slice a j.length c) j.length (j.flatMap λb=>[pB b])) (μ:=λ_ wr=>jm wr m w.heap.size)
  ⟨[],[],none,0,rfl,a6,b1,by omega,Nat.le_refl _,by simp,by simp,World.ownsRow_nil _ _ _ _⟩ ?_
 rintro _ dd w2 mu ⟨D,j,a,c,rfl,ap,b2,ca,bY,ab,I,ro⟩ aE;have bx:D.length<=ws.length:=by
  have:=wG ap.nodup.1 ap.nodup.2.2
  simpa using this
 have bu:=h.few;have bi:=h.below b2;refine Po ap oo (λan=>?_) λx v w3 J b9 af bd o3 ag=>?_
 .refine te rfl (aD (HD (zgR ro rfl oo (λb hb=>?_) λw4 bb O r4 g4=>?_)))
  .obtain⟨k,a1,t,y,C,_⟩:=bi.isw (ab b hb).1;exact⟨k,a1,t,y,C⟩
  .have hl:=O.length_eq;rw[<-hl]at r4 |-;refine hK w4 a c bb (b2.trans (cS g4 b2.size λk hk=>by have:=(World.ownsRow.lt ro k hk).1;omega)) oo (λb hb=>ab b (O.mem_iff.1 hb)) (λb hb ad=>O.mem_iff.2 ?_) r4;obtain⟨p,aS,e⟩:=tt.1 hb;exact I p aS (an p.1 (List.mem_map.2 ⟨p,aS,rfl⟩)) b e ad
 .have bt:D.length<ws.length:=by
   have:=wG af.nodup.1 af.nodup.2.2
   simp only[List.length_append,List.length_map,List.length_singleton]at this;omega
  obtain⟨b,a1,t,y,a0,b7,_⟩:=h.wt _ J;simp only at a0;subst a0;have az:b∈wB ws:=tt.2 ⟨_,J,rfl⟩;have al:Below w.heap.size w w3:=gI b2 o3 oA;have a9:=dl ro λk hk=>o3.other k (by have:=(World.ownsRow.lt ro k hk).1;omega);have a7:∀p∈ws,∀b',p.2=some b'->p.1∈D++[x]->p.1∈D\/b'=b:=λp O b' e hm=>by
   rcases List.mem_append.1 hm with hm|hm
   .exact .inl hm
   .rw[List.mem_singleton]at hm;have C:=nD (x:=p.1) (v:=p.2) ak O;have h2:=nD ak J;rw[hm,h2,e]at C;exact .inr (Option.some.inj (Option.some.inj C)).symm
  refine te rfl (bc (OF bd (bJ ?_)));refine hf b az w3 _ al λw4 b4=>?_;have ar:=af.below b4;have am:=al.trans (b4.mono al.size);have av:=dl a9 λk hk=>b4.block k (World.ownsRow.lt a9 k hk).2;have s3:w3.heap.size=w2.heap.size:=o3.size;have s4:=b4.size;have a8:jm w4 m w.heap.size=jm w3 m w.heap.size:=Eo af b4;cases ad:pr b with
  | false =>
   refine aD ⟨⟨D++[x],j,a,c,rfl,ar,am,by omega,by rw[List.length_append];omega,ab,λp O hm b' e U=>?_,av⟩,by rw[aE,a8];exact ag⟩;rcases a7 p O b' e hm with C|rfl
   .exact I p O C b' e U
   .rw[ad]at U;cases U
  | true =>
   refine bc (qb [pB b] underlying333 (s:=1) kr kr oo rfl oB dc rfl (by
    intro v hv;rw[mS hv];rfl) λw5 e5 b5 s5=>?_)
   have e5:=cZ e5
   have aa:=ar.below b5;have ba:=dl av λk hk=>b5.block k (World.ownsRow.lt av k hk).2;have bp:jm w5 m w.heap.size=jm w4 m w.heap.size:=Eo ar b5;refine zc (enc:=λb=>[pB b]) (x:=b) underlying333 bk bm bl bg rfl oo (λ_=>rfl) ba e5 (by intro u hu;rw[mS hu];rfl) oo oo oo λa' c' w6 r6 g6 b6 _=>?_
   have k6:∀k,k<w.heap.size+1->k<w5.heap.size->w6.heap[k]? = w5.heap[k]? := λk hk hl=>g6.block k hl λe=>by have:=(World.ownsRow.lt ba k e.symm).1;omega
   have bn:=aa.kept (k6 _ oo aa.lt.2) (k6 _ oo aa.lt.1);have bq:jm w6 m w.heap.size=jm w5 m w.heap.size:=xg (k6 _ oo aa.lt.2) (k6 _ oo aa.lt.1);have hl:(j++[b]).length=j.length+1:=by simp
   refine⟨⟨D++[x],j++[b],a',c',by rw[hl],bn,(am.trans (b5.mono am.size)).trans (b6.mono oo),by have:=b6.size;omega,by simp;omega,λb' be=>?_,λp O hm b' e U=>?_,by rw[hl];exact r6⟩,by rw[aE,bq,bp,a8];exact ag⟩
   .rcases List.mem_append.1 be with C|C
    .exact ab b' C
    .rw[mS C];exact⟨az,ad⟩
   .rcases a7 p O b' e hm with C|rfl
    .exact List.mem_append_left _ (I p O C b' e U)
    .simp
end
def Xm(w S:oG)(ws:List (Int×Option Nat)):Prop:=∀b∈wB ws,∀k a t x,blk w b 278 (wtC k a t x)->∃c x',blk S b 278 (wtC k a c x')
def DmW.turn{ws:List (Int×Option Nat)}(h:DmW w d m ws)(hc:Ch (wB ws) w w')(hs:Xm w w' ws):DmW w' d m ws where
 b:=h.b.ch hc λhh=>by
  obtain⟨k,a,t,x,hb,_⟩:=h.isw hh;exact qI rfl (hb.ne h.b dc)
 mb:=h.mb.kept (hc.block m h.mb.lt λb=>by
  obtain⟨k,a,t,x,hb,_⟩:=h.isw b;exact h.mb.ne hb rfl)
 wt:=λp hp=>by
  obtain⟨b,a,t,x,hb,hw,h1,h2,h3⟩:=h.wt p hp;obtain⟨t',x',hw'⟩:=hs b (tt.2 ⟨p,hp,hb⟩) _ _ _ _ hw;exact⟨b,a,t',x',hb,hw',h1,h2,h3⟩
 few:=h.few
def atW(w:oG)(b:Nat):Int:=match w.heap[b]? with
 | some (.cells cs _ _)=>intOf (cs[2]?.getD (ci 0))
 | _=>0
def zhj{k a t:Int}(h:blk w b 278 (wtC k a t x)):atW w b=t:=by unfold blk at h;unfold atW;rw[h];rfl
section
variable  {K:KV}  {ws:List (Int×Option Nat)}
def zav{B n:Nat}{K2:oF->KV}(k:w.ownsRow B 273 1 (.slice a n c) n (N1.flatMap λb=>[pB b]))(e:N1.length=n)(d:N1[j]? = some b)(h:∀u,K2 u (pB b) w):bv Q 333 (.slice a n c) (iv (j:Nat)) (λu w=>ld Q 273 u (K2 u) w) w:=by
 have l:j<n:=by rw[<-e];exact(gS d).1
 obtain⟨g,i,rfl,f⟩:=iM k oo;refine gO underlying333 (s:=1) kf oo oo ?_;rw[oQ];refine lK (v:=pB b) f.blk ?_ (h _)
 have:=f.cell (s:=1) (enc:=λb=>[pB b]) (λ_=>rfl) e d (show 0<1 by omega)
 rw[oK,show j*1=j*1+0 by omega,this];rfl
def zfK(h:DmW w d m ws)(hK:∀w' a c (T:List (Int×Int)),Below w.heap.size w w'->T.length<=32->(∀x∈T,∃b t y,(x.1,some b)∈ws/\blk w b 278 (wtC x.1 x.2 t y))->(∀p∈ws,∃x∈T,x.1=p.1)->w'.ownsRow w.heap.size 276 2 (.slice a T.length c) T.length (T.flatMap wnC)->K (.slice a T.length c) w'):call Q 208 #[pB d] K w:=by
 refine ao (goK func208) (KZ (zaB h (pr:=λ_=>true) (λb z I a A C=>cB rfl (ao (goK func232) (Jd (C I (jT _ _))))) λI a c e A ac U D ro=>bM underlying333 ?_));obtain⟨ii,S,aa,Z,R⟩:=info_parts zac
 refine Je (Inv:=λo i wr=>∃(j:Nat) (T:List (Int×Int)) (J:Option Addr) (L:Nat),i=iv (j:Nat)/\j<=e.length/\o=.slice J j L/\T.length=j/\Below I.heap.size I wr/\(∀(k:Nat) x,T[k]? = some x->∃b t y,e[k]? = some b/\(x.1,some b)∈ws/\blk w b 278 (wtC x.1 x.2 t y))/\wr.ownsRow I.heap.size 276 2 (.slice J j L) j (T.flatMap wnC)) (μ:=λ_ i _=>e.length-(intOf i).toNat)
  ⟨0,[],none,0,rfl,qG _,rfl,rfl,jT _ _,λk x l=>by simp at l,World.ownsRow_nil _ _ _ _⟩ ?_
 rintro _ _ dd w2 mu ⟨j,T,J,L,rfl,hj,rfl,f,B,P,M⟩ W;refine aW ?_;by_cases G:j<e.length
 .have z:e[j]? = some e[j]:=gE G;generalize e[j]=b at z;have ab:=dl ro (w':=w2) λk r=>B.block k (jS ro k r).2;obtain⟨k,u,t,y,g,_,_,_,H⟩:=h.isw (U b (mO z)).1;have E:=ae B (ae A g g.lt) (qQ g.lt A.size)
  refine aG oo (zav ab rfl z λ_=>au (DQ (ldA (n:=2) (vs:=wnC (k,u)) underlying276 rfl kr E rfl rfl ?_)));refine qb [.agg (wnC (k,u)).toArray] underlying311 (s:=2) kr kr oo rfl oB dc rfl (by
   intro v hv;rw[mS hv];rfl) λw5 O N s5=>?_
  have O:=cZ O
  have r5:=dl M (w':=w5) λk r=>N.block k (jS M k r).2;refine zc (enc:=wnC) (x:=(k,u)) underlying311 S aa Z R rfl oo (λ_=>rfl) r5 O (Wm _) oo oo (qR B.size N.size) λa' c' w6 r6 g6 b6 _=>aY oo oo ?_
  refine⟨⟨j+1,T++[(k,u)],a',c',qH iv (by push_cast;rfl),G,rfl,by simp[f],(B.trans (N.mono B.size)).trans b6,λq x l=>?_,r6⟩,by rw[W];show e.length-((j:Int)+1).toNat<e.length-(j:Int).toNat;omega⟩;by_cases hq:q<T.length
  .rw[qO hq]at l;exact P q x l
  .have X:q<(T++[(k,u)]).length:=(gS l).1;have Y:q=T.length:=by simp at X;omega
   subst Y;rw[qP oA,jO]at l;cases l;exact⟨b,t,y,by rw[f];exact z,H,g⟩
 .have V:j=e.length:=by omega
  refine aB oo (Jf ?_);rw[<-f]at M |-;refine hK w2 J L T (A.trans (B.mono A.size)) oo (λx l=>?_) (λp hp=>?_) (wI M A.size)
  .obtain⟨k,r⟩:=List.getElem?_of_mem l;obtain⟨b,t,y,_,C,h2⟩:=P k x r;exact⟨b,t,y,C,h2⟩
  .obtain⟨b,u,t,y,z,hw,_⟩:=h.wt p hp;obtain⟨k,r⟩:=List.getElem?_of_mem (D b (tt.2 ⟨p,hp,z⟩) rfl);have F:k<T.length:=by rw[f,V];exact(gS r).1
   obtain⟨b',t',y',C,h2,h3⟩:=P k _ (gE F);rw[r]at C;cases C;exact⟨_,List.getElem_mem F,(M8 h3 hw).1⟩
def zhD{f:Int}(h:DmW w d m ws)(e:∀w' a c (T:List (Int×Int)),DmW w' d m ws->Ch (wB ws) w w'->Xm w w' ws->T.length<=32->(∀x∈T,∃b t y,(x.1,some b)∈ws/\blk w b 278 (wtC x.1 x.2 t y))->w'.ownsRow w.heap.size 276 2 (.slice a T.length c) T.length (T.flatMap wnC)->K (.slice a T.length c) w'):call Q 210 #[pB d,u6 f] K w:=by
 refine ao (goK func210) (Mj (bU λw0 J b0 s0=>?_));have J:blk w0 w.heap.size 32 [u6 f]:=J;have h0:=h.below b0;refine zaB h0 (pr:=λb=>decide (atW w0 b<=f)) (λb A w1 K1 L h1=>cB rfl (ao (goK func235) (Kc ?_))) λw1 a c z L ap ag am ro=>bM underlying333 ?_
 .obtain⟨k,C,t,y,g,_⟩:=h0.isw A;rw[zhj g]at h1;have ac:=(ae L g g.lt).drew;have W:=(ae L J J.lt).drew;refine ah (λ_=>au) (ah (λ_=>Yi) (ah (v:=u6 t) (λ_=>lK ac rfl) (ah (v:=u6 f) (λ_=>lK W rfl) (ah (v:=.bool (decide (t<=f))) (λ_=>kq) (h1 _ (jT _ w1).drew)))))
 obtain⟨ii,af,ak,aj,ad⟩:=info_parts zac;have p:Below w.heap.size w w1:=b0.trans (L.mono b0.size);have S:∀k∈wB ws,k<w.heap.size:=λk I=>h.lt k (by simp[I]);have aq:=h.below p;have W:=ae L J J.lt
 refine Kd (Inv:=λo i a=>∃(j:Nat) (T:List (Int×Int)) (X:Option Addr) (Y:Nat),i=iv (j:Nat)/\j<=z.length/\o=.slice X j Y/\T.length=j/\Ch (wB ws) w1 a/\Xm w1 a ws/\(∀x∈T,∃b t y,(x.1,some b)∈ws/\blk w b 278 (wtC x.1 x.2 t y))/\a.ownsRow w1.heap.size 276 2 (.slice X j Y) j (T.flatMap wnC)) (μ:=λ_ i _=>z.length-(intOf i).toNat)
  ⟨0,[],none,0,rfl,qG _,rfl,rfl,Ch.refl _ _,λb _ k a t x A=>⟨t,x,A⟩,λx l=>by simp at l,World.ownsRow_nil _ _ _ _⟩ ?_
 rintro _ _ dd w2 mu ⟨j,T,X,Y,rfl,hj,rfl,O,N,H,hT,Z⟩ ai;refine aW ?_;by_cases P:j<z.length
 .have A:z[j]? = some z[j]:=gE P;generalize z[j]=b at A;have B:=(ag b (mO A)).1;have al:=dl ro (w':=w2) λk I=>N.block k (jS ro k I).2 λhh=>by have:=S k hh;have:=(jS ro k I).1;omega
  obtain⟨k,C,t,y,g,_,_,_,R⟩:=h.isw B;have r:=ae p g g.lt;obtain⟨t2,V,D⟩:=H b B _ _ _ _ r;have n2:=W.ch N λhh=>by have:=S _ hh;omega
  refine aG oo (zav al rfl A λ_=>au (DQ (ldA (n:=2) (vs:=wnC (k,C)) underlying276 rfl kr D rfl rfl ?_)));refine qb [.agg (wnC (k,C)).toArray] underlying311 (s:=2) kr kr oo rfl oB dc rfl (by
   intro v hv;rw[mS hv];rfl) λw5 e5 b5 s5=>?_
  have e5:=cZ e5
  have r5:=dl Z (w':=w5) λk I=>b5.block k (jS Z k I).2;have U:=N.size;refine zc (enc:=wnC) (x:=(k,C)) underlying311 af ak aj ad rfl oo (λ_=>rfl) r5 e5 (Wm _) oo oo (qR U b5.size) λa' c' w6 r6 g6 b6 _=>?_;have u:Below w1.heap.size w2 w6:=(b5.mono U).trans b6;have aa:b<w1.heap.size:=r.lt;have E:=(ae u D aa).drew
  have n6:=(ae u n2 W.lt).drew;refine ah (v:=u6 f) (λ_=>lK n6 rfl) (ah (λ_=>au) (ah (λ_=>RU) (ah (v:=u6 V) (λ_=>lK E rfl) ?_)));refine ah (v:=u6 (IntKind.u64.wrap (f+V))) (λ_=>ze) (ah (λ_=>au) (ah (λ_=>Yi) ?_));refine dw kf E (by show 0+2<4;omega) rfl λw7 z7 o7=>?_;have z7:blk w7 b 278 (wtC k C (IntKind.u64.wrap (f+V)) V):=z7
  refine au (RU (lK (v:=u6 V) z7 rfl (UU (zb7 (au (RU ?_))))));refine dw kf z7 (by show 0+3<4;omega) rfl λw8 z8 o8=>aY oo oo ?_;obtain⟨t8,y8,z8⟩:∃t' x',blk w8 b 278 (wtC k C t' x'):=⟨_,_,z8⟩
  have c6:Ch (wB ws) w1 w6.drew:=(N.add u).add (jT _ w6).drew;have c8:Ch (wB ws) w1 w8:=(c6.trans (Ch.of_oth o7 B:Ch (wB ws) _ _) λx l=>.inl l).trans (Ch.of_oth o8 B:Ch (wB ws) _ _) λx l=>.inl l
  refine⟨⟨j+1,T++[(k,C)],a',c',qH iv (by push_cast;rfl),P,rfl,by simp[O],c8,λb' ab k' an t' y' G=>?_,λx l=>?_,dl r6 λq hq=>?_⟩,by rw[ai];show z.length-((j:Int)+1).toNat<z.length-(j:Int).toNat;omega⟩
  .by_cases F:b'=b
   .subst F;obtain⟨rfl,rfl⟩:=M8 G r;exact⟨_,_,z8⟩
   .obtain⟨t3,y3,h3⟩:=H b' ab _ _ _ _ G;exact⟨t3,y3,o8.blk (o7.blk (ae u h3 G.lt).drew F) F⟩
  .rcases oU.1 l with l|l
   .exact hT x l
   .rw[mS l];exact⟨b,t,y,R,g⟩
  .have:=(jS r6 q hq).1
   exact(o8.other q oo).trans (o7.other q oo)
 .have ar:j=z.length:=by omega
  refine aB oo (Ke ?_);rw[<-O]at Z |-;have M:Ch (wB ws) w w2:=(Ch.of_below p:Ch (wB ws) w w1).trans N λx l=>.inl l;have sa:Xm w w2 ws:=λb A k a t x hw=>H b A k a t x (ae p hw hw.lt);exact e w2 X Y T (h.turn M sa) M sa oo hT (wI Z p.size)
theorem zjX {v:Option Nat}(h:K (.bool v.isSome) w):bin Q .neq 273 cx cy (pV v) (.pointer none) K w:=by
 cases v with
 | none=>exact eH (by unfold eqG eqGuard;rfl) kr h
 | some b=>exact eH (by unfold eqG eqGuard;rfl) kr h
theorem zjR {v:Option Nat}(h:K (.bool v.isNone) w):bin Q .eql 273 cx cy (pV v) (.pointer none) K w:=by
 cases v with
 | none=>exact eH (by unfold eqG eqGuard;rfl) kr h
 | some b=>exact eH (by unfold eqG eqGuard;rfl) kr h
def DmW.get(h:DmW w d m ws){v:Option Nat}(e:dZ ws x=some v):∃b a t y,v=some b/\blk w b 278 (wtC x a t y)/\1<=a/\a<=Ca/\x≠0/\b∈wB ws:=by obtain⟨b,a,t,y,c,j,f,g,i⟩:=h.wt _ (wZ e);exact⟨b,a,t,y,c,j,f,g,i,tt.2 ⟨_,wZ e,c⟩⟩
def zhH{node j:Int}(h:DmW w d m ws)(M:∀w' C e,DmW w' d m C->Ch (m::wB ws) w w'->(∀k∈wB C,k∈wB ws\/w.heap.size<=k)->K (ci e) w'):call Q 205 #[pB d,u6 node,iv x,u6 j] K w:=by
 have B:∀e,K (ci e) w:=λe=>M w ws e h (Ch.refl _ _) λk g=>.inl g;refine ao (goK func205) (Mk (Vc (aD (aW ?_))));by_cases D:x<1
 .exact kW D (bR D (iQ (dD (iQ (dD (bc (B 1)))))))
 refine dL D (dE (bG D ?_));by_cases F:1125899906842624<x
 .exact kW F (bR F (iQ (dD (bc (B 1)))))
 refine dL F (aU (bG F ?_));by_cases u:node=0
 .exact kW u (bR u (bc (B 1)))
 refine dL u (dE (bG u ?_));by_cases T:4611686018427387904<j
 .exact aG T (B 1)
 refine aB T (au (DD (lK (v:=.map (some m)) h.b rfl (Sg (x:=node) (z0:=(none:Option Nat)) u6K underlying152 kf h.mb (Kg (zjX ?_))))));cases U:dZ ws node with
 | some v =>
  obtain⟨b,a,t,y,rfl,z,aa,ab,_,O⟩:=h.get U;refine bc (au (DQ (MC (lK (v:=iv a) z rfl (Uf (au (DQ (MC (dw kf z (by show 0+0+1<4;omega) rfl λs n H=>?_)))))))));have n:blk s b 278 (wtC node (if a<x then x else a) t y):=n;have P:∀p∈ws,∀J,p.2=some J->J=b->p.1=node:=λp i J e e' => by
   obtain⟨l,S,W,Y,c,r,_⟩:=h.wt p i;rw[e]at c;cases c;subst e';exact(M8 r z).1
  refine M s ws 0 ⟨H.blk h.b (λe=>z.ne h.b dc e.symm),h.mb.oth H (λe=>h.mb.ne z e.symm),λp i=>?_,h.few⟩ (Ch.of_oth H (oH _ O)) λk g=>.inl g;obtain⟨l,S,W,Y,c,r,G,L,h7⟩:=h.wt p i;by_cases o:l=b
  .have:=P p i l c o
   subst o;rw[this];exact⟨l,_,_,_,c,n,by split<;>omega,by unfold Ca at *; split<;>omega,u⟩
  .exact⟨l,S,W,Y,c,H.blk r o,G,L,h7⟩
 | none =>
  refine aD (Ki (au (DD (lK (v:=.map (some m)) h.b rfl (zb6 underlying152 h.mb (cJ ?_))))));by_cases G:(32:Int)<=(ws.length:Nat)
  .exact aG G (B 7)
  refine aB G (au (DD (lK (v:=.map (some m)) h.b rfl ?_)));refine cE (vs:=wnC (node,x)) kr (cE (vs:=wtC node x j 1) kr (bU λs n l s2=>?_));have n:=cZ n
  have f:=h.below l;refine vK (v:=some w.heap.size) (x:=node) u6K underlying152 f.mb λX V I=>?_;rw[yN U]at V;have q:∀{k:Nat} {cs:oE} {E:TypeId},blk s k E cs->k≠m:=λhb=>f.mb.ne hb;have R:wB (ws++[(node,some w.heap.size)])=wB ws++[w.heap.size]:=by unfold wB;rw[List.filterMap_append];rfl
  refine M X _ 0 ⟨I.blk f.b (q f.b),V,λp i=>?_,by simp;omega⟩ (((Ch.of_below l:Ch (m::wB ws) w s)).trans (Ch.of_oth I oB:Ch (m::wB ws) s X) λx a=>.inl a) λk g=>?_
  .rcases oU.1 i with i|i
   .obtain⟨b4,Z,t4,y4,N,A,L⟩:=f.wt p i;exact⟨b4,Z,t4,y4,N,I.blk A (q A),L⟩
   .rw[mS i];exact⟨_,_,_,_,rfl,I.blk n (q n),by omega,by unfold Ca;omega,u⟩
  .rw[R]at g;rcases oU.1 g with g|g
   .exact .inl g
   .rw[mS g];exact .inr oA
def zfJ(h:DmW w d m ws)(g:∀S r,DmW S d m (ud ws x)->Ch [m] w S->K (.bool r) S):call Q 158 #[pB d,u6 x] K w:=by
 refine ao (goK func158) (KY (Vc (eK (au (DD (lK (v:=.map (some m)) h.b rfl (Sg (x:=x) (z0:=(none:Option Nat)) u6K underlying152 kf h.mb (zjR (cA ?_)))))))));cases i:dZ ws x with
 | none =>
  have:=g w false (by rw[Pn (wF.1 i)];exact h) (Ch.refl _ _)
  exact bc this
 | some v =>
  obtain⟨b,a,t,y,rfl,_⟩:=h.get i;refine aD (au (DD (lK (v:=.map (some m)) h.b rfl (zbW (x:=x) u6K underlying152 h.mb λs o f=>?_))));refine g s true ⟨f.blk h.b (h.mb.ne h.b),o,λp n=>?_,qR (List.length_filter_le _ _) h.few⟩ (Ch.of_oth f oB);obtain⟨k,j,q,u,e,c,l⟩:=h.wt p (zC.1 n).1;exact⟨k,j,q,u,e,f.blk c (h.mb.ne c),l⟩
end
end
def gW(s0 a2 s3 i4 a5 e7 k_8 g9 mH D2 D3 D4 D5 D6 D8 D9 E0 E1 E2 E4 E5 E6 E7 E8 F3 F4 F5 F6 F7 F9 G0 G1 G2 G3 G6 G7:oF)(zf:oD):=s0::zf 1::a2::s3::i4::a5::zf 6::e7::k_8::g9::mH::zT zf 11 29 (D2::D3::D4::D5::D6::zf 45::zf 46::D8::D9::E0::E1::E2::zf 52::zf 53::E4::E5::E6::E7::E8::zT zf 59 5 (F3::F4::F5::F6::F7::zf 69::zf 70::F9::G0::G1::G2::G3::zT zf 76 4 (G6::G7::zf 82::[])))
def tD(K:KV):KE:=aj Q (cd f244 [1,1,1]) (rk f244 K) xf (rk f244 K)
def tE(K:KV):KE:=aj Q (cd f244 (b1 127)) (rk f244 K) xf (rk f244 K)
abbrev JQ(K:KV)(hA0:KE)(s0 i1 a2:oF)(w:oG):Prop :=
  box Q 38 s0 (λa=>box Q 3 i1 λb=>box Q 42 a2 λc=>aq Q 42 c 4 λd=>ld Q 32 d λe=>bT .eql 32 e (cu 0) λf w=>aT f false (λa=>aq Q 42 c 0 (λb=>ld Q 5 b λc=>bT .neq 5 c (cb 3) λd=>a [b,c,d,d]) w) (λk=>k [uu,uu,uu,uu] w) λg w=>aT (gd g 3) true (λa=>aq Q 42 c 0 (λb=>ld Q 5 b λc=>bT .neq 5 c (cb 4) λd=>a [b,c,d]) w) (λk=>k [uu,uu,uu] w) λh w=>aT f false (λa=>pick (gd g 3) (gd h 2) cF (λb=>a [b]) w) (λk=>k [uu] w) λi=>pick f cT (gd i 0) λj w=>cond j (K (.tuple #[cF,ci 0]) w) (aq Q 38 a 4 (λk=>ld Q 36 k λl=>call Q 256 #[l,.func (.func 257) #[] #[b,c]] λm=>hA0 (gW s0 a2 a b c (ci 0) m uu uu uu uu uu uu uu uu uu uu uu uu uu uu uu uu uu uu uu uu uu uu uu uu uu uu uu uu uu (zV (zV (zV zu 1 [i1]) 6 [cF]) 12 [d,e,f,f,gd g 0,gd g 1,gd g 2,gd g 3,gd h 0,gd h 1,gd h 2,gd i 0,j,k,l,.func (.func 257) #[] #[b,c],m]))) w)) w
section
variable {K:KV}{s0 a2 s3 i4 a5 e7 k_8 g9 mH D2 D3 D4 D5 D6 D8 D9 E0 E1 E2 E4 E5 E6 E7 E8 F3 F4 F5 F6 F7 F9 G0 G1 G2 G3 G6 G7:oF}  
def Uw{K:KV}(a:Code)(h:JQ K (aj Q a (rk f244 K) (λ_ _ _=>False) (rk f244 K)) U H Z w):aj Q (rep [1,1,1] a (cd f244 [])) (rk f244 K) xf (rk f244 K) (gW U Z uu uu uu uu uu uu uu uu uu uu uu uu uu uu uu uu uu uu uu uu uu uu uu uu uu uu uu uu uu uu uu uu uu uu (zV zu 1 [H])) w:=Eq.mp kr h
def SF{K:KV}(h:JQ K (tD K) U H Z w):Gives Q 244 #[U,H,Z] w K:=aw func244 kr (Eq.mp (qH (λc=>aj Q c (rk f244 K) xf (rk f244 K) (gW U Z uu uu uu uu uu uu uu uu uu uu uu uu uu uu uu uu uu uu uu uu uu uu uu uu uu uu uu uu uu uu uu uu uu uu (zV zu 1 [H])) w) (by kernel_rfl:(rep [1,1,1] (cd f244 [1,1,1]) (cd f244 []))=(cd f244 []))) (Uw (cd f244 [1,1,1]) h))
abbrev Fo(K:KV)(hA0:KE)(s0 a2 s3 i4 a5 e7 k_8 g9 mH D2 D3 D4 D5 D6 D8 D9 E0 E1 E2 E4 E5 E6 E7 E8 F3 F4 F5 F6 F7 F9 G0 G1 G2 G3 G6 G7:oF)(zf:oD)(w:oG):Prop :=
  bT .lss 3 k_8 (ci 0) (λa w=>cond a (K (.tuple #[cF,ci 0]) w) (aq Q 38 s3 4 (λb=>ld Q 36 b λc=>bv Q 36 c k_8 λd=>ld Q 61 d λe=>alc Q 61 λf=>sto Q 61 f e λ_=>aq Q 42 a5 0 λg=>ld Q 5 g λh=>bT .eql 5 h (cb 3) λi w=>aT i true (λa=>aq Q 61 f 1 (λb=>ld Q 32 b λc=>aq Q 42 a5 4 λd=>ld Q 32 d λe=>bF .eql 32 c e λf=>a [b,c,d,e,f]) w) (λk=>k [uu,uu,uu,uu,uu] w) λj=>pick i (gd j 4) cF λk w=>aT k true (λa=>aq Q 61 f 2 (λb=>ld Q 32 b λc=>aq Q 42 a5 1 λd=>ld Q 32 d λe=>bF .eql 32 c e λf=>a [b,c,d,e,f]) w) (λk=>k [uu,uu,uu,uu,uu] w) λl=>pick k (gd l 4) cF λm w=>aT m true (λa=>aq Q 61 f 3 (λb=>ld Q 2 b λc=>aq Q 42 a5 3 λd=>ld Q 2 d λe=>bF .eql 2 c e λf=>a [b,c,d,e,f]) w) (λk=>k [uu,uu,uu,uu,uu] w) λn=>pick m (gd n 4) cF λo=>hA0 (gW s0 a2 s3 i4 a5 e7 k_8 f o (gd j 0) (gd j 1) (gd j 2) (gd j 3) (gd j 4) (gd l 0) (gd l 1) (gd l 2) (gd l 3) (gd l 4) (gd n 0) (gd n 1) (gd n 2) (gd n 3) (gd n 4) F3 F4 F5 F6 F7 F9 G0 G1 G2 G3 G6 G7 (zV (zV (zV (zV zf 29 [k_8,a,b,c,k_8,d,e,g,h,i,i]) 45 [k,k]) 52 [m,m]) 59 [o]))) w)) w
def Pz{K:KV}(a:Code)(h:Fo K (aj Q a (rk f244 K) (λ_ _ _=>False) (rk f244 K)) Z1 Z C P2 Q2 R2 T2 U2 V2 X2 U O3 P3 Q3 T3 U3 V3 W3 X3 Y O4 P4 Q4 T4 U4 V4 Y4 Z4 j5 H J O5 P5 Q5 R5 T5 zf w):aj Q (rep [1,1,1] a (cd f244 [1,1,1])) (rk f244 K) xf (rk f244 K) (gW Z1 Z C P2 Q2 R2 T2 U2 V2 X2 U O3 P3 Q3 T3 U3 V3 W3 X3 Y O4 P4 Q4 T4 U4 V4 Y4 Z4 j5 H J O5 P5 Q5 R5 T5 zf) w:=Eq.mp kr h
def PA(h:Fo K (tE K) s0 a2 s3 i4 a5 e7 k_8 g9 mH D2 D3 D4 D5 D6 D8 D9 E0 E1 E2 E4 E5 E6 E7 E8 F3 F4 F5 F6 F7 F9 G0 G1 G2 G3 G6 G7 zf w):tD K (gW s0 a2 s3 i4 a5 e7 k_8 g9 mH D2 D3 D4 D5 D6 D8 D9 E0 E1 E2 E4 E5 E6 E7 E8 F3 F4 F5 F6 F7 F9 G0 G1 G2 G3 G6 G7 zf) w:=by delta tD;exact Eq.mp (qH (λc=>aj Q c (rk f244 K) xf (rk f244 K) (gW s0 a2 s3 i4 a5 e7 k_8 g9 mH D2 D3 D4 D5 D6 D8 D9 E0 E1 E2 E4 E5 E6 E7 E8 F3 F4 F5 F6 F7 F9 G0 G1 G2 G3 G6 G7 zf) w) (by kernel_rfl:(rep [1,1,1] (cd f244 (b1 127)) (cd f244 [1,1,1]))=(cd f244 [1,1,1]))) (Pz (cd f244 (b1 127)) h)
abbrev Fp(K:KV)(s0 a2 s3 i4 a5 e7 k_8 g9 mH D2 D3 D4 D5 D6 D8 D9 E0 E1 E2 E4 E5 E6 E7 E8 F3 F4 F5 F6 F7 F9 G0 G1 G2 G3 G6 G7:oF)(zf:oD)(w:oG):Prop :=
  aq Q 42 a5 0 (λa=>ld Q 5 a λa=>bT .eql 5 a (cb 4) λa w=>aT a true (λa=>aq Q 61 g9 4 (λb=>ld Q 32 b λc=>aq Q 42 a5 4 λd=>ld Q 32 d λe=>bF .eql 32 c e λf=>a [b,c,d,e,f]) w) (λk=>k [uu,uu,uu,uu,uu] w) λb=>pick a (gd b 4) cF λa w=>aT a true (λa=>aq Q 61 g9 1 (λb=>ld Q 32 b λc=>aq Q 42 a5 5 λd=>ld Q 32 d λe=>bF .eql 32 c e λf=>a [b,c,d,e,f]) w) (λk=>k [uu,uu,uu,uu,uu] w) λb=>pick a (gd b 4) cF λa=>un Q .not mH λb w=>aT b true (λb=>un Q .not a (λc=>b [a,c]) w) (λk=>k [uu,uu] w) λa=>pick b (gd a 1) cF λa w=>cond a (K (.tuple #[cT,ci 14]) w) (K (.tuple #[cT,ci 0]) w)) w
def PB{K:KV}(h:Fp K Z1 Z C P2 Q2 R2 T2 U2 V2 X2 U O3 P3 Q3 T3 U3 V3 W3 X3 Y O4 P4 Q4 T4 U4 V4 Y4 Z4 j5 H J O5 P5 Q5 R5 T5 zf w):aj Q (cd f244 (b1 127)) (rk f244 K) xf (rk f244 K) (gW Z1 Z C P2 Q2 R2 T2 U2 V2 X2 U O3 P3 Q3 T3 U3 V3 W3 X3 Y O4 P4 Q4 T4 U4 V4 Y4 Z4 j5 H J O5 P5 Q5 R5 T5 zf) w:=Eq.mp kr h
def PD(h:Fp K s0 a2 s3 i4 a5 e7 k_8 g9 mH D2 D3 D4 D5 D6 D8 D9 E0 E1 E2 E4 E5 E6 E7 E8 F3 F4 F5 F6 F7 F9 G0 G1 G2 G3 G6 G7 zf w):tE K (gW s0 a2 s3 i4 a5 e7 k_8 g9 mH D2 D3 D4 D5 D6 D8 D9 E0 E1 E2 E4 E5 E6 E7 E8 F3 F4 F5 F6 F7 F9 G0 G1 G2 G3 G6 G7 zf) w:=by delta tE;exact Eq.mp (qH (λc=>aj Q c (rk f244 K) xf (rk f244 K) (gW s0 a2 s3 i4 a5 e7 k_8 g9 mH D2 D3 D4 D5 D6 D8 D9 E0 E1 E2 E4 E5 E6 E7 E8 F3 F4 F5 F6 F7 F9 G0 G1 G2 G3 G6 G7 zf) w) (by kernel_rfl:(cd f244 (b1 127))=(cd f244 (b1 127)))) (PB h)
end
attribute [irreducible] tD tE
end
end Go.Proofs.YtgohpbmmcgenpaaGreatDoor
