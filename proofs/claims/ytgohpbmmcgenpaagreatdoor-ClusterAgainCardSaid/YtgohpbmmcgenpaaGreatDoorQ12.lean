import Derived.Test.YtgohpbmmcgenpaaGreatDoorQ10
import Derived.Test.YtgohpbmmcgenpaaGreatDoorQ11
import Derived.Test.YtgohpbmmcgenpaaGreatDoorQ2
import Derived.Test.YtgohpbmmcgenpaaGreatDoorQ8
import Derived.Test.YtgohpbmmcgenpaaGreatDoorQ9
namespace Go.Proofs.YtgohpbmmcgenpaaGreatDoor
set_option maxRecDepth 100000
set_option linter.defProp false
set_option maxHeartbeats 4000000
open Go.Proofs.Tryz
open Go.RowKit
variable {w w' w0 w2 S O:oG}{zf:Nat->oF}{b c o i g m s j z f d c2 D B' ba hi:Nat}{a av a2:Option Addr}{x v r N fu:Int}{E t e:TypeId}{A:List Int}{B1:KE}{xs vs:oE}{P:Program}{α κ:Type}{T:List (Int×Int)}{Z1 N2 O2 P2 Q2 H Z U Y J C:oF}
section
attribute [local irreducible] bin un conv call bS blt slc aq fld bv idx lkp fJ nl eSt rng nxt ent ext alc box bld cH ld sto bj fK mkS ifc pick rdy wts aT sti cond bA Gives aj iK kH cOp
def JK(w:oG)(p q:Nat)(f:List UInt8)(fu:Int):Prop:=DK w p ⟨f,.no,false,fu⟩/\blk w q 129 [ptr p,ci (f.length:Nat),.bool false]
def dec(fu:Int):Int:=if fu<0 then fu else fu-1
def zhF(h:fu≠1):dec fu≠0:=by unfold dec;split<;>omega
def zbP{D:DS}(h:D.fu=0):pp D=(true, {D with off:=true,fu := -1}):=by simp[pp,h]
def XH{D:DS}(h:D.fu≠0):pp D=(false, {D with fu:=dec D.fu}):=by unfold pp dec;rw[oI h];split<;>rfl
def OBB.mono{B:Nat}{n:Nat}{vs:List (Option Addr×Nat×Nat)}{L:List (List UInt8)}(h:OBB w B a n c vs L)(b:B'<=B):OBB w B' a n c vs L :=
 ⟨OV.mono h.row b,h.len,λi v l e d=>OV.mono (h.each i v l e d) b⟩
def zik{B:Nat}{F:List Nat}{n:Nat}{vs:List (Option Addr×Nat×Nat)}{L:List (List UInt8)}(h:OBB w B a n c vs L)(f:Ch F w S)(hF:∀k,B<=k->k∉F):OBB S B a n c vs L :=
 ⟨dl h.row λk b=>f.block k (jS h.row k b).2 (hF k (jS h.row k b).1),h.len,λi v l e d=>dl (h.each i v l e d) λk b=>f.block k (jS (h.each i v l e d) k b).2 (hF k (jS (h.each i v l e d) k b).1)⟩
section
variable  {K:KV}{p q:Nat}{f:List UInt8}  {F:List Nat}{D:DS}
def JK.ch(h:JK w p q f fu)(a:Ch F w S)(b:noBy w F)(c:p∉F)(d:q∉F):JK S p q f fu:=⟨h.1.ch a b c,h.2.ch a d⟩
def JK.below(h:JK w p q f fu)(a:Below w.heap.size w S):JK S p q f fu:=⟨h.1.below a,ae a h.2 h.2.lt⟩
def OR{K:KV}(h:K (pA b (o+0)) w):aq Q 129 (pA b o) 0 K w:=aQ kr h
def OS{K:KV}(h:K (pA b (o+1)) w):aq Q 129 (pA b o) 1 K w:=aQ kr h
def OT{K:KV}(h:K (pA b (o+2)) w):aq Q 129 (pA b o) 2 K w:=aQ kr h
def Vy{K:KV}{cs:oE}(v:oF)(a:blk w b E cs)(c:cs[o]? = some v)(h:K v w):ld Q 3 (pA b o) K w:=lK a c h
def zgd{K:KV}{cs:oE}(v:oF)(a:blk w b E cs)(c:cs[o]? = some v)(h:K v w):ld Q 4 (pA b o) K w:=lK a c h
def DV{K:KV}{cs:oE}(v:oF)(a:blk w b E cs)(c:cs[o]? = some v)(h:K v w):ld Q 66 (pA b o) K w:=lK a c h
def zae{K:KV}{cs:oE}(v:oF)(a:blk w b E cs)(c:cs[o]? = some v)(h:K v w):ld Q 96 (pA b o) K w:=lK a c h
def zaf{K:KV}{cs:oE}(v:oF)(a:blk w b E cs)(c:cs[o]? = some v)(h:K v w):ld Q 87 (pA b o) K w:=lK a c h
abbrev TFN:TypeId:=126
def zaa:(Tryz.prog.info? TFN).map (λi=>(i.zero,i.size,i.bytes))=some (some .nilFunc,1,8):=by kernel_rfl
def zc0{St:Nat->oG->Prop}{Er:oG->Prop}{n:Nat}(b:∀i w,St i w->OV w B' TFN a n c xs)(e:∀i v,xs[i]? = some v->∀(w:oG) (K:KV),St i w->(∀S,St (i+1) S->K (ci 0) S)->(∀S,Er S->K (ci 8) S)->bS Q v #[] K w)(k:St 0 w)(hN:n<=1000)(h:∀S,St n S->K (ci 0) S)(q:∀S,Er S->K (ci 8) S):call Q 34 #[.slice a n c] K w:=by
 have x:xs.length=n:=RV.len (b _ _ k).rv;refine ao (goK func34) (U8 ?_);refine bM underlying160 <|QN (Inv:=λi t=>∃j:Nat,j<=n/\i=ci (j:Nat)/\St j t) (μ:=λi _=>n-(intOf i).toNat) ⟨0,by omega,rfl,k⟩ ?_;rintro _ _ o m ⟨j,u,rfl,f⟩ s;by_cases r:j<n
 ·(repeat (first|refine aW ?_|refine aG oo ?_))
  have l:xs[j]? = some xs[j]:=gE oo;refine ze5 underlying160 kf (b _ _ f).rv oo (v:=xs[j]) (by rw[oQ];exact l) ?_;intro d;refine ux kf d (e j _ l o _ f (λp g=>?_) λp g=>?_)
  ·(repeat (first|refine bo ?_|refine aY oo oo ?_|refine aD ?_))
   exact⟨⟨j+1,by omega,by simp,g⟩,by rw[s];simp only[intOf];omega⟩
  ·(repeat (first|refine bo ?_|refine bc ?_))
   exact q p g
 obtain rfl:j=n:=by omega
 (repeat (first|refine QO ?_|refine aW ?_|refine aB oo ?_))
 exact h o f
def zeh(d:DK w p D)(e:D.off=false)(h:∀S,Below w.heap.size w S->K (ci 0) S):call Q 38 #[ptr p] K w:=by
 refine ao (goK func38) (Se ?_);refine zgC d e λa c f b=>?_
 (repeat (first|refine aU ?_|refine bo ?_|refine bK ?_|refine bJ ?_|refine wY ?_|refine cA ?_|refine bc ?_|refine eK ?_))
 exact h f b
def ziq{L:List (List UInt8)}(X:DK w p ⟨f,.no,false, -1⟩)(hL:tX f=(L,b))(ab:b<=f.length)(h:∀w' q a n c vs,Ch [p] w w'->OBB w' w.heap.size a n c vs L->DK w' p ⟨f.take b,.no,false, -1⟩->blk w' q 129 [ptr p,ci (b:Nat),.bool false]->w.heap.size<=q->K (.tuple #[ptr q,.slice a n c,ci 0]) w'):call Q 21 #[ptr p] K w:=by
 refine ao (goK func21) (U7 ?_);refine bU ?_;intro w1 m b1 _;have m:blk w1 w.heap.size 66 [ptr p]:=m
 (repeat (first|(refine DV ?_ (by assumption) ?_ ?_;rotate_left;exact rfl)))
 refine zgB (X.below b1) rfl ?_;intro a n c D Z b2;have hn:=Z.len;have ai:f.length<=4194304:=X.len;have hn:f.length=n:=hn;have Z:OB D w1.heap.size a n c f:=Z;have hp:((a,n,c):Option Addr×Nat×Nat).2.1=n:=rfl;have S:=ae b2 m m.lt
 (repeat (first|refine bK ?_|refine bJ ?_))
 refine cD (z:=.slice none 0 0) kr ?_;intro w3 t b3 S3;have t:blk w3 D.heap.size 87 [.slice none 0 0]:=t;refine dw kf t oB rfl ?_;intro w4 j o4;have j:blk w4 D.heap.size 87 [slv (a,n,c)]:=j;have o:Below D.heap.size D w4:=b3.trans o4.below;have S1:=b1.size;have S2:=b2.size;have S4:=o4.size;have T:=ae o S S.lt
 have aa:Below w.heap.size w w4:=(b1.trans (b2.mono S1)).trans (o.mono oo)
 (repeat (first|(refine zaf ?_ (by assumption) ?_ ?_;rotate_left;exact rfl)|refine bo ?_|refine aD ?_))
 refine zhK (OB.below Z o oA).rb oo ?_;rw[hL];intro a5 n5 c5 af V L5 b5;have S5:=b5.size
 (repeat (first|refine bK ?_|refine bJ ?_))
 refine cD (z:=ci 0) kr ?_;intro w6 x b6 S6;have x:blk w6 V.heap.size 3 [ci 0]:=x;refine dw kf x oB rfl ?_;intro w7 l o7;have l:blk w7 V.heap.size 3 [ci (b:Nat)]:=l;have S7:=o7.size;have J:Below V.heap.size V w7:=b6.trans o7.below;have r:Below w4.heap.size w4 w7:=b5.trans (J.mono S5)
 have G:Below w.heap.size w w7:=aa.trans (r.mono oo);have U:=ae r T T.lt;have O:=ae r j j.lt
 (repeat (first|refine QL ?_))
 obtain⟨i,hi,Y,ad,ah⟩:=info_parts zaa;refine ZP (vs:=[.func (.func 35) #[] #[ptr V.heap.size,ptr D.heap.size,ptr w.heap.size],.func (.func 37) #[] #[ptr w.heap.size],.func (.func 39) #[] #[ptr w.heap.size]]) rfl rfl underlying160 hi Y ad rfl oB oB (by simp[Value.cells]) ?_;intro g s;generalize (w7.alloc _)=w8 at g s |-;have S8:=s.size
 have H:Below w.heap.size w w8:=G.trans (s.mono oo);have d8:=X.below H;have ag:=X.lt;obtain⟨ds,ac⟩:=d8.blk;have z8:=ae s U U.lt;have y8:=ae s l l.lt;have x8:=ae s O O.lt;have A:∀{w':oG} {z:Nat} {E:TypeId} {cs:oE},Ch [p] w8 w'->blk w8 z E cs->E≠92->blk w' z E cs:=λe Y hE=>Y.ch e λu=>Y.ne ac hE (mS u)
 refine zc0 (Er:=λ_=>False) (St:=λi a => Ch [p] w8 a/\match i with|0=>DK a p ⟨f,.no,false, -1⟩|1=>DK a p ⟨f,if b=f.length then .no else .cut b,false, -1⟩|2=>DK a p ⟨f,if b=f.length then .no else .cut b,false, -1⟩|_=>DK a p ⟨f.take b,.no,false, -1⟩)
  (λ_ _ R=>dl g λk a=>R.1.block k (jS g k a).2 λu=>by have:=(jS g k a).1;have:=mS u;have:=G.size;omega) ?_ ⟨Ch.refl _ _,d8⟩ oB (λw9 s9=>?_) (λ_ u=>u.elim)
 .intro i v y w K R N _
  match i with
  | 0 =>
   simp only[qL,qD]at y;subst y;obtain⟨e,d⟩:=R;have h0:=A e z8 dc;have h1:=A e y8 dc;have h2:=A e x8 dc;refine cB rfl (ao (goK func35) (QI ?_))
   (repeat (first|(refine Vy ?_ (by assumption) ?_ ?_;rotate_left;exact rfl)|(refine zaf ?_ (by assumption) ?_ ?_;rotate_left;exact rfl)|refine aU ?_|refine wY ?_))
   by_cases C:b=n
   ·(repeat (first|refine aG oo ?_))
    exact N w ⟨e,by show DK w p _;rw[oJ oo];exact d⟩
   ·(repeat (first|(refine Vy ?_ (by assumption) ?_ ?_;rotate_left;exact rfl)|(refine DV ?_ (by assumption) ?_ ?_;rotate_left;exact rfl)|refine aB oo ?_))
    exact zjb d ab λw' d' c' => N w' ⟨e.trans c' λ_ h=>.inl h,by show DK w' p _;rw[oI oo];exact d'⟩
  | 1 =>
   simp only[qK,qL,qD]at y;subst y;obtain⟨e,d⟩:=R;have h0:=A e z8 dc;refine cB rfl (ao (goK func37) (QJ ?_))
   (repeat (first|(refine DV ?_ (by assumption) ?_ ?_;rotate_left;exact rfl)))
   exact zeh d rfl λw' b' => N w' ⟨e.trans (Ch.of_below (F:=[]) b') (λ_ h=>by cases h),DK.below d b'⟩
  | 2 =>
   simp only[qK,qL,qD]at y;subst y;obtain⟨e,d⟩:=R;have d:DK w p ⟨f,if b=f.length then .no else .cut b,false, -1⟩:=d;have h0:=A e z8 dc;refine cB rfl (ao (goK func39) (QK ?_))
   (repeat (first|(refine DV ?_ (by assumption) ?_ ?_;rotate_left;exact rfl)))
   refine zgh d ?_;by_cases C:b=f.length
   .simp only[oJ C,LO.k];simp only[oJ C]at d
    (repeat (first|refine aU ?_|refine bc ?_))
    exact N w ⟨e,by show DK w p ⟨f.take b,_,_,_⟩;rw[C,List.take_length];exact d⟩
   .simp only[oI C,LO.k];simp only[oI C]at d
    (repeat (first|(refine DV ?_ (by assumption) ?_ ?_;rotate_left;exact rfl)|refine aU ?_|refine aD ?_))
    refine zd6 d rfl ?_;rw[XH (show (-1:Int)≠0 by decide)];intro w' d' c';exact N w' ⟨e.trans c' λ_ h=>.inl h,d'⟩
  | i+3=>simp at y
 obtain⟨W,d9⟩:=s9;have d9:DK w9 p ⟨f.take b,.no,false, -1⟩:=d9;have h0:=A W z8 dc;have h1:=A W y8 dc
 (repeat (first|(refine Vy ?_ (by assumption) ?_ ?_;rotate_left;exact rfl)|(refine DV ?_ (by assumption) ?_ ?_;rotate_left;exact rfl)|refine bo ?_|refine aD ?_))
 refine cE (vs:=[ptr p,ci (b:Nat),.bool false]) kr <|bU ?_;intro w10 P I _;have S9:=W.size;have M:Ch [p] w8 w10:=W.trans (Ch.of_below (F:=[]) I) λ_ h=>by cases h
 have L8:=(L5.below J oA).below s oA;refine h w10 _ _ _ _ af ((Ch.of_below H).trans M λ_ h=>.inl h) (OBB.mono (B:=w4.heap.size) ?_ oo) (d9.below I) P oo;exact zik L8 M (λk a u=>by have:=mS u;omega)
def zeg{x:oF}{n:Nat}{vs:List (Option Addr×Nat×Nat)}{L:List (List UInt8)}(j:blk w q 129 [ptr p,x,.bool false])(hL:RBB w a n c vs L)(f:n<=4294967296)(g:FV L<=1000000000000)(ok:okR L)(h:∀b d c' S,OB S w.heap.size b d c' (aO L)->Below w.heap.size w S->K (.tuple #[.slice b d c',ci 0]) S):call Q 227 #[ptr q,.slice a n c] K w:=by
 refine ao (goK func227) (HZ ?_);refine eH (v:=.bool false) (by unfold eqG eqGuard;rfl) kr ?_
 (repeat (first|refine au ?_|refine OT ?_|(refine zgd ?_ (by assumption) ?_ ?_;rotate_left;exact rfl)|refine aD ?_))
 refine zhN hL f g ok ?_;intro b d c' S i e
 (repeat (first|refine bK ?_|refine bJ ?_))
 exact h b d c' S i e
def zg8{x:oF}{e:Int}(i:H.oneCell'=true)(g:blk w q 129 [ptr p,x,.bool false])(h:∀S,blk S q 129 [ptr p,if e=0 then H else x,.bool (decide (e=8))]->Ch [q] w S->K (ci e) S):call Q 230 #[ptr q,H,ci e] K w:=by
 refine ao (goK func230) (Jl ?_)
 (repeat (first|refine au ?_|refine OT ?_|refine aU ?_))
 refine dw kf g oB rfl ?_;intro d a c;have a:blk d q 129 [ptr p,x,.bool (decide (e=8))]:=a;by_cases b:e=0
 .rw[oJ b]at h
  (repeat (first|refine au ?_|refine OS ?_|refine xU ?_|refine aU ?_|refine aG oo ?_))
  refine dw kf a oB i ?_;intro k f j
  (repeat (first|refine xV ?_))
  exact h k f ((Ch.of_oth c oB).trans (Ch.of_oth (F:=[q]) j oB) λ_ h=>.inl h)
 .rw[oI b]at h
  (repeat (first|refine xV ?_|refine xU ?_|refine aU ?_|refine aB oo ?_))
  exact h d a (Ch.of_oth c oB)
def ACj(p q a c:Nat)(x:oF)(v:Option Addr×Nat×Nat)(b:List UInt8)(w:oG):Prop :=
 blk w a 96 [ptr q]/\blk w c 87 [slv v]/\blk w q 129 [ptr p,x,.bool false]/\TB w v b
def ACj.ch{x:oF}{v:Option Addr×Nat×Nat}{b:List UInt8}(h:ACj p q c o x v b w)(d:DK w p D)(a:Ch [p] w S):ACj p q c o x v b S:=by refine⟨h.1.dk d a dc,h.2.1.dk d a dc,h.2.2.1.dk d a dc,h.2.2.2.ch a ?_⟩;obtain⟨f,e⟩:=d.blk;exact noBy.of e dc
def ACj.drew{x:oF}{v:Option Addr×Nat×Nat}{b:List UInt8}(h:ACj p q c o x v b w):ACj p q c o x v b w.drew:=⟨h.1.drew,h.2.1.drew,h.2.2.1.drew,h.2.2.2.ch (F:=[]) ⟨rfl,rfl,rfl,Nat.le_refl _,λ_ _ _=>rfl⟩ (noBy.nil w)⟩
def ziY{n:Nat}{vs:List (Option Addr×Nat×Nat)}{L:List (List UInt8)}(M:JK w p q f fu)(hL:RBB w a n c vs L)(ag:L≠[])(ok:okR L)(aj:f.length+(aO L).length<=4194304)(h:∀w',fu≠0->fu≠1->JK w' p q (f++aO L) (dec (dec fu))->Ch [p,q] w w'->K (ci 0) w')(h8:∀w',DK w' p ⟨f,.app (aO L),true, -1⟩->fu≠-1->Ch [p,q] w w'->K (ci 8) w'):call Q 207 #[ptr q,.slice a n c] K w:=by
 have al:=hL.lenL;have aq:=Ko L;have an:0<L.length:=List.length_pos_iff.2 ag;obtain⟨hd,M⟩:=M;refine ao (goK func207) (Ks ?_);refine bU ?_;intro w1 y b1 _;have y:blk w1 w.heap.size 96 [ptr q]:=y
 (repeat (first|(refine zae ?_ (by assumption) ?_ ?_;rotate_left;exact rfl)))
 refine zeg (ae b1 M M.lt) (hL.below b1 oA) oo oo ok ?_;intro A o G w2 o2 b2;have ap:=o2.len;have aa:=ae b2 y y.lt;have R:Below w.heap.size w w2:=b1.trans (b2.mono b1.size)
 (repeat (first|refine bK ?_|refine bJ ?_))
 refine cD (z:=.slice none 0 0) kr ?_;intro w3 I b3 S3;have I:blk w3 w2.heap.size 87 [.slice none 0 0]:=I;refine dw kf I oB rfl ?_;intro w4 u o4;have u:blk w4 w2.heap.size 87 [slv (A,o,G)]:=u;have B:Below w2.heap.size w2 w4:=b3.trans o4.below;have t:Below w.heap.size w w4:=R.trans (B.mono R.size);have d4:=hd.below t
 have W:=ae t M M.lt;have ab:=ae B aa aa.lt;have t4:=TB.of_ob (OB.below o2 B oA)
 (repeat (first|refine zfl ?_|refine au ?_|refine OR ?_|(refine DV ?_ (by assumption) ?_ ?_;rotate_left;exact rfl)|(refine zae ?_ (by assumption) ?_ ?_;rotate_left;exact rfl)|refine aU ?_|refine bo ?_|refine cA ?_|refine aB oo ?_|refine eK ?_))
 obtain⟨i,hi,hz,Y,ak⟩:=info_parts zaa;refine ZP (vs:=[.func (.func 228) #[] #[ptr w.heap.size,ptr w2.heap.size],.func (.func 41) #[ptr p] #[]]) rfl rfl underlying160 hi hz Y rfl oB oB (by simp[Value.cells]) ?_;intro j C;generalize (w4.alloc _)=w5 at j C |-;have S:=d4.below C;have am:=d4.lt
 have s:ACj p q w.heap.size w2.heap.size (ci (f.length:Nat)) (A,o,G) (aO L) w5:=⟨ae C ab ab.lt,ae C u u.lt,ae C W W.lt,t4.below C⟩
 have ad:Ch [p,q] w w5:=Ch.of_below (t.trans (C.mono t.size));have X:p≠q:=λe=>by
  subst e;obtain⟨ds,hb⟩:=hd.blk;exact qI rfl (hb.ne M dc)
 have T:∀{w6:oG} {e:Int} {zf:oD},Ch [p] w5 w6->(∀r,blk r q 129 [ptr p,if e=0 then ci (((f++aO L).length:Nat):Int)else ci (f.length:Nat),.bool (decide (e=8))]->Ch [q] w6.drew r->Ch [p,q] w r->K (ci e) r) ->
   kX K (uZ (ptr w.heap.size) (ptr w2.heap.size) (ci e) zf) w6:=by
  intro w6 e zf c6 b;have P:=(s.ch S c6).drew
  refine HY <|ax (ACj p q w.heap.size w2.heap.size (ci (f.length:Nat)) (A,o,G) (aO L)) P <|ac (λx d _=>lK (v:=ptr q) d.1 rfl) <|ac (λx d _=>lK (v:=ptr q) d.1 rfl) <|ac (λx d _=>au) <|ac (λx d _=>OS) <|ac (λx d _=>lK (v:=ci (f.length:Nat)) d.2.2.1 rfl) <|ac (λx d _=>lK (v:=slv (A,o,G)) d.2.1 rfl) <|ac (λx d _=>wY) <|ac (λx d _=>aY (by show _<=(f.length:Int)+(o:Int);omega) (by show (f.length:Int)+(o:Int)<=_;omega)) <|zg8 rfl P.2.2.1 ?_
  intro r m O;refine ax (λ_=>True) trivial ?_;have ai:((f.length:Nat):Int)+(((A,o,G):Option Addr×Nat×Nat).2.1:Int)=(((f++aO L).length:Nat):Int):=by rw[oT];show _+(o:Int)=_;omega
  rw[ai]at m;have af:Ch [p,q] w w6.drew:=((ad.trans c6 λx d=>.inl (by simp_all)).trans (Ch.of_below (F:=[]) (jT _ w6).drew) λ_ h=>by cases h)
  exact b r m O (af.trans O λx d=>.inl (by simp_all))
 refine zc0 (Er:=λa => Ch [p] w5 a/\fu≠-1/\DK a p ⟨f,.app (aO L),true, -1⟩) (St:=λi a => Ch [p] w5 a/\match i with|0=>DK a p ⟨f,.no,false,fu⟩|1=>fu≠0/\DK a p ⟨f,.app (aO L),false,dec fu⟩|_=>(fu≠0/\fu≠1)/\DK a p ⟨f++aO L,.no,false,dec (dec fu)⟩) (λ_ _ a=>dl j λk b=>a.1.block k (jS j k b).2 λa=>by have:=(jS j k b).1;have:=mS a;omega) ?_ ⟨Ch.refl _ _,S⟩ oB (λw6 N=>?_) (λw6 N=>?_)
 .intro i v Z w K hs b hE
  match i with
  | 0 =>
   simp only[qL,qD]at Z;subst Z;obtain⟨H,J⟩:=hs;refine cB rfl (ao (goK func228) (HX ?_));have V:=(s.ch S H).drew
   refine ax (ACj p q _ w2.heap.size (ci (f.length:Nat)) (A,o,G) (aO L)) V <|ac (λx d _=>lK (v:=ptr q) d.1 rfl) <|ac (λx d _=>au) <|ac (λx d _=>OR) <|ac (λx d _=>lK (v:=ptr p) d.2.2.1 rfl) <|ac (λx d _=>lK (v:=slv (A,o,G)) d.2.1 rfl) <|zdx (DK.below J (jT _ w).drew) V.2.2.2.rb aj ?_
   have dr:∀{w':oG},Ch [p] w.drew w'->Ch [p] w5 w':=λl => H.trans (show Ch [p] w _ from⟨l.os,l.tape,l.output,l.size,l.block⟩) λ_ h=>.inl h;by_cases U:fu=0
   .rw[zbP U];intro w' g l;exact ax (λ_=>True) trivial (hE w' ⟨dr l,by omega,g⟩)
   .rw[XH U];intro w' g l;exact ax (λ_=>True) trivial (b w' ⟨dr l,U,g⟩)
  | 1 =>
   simp only[qK,qL,qD]at Z;subst Z;obtain⟨H,U,J⟩:=hs;refine cB rfl (zd6 J rfl ?_);by_cases h1:fu=1
   .rw[zbP (by show dec fu=0;rw[h1];rfl)];intro w' g l;exact hE w' ⟨H.trans l λ_ h=>.inl h,by omega,g⟩
   .have ah:=XH (D:=⟨f,.app (aO L),false,dec fu⟩) (zhF h1);unfold syn;rw[ah];intro w' g l;exact b w' ⟨H.trans l λ_ h=>.inl h,⟨U,h1⟩,g⟩
  | i+2=>simp at Z
 .refine T N.1 λr m O E=>?_;obtain⟨H,⟨n0,n1⟩,d6⟩:=N;have d6:DK w6.drew p ⟨f++aO L,.no,false,dec (dec fu)⟩:=DK.below d6 (jT _ w6).drew;exact h r n0 n1 ⟨d6.ch O (noBy.of (s.ch S H).drew.2.2.1 dc) (by simpa using X),m⟩ E
 .exact T N.1 λr m O E=>h8 r (DK.ch (DK.below N.2.2 (jT _ w6).drew) O (noBy.of (s.ch S N.1).drew.2.2.1 dc) (by simpa using X)) N.2.1 E
end
def fj(l:List (Nat×Nat)):List UInt8:=l.flatMap λq=>bC q.1 q.2
def kL(V:List Int):List (Nat×Nat):=V.map λv=>(v.toNat,8)
def FN(e:EV):List (Nat×Nat):=(e.o.toNat,1)::(e.s.toNat,8)::kL e.V++[(e.k.toNat,1),(e.n.toNat,8),(e.t.toNat,1),(e.a.toNat,8),(e.r.toNat,8),(e.f.toNat,8)]
def evB(e:EV):List UInt8:=fj (FN e)
abbrev M64:Int:=18446744073709551616
structure vC(e:EV):Prop where
 d:∀v∈e.V,0<=v
 n:0<=e.n/\e.n<M64
 r:0<=e.r/\e.r<M64
 f:0<=e.f/\e.f<M64
def HH{l r:List (Nat×Nat)}:fj (l++r)=fj l++fj r:=by unfold fj;rw[List.flatMap_append]
def XW{L:List (Nat×Nat)}{x k:Nat}(h:L[i]? = some (x,k)):fj L=fj (L.take i)++bC x k++fj (L.drop (i+1)):=by
 obtain⟨a,b⟩:=gS h
 conv=>lhs;rw[<-List.take_append_drop i L,List.drop_eq_getElem_cons a,b,HH]
 rw[jD];rfl
theorem zd8 {L:List (Nat×Nat)}{x k:Nat}(h:L[i]? = some (x,k))(j:k=1\/k=8)(I:x<256 ^ k):rW (fj L) ((fj (L.take i)).length:Nat) (k:Nat)=(x,(((fj (L.take i)).length+k:Nat):Int),0):=by
 have e:=XW h;have J:(fj L).length=(fj (L.take i)).length+k+(fj (L.drop (i+1))).length:=by rw[e];simp[bV];omega
 have C:uz (k:Nat)≠0:=by rcases j with rfl|rfl<;>decide
 unfold rW;rw[if_neg (by rintro(h|h|h);exact C h;omega;omega),if_neg oo,Int.toNat_natCast,Int.toNat_natCast]
 have:((fj L).drop (fj (L.take i)).length).take k=bC x k:=by
  rw[e,List.append_assoc,List.drop_left,List.take_append_of_le_length (by rw[bV];omega),tL (by rw[bV];omega)]
 rw[this,Ht,Nat.mod_eq_of_lt I];rfl
section
variable {e:EV}
def Vh:(evB e).length=91:=by simp[evB,fj,FN,kL,EV.V,bV]
def zfd(h:dI e=true):1<=e.k/\e.k<=7:=by rcases uN h with⟨k,_⟩|⟨k,_⟩|⟨k,_⟩|⟨k,_⟩|⟨k,_⟩|⟨k,_⟩|k<;>omega
end
def OM(e1 b3 Pv:oF)(zf:oD):=zf 0::e1::zf 2::b3::Pv::zT zf 5 46 ([])
def yA(K:KV):KE:=aj Q (cd f206 (b1 511)) (rk f206 K) xf (rk f206 K)
section
variable {K:KV}{e1 b3 Pv:oF}  
def XZ{K:KV}(h:box Q 49 H (λb=>ld Q 49 b λc=>call Q 58 #[c] λd=>un Q .not d λe w=>cond e (K cN w) (alc Q 87 (λf=>aq Q 49 b 0 λg=>ld Q 3 g λh=>conv Q 3 32 h λi=>bS Q (.func (.func 225) #[] #[f]) #[i,ci 1] λj=>aq Q 49 b 1 λk=>ld Q 32 k λl=>bS Q (.func (.func 225) #[] #[f]) #[l,ci 8] λm w=>aL (λS w=>hL S 87 f λn=>hF S 49 b 2 λo=>hL S 34 o λp=>call Q 226 #[p] (λr=>bw S λ_=>blt Q .append #[87,87] 87 #[false,false] #[n,r] λa=>aL λ_=>sto Q 87 f a λ_=>aq Q 49 b 3 λs=>ld Q 5 s λt=>conv Q 5 32 t λu=>bS Q (.func (.func 225) #[] #[f]) #[u,ci 1] λv=>yA K (OM b f (.func (.func 225) #[] #[f]) (zV (zV (zV zu 0 [H]) 2 [cN]) 5 [c,d,e,.func (.func 225) #[] #[f],.func (.func 225) #[] #[f],g,h,i,j,.func (.func 225) #[] #[f],k,l,m,n,o,p,r,a,.func (.func 225) #[] #[f],s,t,u,v]))) w) w.drew) w)) w):Gives Q 206 #[H] w K:=by refine aw func206 kr <|Eq.mp (qH (λc=>aj Q c _ _ _ _ w) (by kernel_rfl:(rep (b1 511) (cd f206 (b1 511)) (cd f206 []))=(cd f206 []))) ?_;revert h;delta yA;generalize (cd f206 (b1 511))=xc0;exact mpF
def Vk(h:aq Q 49 e1 4 (λa=>ld Q 32 a λa=>bS Q Pv #[a,ci 8] λ_=>aq Q 49 e1 5 λa=>ld Q 3 a λa=>conv Q 3 32 a λa=>bS Q Pv #[a,ci 1] λ_=>aq Q 49 e1 6 λa=>ld Q 2 a λa=>conv Q 2 32 a λa=>bS Q Pv #[a,ci 8] λ_=>aq Q 49 e1 7 λa=>ld Q 32 a λb=>bS Q Pv #[b,ci 8] λ_=>aq Q 49 e1 8 λc=>ld Q 32 c λd=>bS Q Pv #[d,ci 8] λ_=>ld Q 87 b3 K) w):yA K (OM e1 b3 Pv zf) w:=mpK h
end
attribute [irreducible] yA
def Vj{K:KV}(h:ld Q 87 H (λa=>call Q 108 #[a,U,Z] λa=>ext Q a 0 λb=>ext Q a 1 λ_=>sto Q 87 H b λ_=>K (.tuple #[])) w):Gives Q 225 #[U,Z,H] w K:=aw func225 kr (mpK h)
def xo(at1 b2 e4 eO t8:oF)(zf:oD):=zf 0::at1::b2::zf 3::e4::eO::zf 6::zf 7::t8::zT zf 9 66 ([])
def Bl(at1 b2 e4 eO:oF)(zf:oD):=zf 0::at1::b2::zf 3::e4::eO::zT zf 6 69 ([])
def Nv(e4 eO OH vy:oF)(zf:oD):=zT zf 0 4 (e4::eO::OH::vy::zT zf 8 67 ([]))
def Nw(e4 eO OH:oF)(zf:oD):=zT zf 0 4 (e4::eO::OH::zT zf 7 68 ([]))
def mf(K:KV):KE:=kZ f42 [1,1] K
def pO(K:KV):KE:=kY f42 [1,0,0,1] (mf K) (xx xf (mf K) 0) K
def xm(K:KV):KE:=aj Q (cd f42 (b1 49)) (pO K) (xx xf (mf K) 0) (rk f42 K)
def Bk(K:KV):KE:=aj Q (cd f42 (b1 127)) (rk f42 K) xf (rk f42 K)
def xn(K:KV):KE:=aj Q (cd f42 (b1 1023)) (rk f42 K) xf (rk f42 K)
section
variable {K:KV}{at1 b2 e4 eO OH vy t8:oF}  
def X8{K:KV}(h:box Q 87 Z (λa=>alc Q 49 λb=>alc Q 3 λc=>bT .lss 3 H (ci 0) λd=>xm K (xo H a b c d (zV (zV (zV zu 0 [Z]) 6 [ci 0]) 9 [H,d]))) w):Gives Q 42 #[Z,H] w K:=by refine aw func42 kr <|Eq.mp (qH (λc=>aj Q c _ _ _ _ w) (by kernel_rfl:(rep (b1 49) (cd f42 (b1 49)) (cd f42 []))=(cd f42 []))) ?_;revert h;delta xm mf pO;generalize (cd f42 (b1 49))=xc0;exact mpF
def TI{K:KV}(h:cond J (pO K (xo H Z U Y J zf) w) (ld Q 87 Z (λa=>lN 87 a λb=>bF .gtr 3 H b λc=>pO K (xo H Z U Y c (zV zf 11 [H,a,b,c]))) w)):xm K (xo H Z U Y J zf) w:=by delta xm;revert h;generalize (pO K)=qc0;generalize (mf K)=qc1;exact mpF
def TO{K:KV}(h:cond J (ld Q 49 H (λa=>sto Q 49 H a λ_=>sto Q 3 Z (ci 0) λ_=>bA Q [(some 49,H),(some 3,Z),(none,ci 1)] K) w) (ld Q 87 Y (λa=>lN 87 a λb=>bF .sub 3 b U λc=>bT .lss 3 c (ci 91) λd w=>cond d (ld Q 49 H (λa=>sto Q 49 H a λ_=>sto Q 3 Z (ci 0) λ_=>bA Q [(some 49,H),(some 3,Z),(none,ci 5)] K) w) (mf K (Bl U Y H Z (zV (zV zf 8 [J]) 16 [d,a,b,U,c,d])) w)) w)):pO K (xo U Y H Z J zf) w:=by delta pO;revert h;generalize (mf K)=qc0;exact mpF
abbrev JE(K:KV)(hA0:KE)(at1 b2 e4 eO:oF)(zf:oD)(w:oG):Prop :=
  sto Q 3 eO at1 (λ_=>bS Q (.func (.func 55) #[] #[b2,eO]) #[ci 1] λa=>conv Q 32 3 a λb=>bS Q (.func (.func 55) #[] #[b2,eO]) #[ci 8] λc=>aq Q 49 e4 0 λd=>sto Q 3 d b λ_=>aq Q 49 e4 1 λe=>sto Q 32 e c λ_=>ld Q 87 b2 λf=>ld Q 3 eO λg=>ld Q 3 eO λh=>bT .add 3 h (ci 48) λi=>slc Q 87 f (some g) (some i) none λj=>call Q 57 #[j] λk=>ext Q k 0 λl=>ext Q k 1 λm=>aq Q 49 e4 2 λn=>sto Q 34 n l λ_=>hA0 (Nv e4 eO m (.func (.func 55) #[] #[b2,eO]) (zV (zV zf 1 [at1,b2]) 23 [at1,.func (.func 55) #[] #[b2,eO],.func (.func 55) #[] #[b2,eO],a,b,.func (.func 55) #[] #[b2,eO],c,d,e,k,f,g,h,i,j,k,l,m,n]))) w
def TM{K:KV}(a:Code)(h:JE K (aj Q a (rk f42 K) (λ_ _ _=>False) (rk f42 K)) Y H Z U zf w):aj Q (rep [1,1,1,1] a (cd f42 [1,1])) (rk f42 K) xf (rk f42 K) (Bl Y H Z U zf) w:=Eq.mp kr h
def TN(h:JE K (Bk K) at1 b2 e4 eO zf w):mf K (Bl at1 b2 e4 eO zf) w:=by delta mf;exact Eq.mp (qH (λc=>aj Q c (rk f42 K) xf (rk f42 K) (Bl at1 b2 e4 eO zf) w) (by kernel_rfl:(rep [1,1,1,1] (cd f42 (b1 127)) (cd f42 [1,1]))=(cd f42 [1,1]))) (TM (cd f42 (b1 127)) h)
def TJ(h:ld Q 3 eO (λc=>bT .add 3 c (ci 48) λh=>sto Q 3 eO h λ_=>bS Q vy #[ci 1] λa=>conv Q 32 5 a λb=>bS Q vy #[ci 8] λd=>bS Q vy #[ci 1] λm=>conv Q 32 3 m λe=>aq Q 49 e4 3 λn=>sto Q 5 n b λ_=>aq Q 49 e4 4 λf=>sto Q 32 f d λ_=>aq Q 49 e4 5 λo=>sto Q 3 o e λ_=>bS Q vy #[ci 8] λg=>conv Q 32 2 g λp=>bS Q vy #[ci 8] λi=>bS Q vy #[ci 8] λr=>aq Q 49 e4 6 λj=>sto Q 2 j p λ_=>aq Q 49 e4 7 λk=>sto Q 32 k i λ_=>aq Q 49 e4 8 λl=>sto Q 32 l r λ_=>xn K (Nw e4 eO OH (zV (zV zf 7 [vy]) 42 [c,h,vy,a,b,vy,d,vy,m,e,n,f,o,vy,g,p,vy,i,vy,r,j,k,l]))) w):Bk K (Nv e4 eO OH vy zf) w:=by delta Bk;refine Eq.mp (qH (λc=>aj Q c _ _ _ _ w) (by kernel_rfl:(rep [1,1,1] (cd f42 (b1 1023)) (cd f42 (b1 127)))=(cd f42 (b1 127)))) ?_;revert h;delta xn;generalize (cd f42 (b1 1023))=xc0;exact mpF
def TL(h:bT .neq 28 OH (ci 0) (λa w=>aT a false (λd=>ld Q 49 e4 (λa=>call Q 58 #[a] λb=>un Q .not b λe=>d [a,b,e]) w) (λk=>k [uu,uu,uu] w) λc=>pick a cT (gd c 2) λf w=>cond f (bld Q 49 #[] (λg=>sto Q 49 e4 g λ_=>sto Q 3 eO (ci 0) λ_=>bA Q [(some 49,e4),(some 3,eO),(none,ci 5)] K) w) (aL (λS w=>hL S 49 e4 λi=>hL S 3 eO λj=>sto Q 49 e4 i (λ_=>bw S λ_=>sto Q 3 eO j λ_=>aL λ_=>bA Q [(some 49,e4),(some 3,eO),(none,ci 0)] K) w) w.drew)) w):xn K (Nw e4 eO OH zf) w:=mpK h
end
attribute [irreducible] mf pO xm Bk xn
def TH{K:KV}(h:ld Q 87 Z (λa=>ld Q 3 H λb=>call Q 56 #[a,b,U] λa=>ext Q a 0 λb=>ext Q a 1 λc=>ext Q a 2 λ_=>sto Q 3 H c λ_=>K b) w):Gives Q 55 #[U,Z,H] w K:=aw func55 kr (mpK h)
def uV(CD t7 t8:oF)(zf:oD):=zT zf 0 3 (CD::zT zf 4 3 (t7::t8::zT zf 9 14 ([])))
def JW(CD n5 t7 t8 t11:oF)(zf:oD):=zT zf 0 3 (CD::zf 4::n5::zf 6::t7::t8::zf 9::zf 10::t11::zT zf 12 11 ([]))
def JX(CD:oF)(zf:oD):=zT zf 0 3 (CD::zT zf 4 19 ([]))
def gZ(K:KV):KE:=kZ f226 [1,1,1] K
def yj(K:KV):KE:=aj Q (cd f226 (b1 58)) (gZ K) (xx xf (gZ K) 0) (rk f226 K)
def lM(K:KV)(B1:KE):KE:=kY f226 (b1 935) B1 (xx xf (gZ K) 0) K
def yk(K:KV)(B1:KE):KE:=aj Q (cd f226 (b1 14950)) (lM K B1) (xx (xx (xx xf (gZ K) 0) (lM K B1) 1) (lM K B1) 2) (rk f226 K)
section
variable {K:KV}{CD n5 t7 t8 t11:oF}  
def UM{K:KV}(h:box Q 34 H (λa=>mkS Q 87 (ci 0) (ci 48) λb=>ld Q 34 a λc=>yj K (uV b c (ci 0) (zV (zV zu 0 [H,a,cN]) 6 [b]))) w):Gives Q 226 #[H] w K:=aw func226 kr (mpK h)
def Ra(Inv:oF->oF->oG->Prop)(μ:oF->oF->oG->Nat)(f:Inv CD t8 w)(i:∀(a b:oF) (e:oD) (w:oG) (m:Nat),Inv a b w->m=μ a b w ->
  bT .lss 3 b (ci 6) (λc w=>cond c (idx Q 34 t7 b (λd=>yk K (λc S=>(Inv (gd c 3) (gd c 8) S)/\((μ (gd c 3) (gd c 8) S)<m)) (JW a d t7 b (ci 0) (zV e 9 [c,d]))) w) (gZ K (JX a (zV e 7 [t7,b,c])) w)) w):yj K (uV CD t7 t8 zf) w:=by refine aZ (cd f226 (b1 116)) (zr [(3,1),(5,1),(8,14)]) kr (vP [3,8] Inv) (vQ [3,8] μ) f ?_;intro d j g;have h:=i _ _ (zM zf (gd d) (zr [(3,1),(5,1),(8,14)])) j _ g rfl;revert h;delta yk lM;generalize (gZ K)=qc0;exact mpF
def Rb(Inv:vI 3)(μ:vM 3)(i:Inv CD n5 t11 w)(k:∀(a c b:oF) (g:oD) (w:oG) (m:Nat),Inv a c b w->m=μ a c b w ->
  bT .lss 3 b (ci 8) (λd w=>cond d (call Q 247 #[c,ci 8] (λc=>conv Q 32 5 c λd=>cH Q 87 1 #[(0,d)] λd=>blt Q .append #[87,87] 87 #[false,false] #[a,d] λa=>nC b λb w=>(Inv a c b w)/\((μ a c b w)<m)) w) (lM K B1 (uV a t7 t8 (zV (zV g 5 [c]) 11 [b,d])) w)) w):yk K B1 (JW CD n5 t7 t8 t11 zf) w:=by refine aZ (cd f226 (b1 29900)) (zr [(3,1),(5,1),(11,10)]) kr (vP [3,5,11] Inv) (vQ [3,5,11] μ) i ?_;intro e l j;have h:=k _ _ _ (zM zf (gd e) (zr [(3,1),(5,1),(11,10)])) l _ j rfl;revert h;generalize (gZ K)=qc0;generalize (lM K B1)=qc1;exact mpF
def Rc(h:K CD w):gZ K (JX CD zf) w:=mpK h
def Rd(h:nC t8 (λa=>B1 (uV CD t7 a (zV zf 21 [a]))) w):lM K B1 (uV CD t7 t8 zf) w:=by delta lM;revert h;generalize (gZ K)=qc0;exact mpF
end
attribute [irreducible] gZ yj lM yk
def Zi{K:KV}(h:box Q 87 H (λa=>alc Q 34 λb=>ld Q 87 a λc=>lN 87 c λc=>bT .neq 3 c (ci 48) λc w=>cond c (ld Q 34 b (λa=>sto Q 34 b a λ_=>bA Q [(some 34,b),(none,ci 5)] K) w) (call Q 70 #[.func (.func 71) #[] #[a]] (λa=>sto Q 34 b a λ_=>ld Q 34 b λa=>call Q 72 #[a] λa=>un Q .not a λa w=>cond a (bld Q 34 #[] (λa=>sto Q 34 b a λ_=>bA Q [(some 34,b),(none,ci 5)] K) w) (ld Q 34 b (λa=>sto Q 34 b a λ_=>bA Q [(some 34,b),(none,ci 0)] K) w)) w)) w):Gives Q 57 #[H] w K:=aw func57 kr (mpK h)
def LT(n3 t10 t11 t12:oF)(zf:oD):=zT zf 0 3 (n3::zT zf 4 6 (t10::t11::t12::zT zf 13 10 ([])))
def LU(n3:oF)(zf:oD):=zT zf 0 3 (n3::zT zf 4 19 ([]))
def ol(K:KV):KE:=kZ f71 [1,1] K
def Aa(K:KV):KE:=aj Q (cd f71 [1,0,1,0]) (ol K) (xx xf (ol K) 0) (rk f71 K)
section
variable {K:KV}{n3 t10 t11 t12:oF}  
def Wj{K:KV}(h:ld Q 87 Z (λa=>bT .mul 3 H (ci 8) λb=>slc Q 87 a (some b) none none λc=>slc Q 87 c none (some (ci 8)) none λd=>lN 87 d λe=>Aa K (LT (cu 0) d e (ci 0) (zV (zV zu 0 [H,Z]) 6 [a,H,b,c]))) w):Gives Q 71 #[H,Z] w K:=aw func71 kr (mpK h)
def SY(Inv:oF->oF->oG->Prop)(μ:oF->oF->oG->Nat)(g:Inv n3 t12 w)(j:∀(b a:oF) (f:oD) (w:oG) (m:Nat),Inv b a w->m=μ b a w ->
  lS a t11 (λc w=>cond c (bv Q 87 t10 a (λc=>ld Q 5 c λc=>bT .shl 32 b (cu 8) λb=>conv Q 5 32 c λc=>bF .or 32 b c λb=>nC a λa w=>(Inv b a w)/\((μ b a w)<m)) w) (ol K (LU b (zV f 10 [t10,t11,a,c])) w)) w):Aa K (LT n3 t10 t11 t12 zf) w:=by refine aZ (cd f71 (b1 52)) (zr [(3,1),(5,1),(12,10)]) kr (vP [3,12] Inv) (vQ [3,12] μ) g ?_;intro d k i;have h:=j _ _ (zM zf (gd d) (zr [(3,1),(5,1),(12,10)])) k _ i rfl;revert h;generalize (ol K)=qc0;exact mpF
def SZ(h:K n3 w):ol K (LU n3 zf) w:=mpK h
end
attribute [irreducible] ol Aa
def GG{K:KV}(h:conv Q 3 188 Z (λa=>bT .and 188 a (cu 63) λa=>bF .shl 32 H a λb=>bin Q .sub 188 true false (cu 64) a λa=>bF .shr 32 H a λa=>bF .or 32 b a K) w):Gives Q 247 #[H,Z] w K:=aw func247 kr (mpK h)
def rotB(x:Nat):Nat:=x%72057594037927936*256+x / 72057594037927936
def rotI(j x:Nat):Nat:=x%256 ^ (8-j)*256 ^ j+x / 256 ^ (8-j)
def zeO{x:Nat}(b:x<18446744073709551616)(a:j<8):rotB (rotI j x)=rotI (j+1) x/\rotI (j+1) x%256=x / 256 ^ (7-j)%256/\rotI j x<18446744073709551616:=by rcases(by omega:j=0\/j=1\/j=2\/j=3\/j=4\/j=5\/j=6\/j=7)with rfl|rfl|rfl|rfl|rfl|rfl|rfl|rfl<;>(simp only[rotI,rotB];omega)
def ziK{a:Nat}(h:a%256=b%256):UInt8.ofNat a=UInt8.ofNat b:=by rw[<-UInt8.toNat_inj];simpa using h
def wP{V:List Int}:(fj (kL V)).length=8*V.length:=by
 induction V with
 | nil=>rfl
 | cons v V ih =>
  unfold kL fj at *;rw[jK,jI,oT,ih,bV,oZ];omega
def zc1{V:List Int}(h:V[i]? = some v):fj (kL (V.take (i+1)))=fj (kL (V.take i))++bC v.toNat 8:=by rw[List.take_add_one,h];unfold kL;rw[jJ,HH];simp[fj]
section
variable  {K:KV}
def zaS{s:TypeId}{k:IntKind}{b:TypeDesc}(a:Tryz.prog.underlying s=some b)(c:0<=x)(d:x<18446744073709551616)(h:K (.int .u64 x) w):conv Q s 32 (.int k x) K w:=by refine dP a underlying32 ?_;rw[gu,show x%18446744073709551616=x by omega];exact h
def ziB{x:Nat}(b:x<18446744073709551616)(h:K (.int .u64 (rotB x:Nat)) w):call Q 247 #[.int .u64 (x:Nat),ci 8] K w:=by
 refine ao (goK func247) (GG (dP underlying3 underlying188 (US ?_)));rw[show rC .and .u64 (IntKind.u64.wrap 8) 63=8 by decide];refine Dr oo (nT ?_);rw[show IntKind.u64.wrap (64-8)=56 by decide];refine He oo (To ?_);have e:=PQ x 7 oo;rw[show (8*((7:Nat):Int))=56 by omega]at e;rw[e,show (256 ^ 7:Nat)=72057594037927936 by decide]
 have m:x%72057594037927936<72057594037927936:=by omega
 have o:=VN (n:=x%72057594037927936) (c:=x / 72057594037927936) m oo;have a:(2:Int) ^ min (8:Int).toNat IntKind.u64.bits=256:=rfl;rw[a,gu]at o |-;rw[show (x:Int)*256%18446744073709551616=((x%72057594037927936:Nat):Int)*256%18446744073709551616 by omega,o];exact h
theorem zf0 {V:List Int}(hV:V.length=6)(h0:∀v∈V,0<=v/\v<18446744073709551616)(h:∀w' a n c,OB w' w.heap.size a n c (fj (kL V))->Below w.heap.size w w'->K (.slice a n c) w'):call Q 226 #[.agg (vCs V).toArray] K w:=by
 refine ao (goK func226) (UM (yX hV λw1 z1 b1 s1=>?_));refine mk8 w.heap.size 48 rfl oo oo λa2 w2 o2 b2=>?_;have z2:=ae b2 z1 z1.lt;have U:=b1.trans (b2.mono oo);refine ldA (n:=6) (vs:=vCs V) underlying34 rfl kr z2 (by rw[List.drop_zero,tL (by rw[bE];omega)]) (by rw[bE];exact hV) ?_
 refine Ra (Inv:=λJ i wr=>∃(p:Nat) (a:Option Addr) (c:Nat),p<=6/\i=ci p/\J=.slice a (8*p) c/\OB wr w.heap.size a (8*p) c (fj (kL (V.take p)))/\Below w.heap.size w wr) (μ:=λ_ i _=>6-(intOf i).toNat)
  ⟨0,_,_,Nat.zero_le _,rfl,rfl,o2,U⟩ ?_
 rintro _ _ dd w3 m ⟨p,a3,c3,hp,rfl,rfl,o3,b3⟩ hm;refine aW ?_;by_cases C:p<6
 .have hv:V[p]? = some V[p]:=gE oo;obtain⟨v0,v1⟩:=h0 V[p] (List.getElem_mem _);have hs:=zc1 hv;refine aG oo (Xq underlying34 kf kf C (v:=u6 V[p]) (by rw[BX hV C,List.getD_eq_getElem?_getD,hv];rfl) ?_);generalize V[p]=v at v0 v1 hs hv;obtain⟨x,rfl⟩:=Int.eq_ofNat_of_zero_le v0;rw[Int.toNat_natCast]at hs
  have hx:x<18446744073709551616:=by omega
  refine Rb (Inv:=λJ n j wr=>∃(q:Nat) (a:Option Addr) (c:Nat),q<=8/\j=ci q/\n=.int .u64 (rotI q x:Nat)/\J=.slice a (8*p+q) c/\OB wr w.heap.size a (8*p+q) c (fj (kL (V.take p))++(bC x 8).take q)/\Below w.heap.size w wr) (μ:=λ_ _ j _=>8-(intOf j).toNat)
   ⟨0,a3,c3,Nat.zero_le _,rfl,by simp[rotI,u6];omega,rfl,by rw[List.take_zero,List.append_nil];exact o3,b3⟩ ?_
  rintro _ _ _ dd w4 m4 ⟨q,a4,c4,hq,rfl,rfl,rfl,O,b4⟩ aa;refine aW ?_;by_cases I:q<8
  .obtain⟨r1,r2,r3⟩:=zeO hx I;refine aG oo (ziB r3 (dP underlying32 underlying5 ?_));rw[r1,XI,ziK r2];have z4:=b4.size;refine zhl rfl λw5 b5 r5 s5=>Om w.heap.size (O.below b5 oo) r5 oo oo λa6 c6 w6 o6 g6=>?_
   refine aY oo oo ⟨⟨q+1,a6,c6,I,congrArg ci (by push_cast;rfl),rfl,rfl,?_,(b4.trans (b5.mono oo)).grown g6 oo (λk hk=>(OV.block (O.below b5 oo) k hk).1)⟩,by rw[aa];show 8-((q:Int)+1).toNat<8-(q:Int).toNat;omega⟩;rw[On x 8 q I, <-List.append_assoc];exact o6
  .obtain rfl:q=8:=by omega
   refine aB oo (Rd (aY oo oo ⟨⟨p+1,a4,c4,C,congrArg ci (by push_cast;rfl),rfl,?_,b4⟩,by rw[hm];show 6-((p:Int)+1).toNat<6-(p:Int).toNat;omega⟩));rw[hs];rw[tL (l:=bC x 8) (i:=8) (by rw[bV];exact Nat.le_refl _)]at O;exact O
 .obtain rfl:p=6:=by omega
  refine aB oo (Rc (h w3 _ _ _ ?_ b3));rw[tL oo]at o3;exact o3
def ziQ{V:List Int}{n k:Nat}(D:V.length=6)(B:∀v∈V,0<=v/\v<18446744073709551616)(E:blk w b 87 [.slice a n c])(u:RB w a n c (fj (kL V)))(P:k<6)(h:K (u6 (V.getD k 0)) w):call Q 71 #[iv (k:Nat),pB b] K w:=by
 have G:=u.len;rw[wP,D]at G;have y:V[k]? = some V[k]:=gE oo;obtain⟨A,I⟩:=B V[k] (List.getElem_mem _);rw[oN,y,Option.getD_some]at h;have o:fj (kL V)=fj ((kL V).take k)++bC V[k].toNat 8++fj ((kL V).drop (k+1)):=XW (by unfold kL;rw[qC,y];rfl);have R:(fj ((kL V).take k)).length=8*k:=by
  rw[show (kL V).take k=kL (V.take k)by unfold kL;rw[List.map_take],wP,qA];omega
 generalize V[k]=v at h A I o;obtain⟨x,rfl⟩:=Int.eq_ofNat_of_zero_le A;rw[oQ]at o;refine ao (goK func71) (Wj (lK (v:=.slice a n c) E rfl (MY oo oo ?_)));rw[show (k:Int)*8=((8*k:Nat):Int)by omega];refine zaR (l:=8*k) (m:=n) u (.inr ⟨_,rfl⟩) (.inl ⟨rfl,rfl⟩) oo oA λL H=>?_
 refine zaR (l:=0) (m:=8) H (.inl ⟨rfl,rfl⟩) (.inr ⟨_,rfl⟩) oo oo λM z=>?_;have e:(((fj (kL V)).take n).drop (8*k)).take 8=bC x 8:=by
  have C:(fj (kL V)).length<=n:=by rw[wP];omega
  rw[tL C,o,jD,List.drop_append_of_le_length oo,oS oo,oV,qJ (by rw[bV];omega),tL (by rw[bV];omega)]
 rw[oX,e]at z;refine wY <|SY (Inv:=λn i J=>∃j:Nat,j<=8/\i=ci j/\n=.int .u64 (ff ((bC x 8).take j):Nat)/\J=w) (μ:=λ_ i _=>8-(intOf i).toNat) ⟨0,qG _,rfl,rfl,rfl⟩ ?_;rintro _ _ N _ m ⟨j,O,rfl,rfl,rfl⟩ F;refine aW ?_;by_cases r:j<8
 .refine aG oo (ze4 z oo oo λd=>ld8 d (Dr oo (dP underlying5 underlying32 ?_)));have t:=Mf ((bC x 8).take j);have s:((bC x 8).take j).length=j:=by rw[qA,bV];omega
  rw[s]at t;have g:ff ((bC x 8).take j)<72057594037927936:=by
   have:256 ^ j<=256 ^ 7:=Nat.pow_le_pow_right oo oo
   omega
  generalize q:(bC x 8).getD (((j:Nat):Int)).toNat 0=cc;have p:=cc.toNat_lt;refine To ?_;rw[gu (cc.toNat:Int),show (cc.toNat:Int)%18446744073709551616=((cc.toNat:Nat):Int)by omega,VN g oo];have f:(bC x 8).getD j 0=cc:=by simpa using q
  refine aY oo oo ⟨⟨j+1,r,qH ci (by push_cast;rfl),?_,rfl⟩,by rw[F];show 8-((j:Int)+1).toNat<8-(j:Int).toNat;omega⟩;rw[WJ _ _ (by rw[bV];omega),Tn,f]
 .obtain rfl:j=8:=by omega
  refine aB oo (SZ ?_);rw[tL (by rw[bV];omega),Ht,Nat.mod_eq_of_lt oo];exact h
def zjG{V:List Int}{n:Nat}(d:V.length=6)(F:∀v∈V,0<=v/\v<18446744073709551616)(t:leV V (List.replicate 6 1099511627776)=true)(B:RB w a n c (fj (kL V)))(h:∀S,Below w.heap.size w S->K (.tuple #[.agg (vCs V).toArray,ci 0]) S):call Q 57 #[.slice a n c] K w:=by
 have H:=B.len;rw[wP,d]at H;refine ao (goK func57) (Zi (bU λf o m O=>?_));have o:blk f w.heap.size 87 [.slice a n c]:=o;refine cD (z:=.agg (vCs [0,0,0,0,0,0]).toArray) kr λu p x P=>?_;have p:=cZ p
 have g:=ae x o o.lt;have b:=m.trans (x.mono m.size);refine lK (v:=.slice a n c) g rfl (wY (bo (aB oo ?_)));have M:RB u a n c (fj (kL V)):=RV.below B b oA;refine Wf d (λk G C l a s => cB (all:=#[iv (k:Nat),pB w.heap.size]) rfl (ziQ d F (ae l g g.lt) (RV.below M l oA) G (s C (jT _ _)))) λC l=>?_
 have N:=ae l p p.lt;refine fY (n:=6) (vs:=vCs V) kr (by rw[bE];exact d) N (by show 0+6<=6;omega) (by simp[vCs,u6,Value.oneCell']) λw4 i J=>?_;have i:blk w4 f.heap.size 34 (vCs V):=by
  rw[qX,oV,oS (by show 6<=0+6;omega),oW]at i;exact i
 have e:∀{y:oG} {K:KV},blk y f.heap.size 34 (vCs V)->K (.agg (vCs V).toArray) y->ld Q 34 (pB f.heap.size) K y:=λI r=>ldA (n:=6) (vs:=vCs V) underlying34 rfl kr I (by rw[oX,tL (by rw[bE];omega)]) (by rw[bE];exact d) r;refine e i (Zj d λR A=>bH ?_);rw[t];have E:=ae A i i.lt
 have j:Below f.heap.size u w4:=aK (l.mono oo) J oA;refine aD (e E (fY (n:=6) (vs:=vCs V) kr (by rw[bE];exact d) E (by rw[bE];omega) (by simp[vCs,u6,Value.oneCell']) λD q L=>?_));have q:blk D f.heap.size 34 (vCs V):=by
  rw[qX,oV,oS (by rw[bE];omega),oW]at q;exact q
 exact yS (v:=.agg (vCs V).toArray) (λ_ r=>e q r) (h D (aK ((b.trans (j.mono m.size)).trans (A.mono (by have:=b.size;have:=j.size;omega))) L m.size))
end
end
section
def ziA{a b:Addr}{v v2 u:oF}{K:KV}(e:∀K':KV,K' v w->ld P t (.pointer (some a)) K' w)(f:∀K':KV,K' v2 w->ld P E (.pointer (some b)) K' w)(h:K (.tuple #[v,v2,u]) w):bA P [(some t,.pointer (some a)),(some E,.pointer (some b)),(none,u)] K w:=by
 have d:∀{t:TypeId} {a:Addr} {v:oF},(∀K':KV,K' v w->ld P t (.pointer (some a)) K' w)->(loadVar t a).run P w=.ok v w:=λ{t a v} e=>by
  have:=e (λg i => g=v/\i=w) ⟨rfl,rfl⟩
  unfold ld okV at this;unfold Instr.loadAt at this;simp only[Instr.sureAddr,jX,jW,jU]at this;split at this
  .rename_i g i c;rw[c,this.1,this.2]
  .exact this.elim
 unfold bA
 have:(qk [(some t,.pointer (some a)),(some E,.pointer (some b)),(none,u)]).run P w=.ok (.tuple #[v,v2,u]) w:=by simp[qk,asAddr,jX,d e,d f]
 rw[this];exact⟨rfl,h⟩
def OB.ne{B n:Nat}{cs:oE}{l:List UInt8}(o:OB w B a n c l)(b:blk w g E cs)(i:E≠5):∀k,(Value.slice a n c).ownBlock=some k->k≠g:=λk e m=>by
 subst m;rcases o.2 with⟨d,_⟩|⟨g,f,h,d,_,j,_⟩
 .rw[d]at e;cases e
 .rw[d]at e;simp only[Value.ownBlock,qD]at e;subst e;unfold blk at b;rw[j]at b;simp only[qD,Obj.cells.injEq]at b;exact i b.2.1.symm
def Yr{B n:Nat}{cs:oE}{l:List UInt8}(d:blk w b E cs)(h:OB w B a n c l)(g:w.grownBy S (Value.slice a n c).ownBlock)(f:E≠5):blk S b E cs :=
 d.kp (g.block b d.lt λe=>h.ne d f b e.symm rfl)
def OB.othT{B n:Nat}{cs:oE}{l:List UInt8}(b:OB w B a n c l)(e:blk w g E cs)(d:E≠5)(o:Oth g w S):OB S B a n c l:=dl b λk f=>o.other k (b.ne e d k f)
def RV.oth3{n B:Nat}{l:List UInt8}(h:RB w a n c l)(f:∀i,i<n->(rV a i).block<B)(o:Oth g w S)(j:B<=g):RB S a n c l :=
 ⟨RV.len h,RV.cap h,RV.some_ h,RV.nil_ h,λi u b=>by
  have e:i<n:=by have:=(gS b).1;rw[RV.len h]at this;exact this
  have d:=RV.cell h i u b
  have:=f i e
  rw[World.cell?_of_block (o.other _ oo)];exact d⟩
def zfc{e:EV}(c:dI e=true):0<=e.a/\e.a<=1125899906842624:=by
 have g:e=FO e:=by
  unfold dI at c;simp only[oM,oP]at c;exact c.2.2.2.2.2.1
 have f:=uN c;by_cases d:e.k=1\/e.k=2\/e.k=3\/e.k=5
 .rcases f with⟨k,a,b⟩|⟨k,a,b⟩|⟨k,a,b,_⟩|⟨k,_⟩|⟨k,a,b,_⟩|⟨k,_⟩|k<;>first|omega|(simp only[MXA]at *; omega)
 .have:e.a=0:=by rw[g];unfold FO;exact oI d
  omega
def zfe{e:EV}(c:dI e=true):0<=e.t/\e.t<=6:=by
 have g:e=FO e:=by
  unfold dI at c;simp only[oM,oP]at c;exact c.2.2.2.2.2.1
 have f:=uN c;by_cases d:e.k=5\/e.k=6
 .rcases f with⟨k,_⟩|⟨k,_⟩|⟨k,_⟩|⟨k,_⟩|⟨k,_,_,a,b,_⟩|⟨k,a,b,_⟩|k<;>omega
 .have:e.t=0:=by rw[g];unfold FO;exact oI d
  omega
structure EP(w0 w:oG) (q p:Nat) (e:EV) (l:List UInt8):Prop where
 bq:blk w q 49 (evC e)
 bp:∃a n c,blk w p 87 [.slice a n c]/\OB w w0.heap.size a n c l
 ne:q≠p
 lo:w0.heap.size<=p
 bel:Below w0.heap.size w0 w
attribute [local irreducible] bin un conv call bS blt slc aq fld bv idx lkp fJ nl eSt rng nxt ent ext alc box bld cH ld sto bj fK mkS ifc pick rdy wts aT sti cond bA Gives aj iK kH cOp
section
variable  {K:KV}{e:EV}
def OG{q p:Nat}{l:List UInt8}(k:Nat)(h:EP O w q p e l)(G:l.length<=1000)(j:k=1\/k=8)(y:0<=v)(I:v<((256 ^ k:Nat):Int))(f:r=(k:Nat))(z:∀S,EP O S q p e (l++bC v.toNat k)->K (.tuple #[]) S):bS Q (.func (.func 225) #[] #[pB p]) #[.int .u64 v,ci r] K w:=by
 subst f;obtain⟨x,rfl⟩:=Int.eq_ofNat_of_zero_le y;obtain⟨a,n,c,g,m⟩:=h.bp;have H:=m.len;have J:x<256 ^ k:=by omega
 have b:x<18446744073709551616:=by rcases j with rfl|rfl<;>omega
 refine cB (all:=#[.int .u64 (x:Nat),ci (k:Nat),pB p]) rfl (ao (goK func225) (Vj (lK (v:=.slice a n c) g rfl ?_)));refine put_c m.rb oo b λt C u L o d=>bK (bJ ?_);have B:uz (k:Nat)≠0:=by rcases j with rfl|rfl<;>decide
 have A:FP l x (k:Nat)=(l++bC x k,0):=by
  unfold FP;rw[oI B,oQ,oI oo]
 rw[A]at o;have s:=ae d g g.lt;have E:=ae d h.bq h.bq.lt;refine dw Ef s oB rfl λF D i=>z F ⟨i.blk E h.ne,⟨t,C,u,D,?_⟩,h.ne,h.lo,aK (h.bel.trans (d.mono h.bel.size)) i h.lo⟩;exact OV.mono (o.othT s dc i) h.bel.size
theorem zfV (hm:dI e=true)(O:vC e)(h:∀w' a n c,OB w' w.heap.size a n c (evB e)->Below w.heap.size w w'->K (.slice a n c) w'):call Q 206 #[.agg (evC e).toArray] K w:=by
 obtain⟨o1,o6,ar,sM⟩:=jb hm;obtain⟨k1,k7⟩:=zfd hm;have al:=zcp hm;have ha:=zfc hm;have ht:=zfe hm;refine ao (goK func206) (XZ (Bj λw1 z1 b1 s1=>dN z1 (Fi λw2 b2=>bH ?_)));rw[hm];have z2:=ae b2 z1 z1.lt;have J:=b1.trans (b2.mono b1.size);have av:=b2.size;refine aD (cD (z:=.slice none 0 0) kr λw3 z3 b3 s3=>?_);have z3:blk w3 w2.heap.size 87 [.slice none 0 0]:=z3
 have e3:EP w w3 w.heap.size w2.heap.size e []:=⟨ae b3 z2 z2.lt,⟨none,0,0,z3,OB.nil _ _⟩,by omega,J.size,J.trans (b3.mono J.size)⟩
 refine fS (lK (v:=iv e.o) e3.bq rfl (zaS underlying3 oo oo (OG 1 e3 oB (.inl rfl) oo oo rfl λw4 e4=>?_)));refine pC (lK (v:=u6 e.s) e4.bq rfl (OG 8 e4 (by simp[bV]) (.inr rfl) oo oo rfl λw5 e5=>?_));obtain⟨a5,n5,c5,p5,o5⟩:=e5.bp
 refine ax (λy=>blk y w.heap.size 49 (evC e)/\blk y w2.heap.size 87 [.slice a5 n5 c5]) ⟨e5.bq.drew,p5.drew⟩ <|ac (v:=.slice a5 n5 c5) (λy d _ hK=>lK d.2 rfl hK) ?_;refine ac (λy d _ hK=>Bv hK) (ac (v:=.agg (vCs e.V).toArray) (λy d _ hK=>ldA (n:=6) (vs:=vCs e.V) underlying34 rfl kr d.1 rfl rfl hK) ?_);refine zf0 rfl (λv hv=>⟨O.d v hv,?_⟩) λw6 a6 n6 c6 ak b6=>?_
 .obtain⟨k,hk,rfl⟩:=List.mem_iff_getElem.1 hv
  have:=al.2 k
  rw[List.getD_eq_getElem?_getD,gE hk,Option.getD_some]at this;unfold M40 at this;omega
 have C:Below w5.heap.size w5 w6:=(Below.refl _ w5).drew.trans b6;have q6:=ae C e5.bq e5.bq.lt;have p6:=ae C p5 p5.lt;have I:=o5.below C oA;have j:=e5.bel.trans (C.mono e5.bel.size);have l5:=o5.len;have l6:=ak.len;have an:n5=9:=by rw[<-l5];simp[bV]
 have ap:n6=48:=by rw[<-l6,wP];rfl
 refine aI ⟨q6,p6⟩ (Om w.heap.size I ak.rb oo j.size λa7 c7 w7 o7 g7=>?_);have q7:=Yr q6 I g7 dc;have p7:=Yr p6 I g7 dc;have aa:Below w.heap.size w w7:=j.grown g7 j.size λk hk=>(OV.block I k hk).1;refine ax (λ_=>True) trivial (dw Ef p7 oB rfl λw8 p8 U=>?_)
 have e8:EP w w8 w.heap.size w2.heap.size e ([]++bC e.o.toNat 1++bC e.s.toNat 8++fj (kL e.V)):=⟨U.blk q7 e3.ne,⟨a7,n5+n6,c7,p8,OB.othT o7 p7 dc U⟩,e3.ne,e3.lo,aK aa U e3.lo⟩
 have hl:∀{r:List UInt8},([]++bC e.o.toNat 1++bC e.s.toNat 8++fj (kL e.V)++r).length=57+r.length:=by
  intro r;rw[List.length_append,List.length_append,wP];simp[bV,EV.V]
 refine DE (lK (v:=kv8 e.k) e8.bq rfl (zaS underlying5 oo oo (OG 1 e8 (by rw[<-List.append_nil (_++fj _),hl];simp) (.inl rfl) oo oo rfl λw9 e9=>?_)));refine Vk (qo (lK (v:=u6 e.n) e9.bq rfl (OG 8 e9 (by rw[hl];simp[bV]) (.inr rfl) O.n.1 (by have:=O.n.2;omega) rfl λaz ab=>?_)))
 refine yD (lK (v:=iv e.t) ab.bq rfl (zaS underlying3 ht.1 oo (OG 1 ab (by rw[List.append_assoc _ (bC _ _),hl];simp[bV]) (.inl rfl) ht.1 oo rfl λaE e11=>?_)));refine tf (lK (v:=iv e.a) e11.bq rfl (zaS underlying2 ha.1 oo (OG 8 e11 (by rw[List.append_assoc _ (bC _ _),List.append_assoc _ (bC _ _),hl];simp[bV]) (.inr rfl) ha.1 oo rfl λaS ad=>?_)))
 refine wQ (lK (v:=u6 e.r) ad.bq rfl (OG 8 ad (by simp[bV,wP,EV.V]) (.inr rfl) O.r.1 (by have:=O.r.2;omega) rfl λa0 af=>?_));refine DH (lK (v:=u6 e.f) af.bq rfl (OG 8 af (by simp[bV,wP,EV.V]) (.inr rfl) O.f.1 (by have:=O.f.2;omega) rfl λam ag=>?_));obtain⟨a,n,c,hp,ho⟩:=ag.bp;refine lK (v:=.slice a n c) hp rfl (h am a n c ?_ ag.bel)
 have:evB e=[]++bC e.o.toNat 1++bC e.s.toNat 8++fj (kL e.V)++bC e.k.toNat 1++bC e.n.toNat 8++bC e.t.toNat 1++bC e.a.toNat 8++bC e.r.toNat 8++bC e.f.toNat 8:=by
  unfold evB FN;simp[fj,kL,EV.V]
 rw[this];exact ho
structure ET(w0 w:oG) (a:Option Addr) (c:Nat) (e:EV) (cs:oE) (pos:Nat):Prop where
 bb:blk w w0.heap.size 87 [.slice a 91 c]
 be:blk w (w0.heap.size+1) 49 cs
 bn:blk w (w0.heap.size+2) 3 [ci (pos:Nat)]
 rb:RB w a 91 c (evB e)
 rl:∀i,i<91->(rV a i).block<w0.heap.size
 bel:Below w0.heap.size w0 w
def OJ{pos':Nat}{cs:oE}(i k:Nat)(h:ET S w a c e cs b)(hi:(FN e)[i]? = some (v.toNat,k))(n:k=1\/k=8)(l:0<=v)(t:v<((256 ^ k:Nat):Int))(f:r=(k:Nat))(o:(fj ((FN e).take i)).length=b)(g:pos'=b+k)(m:∀O,ET S O a c e cs pos'->K (.int .u64 v) O):bS Q (.func (.func 55) #[] #[pB S.heap.size,pB (S.heap.size+2)]) #[ci r] K w:=by
 subst f g;obtain⟨x,rfl⟩:=Int.eq_ofNat_of_zero_le l;rw[oQ]at hi;refine cB (all:=#[ci (k:Nat),pB S.heap.size,pB (S.heap.size+2)]) rfl (ao (goK func55) (TH (lK (v:=.slice a 91 c) h.bb rfl (lK (v:=ci (b:Nat)) h.bn rfl ?_))));have j:=zd8 hi n oo;rw[o]at j;refine zda h.rb oo ?_;rw[show rW (evB e) (b:Nat) (k:Nat)=_ from j]
 have s:S.heap.size+2<w.heap.size:=h.bn.lt;refine TQ (TR (TS (dw kf h.bn oB rfl λq p d=>m q ⟨d.blk h.bb oo,d.blk h.be oo,p,RV.oth3 h.rb h.rl d oo,h.rl,aK h.bel d oo⟩)))
def OL{cs:oE}{v:oF}(h:ET S w a c e cs b)(j:∀w,(sizeOf t).run Q w=.ok 1 w)(n:f<cs.length)(k:v.oneCell'=true)(i:∀O,ET S O a c e (cs.set f v) b->K undef O):sto Q t (pA (S.heap.size+1) (0+f)) v K w:=by have m:S.heap.size+2<w.heap.size:=h.bn.lt;refine dw j h.be oo k λl g d=>i l ⟨d.blk h.bb oo,by rw[oK]at g;exact g,d.blk h.bn oo,RV.oth3 h.rb h.rl d oo,h.rl,aK h.bel d oo⟩
def zdH{d:TypeId}(a:Tryz.prog.underlying d=some (.int .i64))(b:0<=x)(c:x<9223372036854775808)(h:K (ci x) w):conv Q 32 d (.int .u64 x) K w:=by refine dP underlying32 a ?_;rw[eY oo oo];exact h
def zjg:((evB e).take 57).drop 9=fj (kL e.V):=by
 have b:evB e=fj [(e.o.toNat,1),(e.s.toNat,8)]++fj (kL e.V)++fj [(e.k.toNat,1),(e.n.toNat,8),(e.t.toNat,1),(e.a.toNat,8),(e.r.toNat,8),(e.f.toNat,8)]:=by
  rw[<-HH, <-HH];rfl
 have c:(fj [(e.o.toNat,1),(e.s.toNat,8)]).length=9:=by simp[fj,bV]
 have d:(fj (kL e.V)).length=48:=wP;rw[b,qJ (by rw[oT];omega),tL (by rw[oT];omega),List.drop_append_of_le_length oo,oS oo,oV]
def zdL(E:dI e=true)(U:vC e)(hr:RB w a 91 c (evB e))(b:∀i,i<91->(rV a i).block<w.heap.size)(h:∀w',Below w.heap.size w w'->K (.tuple #[evV e,ci 91,ci 0]) w'):call Q 42 #[.slice a 91 c,ci 0] K w:=by
 obtain⟨o1,o6,aE,sM⟩:=jb E;obtain⟨k1,k7⟩:=zfd E;have I:=zcp E;have ha:=zfc E;have ht:=zfe E;obtain⟨n0,n1⟩:=U.n;obtain⟨r0,r1⟩:=U.r;obtain⟨f0,f1⟩:=U.f;simp only[M64]at n1 r1 f1;refine ao (goK func42) (X8 (bU λw1 X b1 s1=>jj λw2 z2 b2 s2=>cD (z:=ci 0) kr λw3 Y b3 s3=>?_));have X:blk w1 w.heap.size 87 [.slice a 91 c]:=X
 have Y:blk w3 w2.heap.size 3 [ci ((0:Nat):Int)]:=Y;have G:Below w1.heap.size w1 w3:=b2.trans (b3.mono oo);have F:=b1.trans (G.mono oo);have aC:=ae G X X.lt;have T:=ae b3 z2 z2.lt;rw[s1]at T s2 |-;rw[s2]at Y |-;have x:ET w w3 a c e (evC evZ) 0:=⟨aC,T,Y,RV.below hr F oA,b,F⟩
 refine aW (TI (aB oo (lK (v:=.slice a 91 c) x.bb rfl (wY (dE (TO (aB oo ?_)))))));refine lK (v:=.slice a 91 c) x.bb rfl (wY (co oo oo (aW (aB oo (TN ?_)))));refine dw kf x.bn oB rfl λw4 n4 W=>?_;have l3:w.heap.size+2<w3.heap.size:=x.bn.lt
 have e4:ET w w4 a c e (evC evZ) 0:=⟨W.blk x.bb oo,W.blk x.be oo,n4,RV.oth3 x.rb b W oo,b,aK x.bel W oo⟩
 refine OJ 0 1 e4 rfl (.inl rfl) oo oo rfl rfl (pos':=1) rfl λw5 e5=>zdH underlying3 oo oo ?_;refine OJ 1 8 e5 rfl (.inr rfl) oo oo rfl (by simp[FN,fj,bV]) (pos':=9) rfl λw6 e6=>?_;refine fS (OL (f:=0) e6 kf (by simp[evC]) rfl λw7 e7=>pC (OL (f:=1) e7 kf (by simp[evC]) rfl λw8 g=>?_))
 refine lK (v:=.slice a 91 c) g.bb rfl (lK (v:=ci ((9:Nat):Int)) g.bn rfl (lK (v:=ci ((9:Nat):Int)) g.bn rfl (aY oo oo ?_)));refine zaR (l:=9) (m:=57) g.rb (.inr ⟨_,rfl⟩) (.inr ⟨_,rfl⟩) oo oo λa' r8=>?_;rw[zjg]at r8;have hV:∀v∈e.V,0<=v/\v<1099511627776:=λv J=>by
  refine⟨U.d v J,?_⟩;obtain⟨k,hk,rfl⟩:=List.mem_iff_getElem.1 J
  have:=I.2 k
  rw[oN,gE hk,Option.getD_some]at this;exact this
 have aq:leV e.V (List.replicate 6 1099511627776)=true:=by
  unfold leV;rw[jR];intro k hk
  have:=I.2 k
  simp only[M40]at this;have ap:=jQ.1 hk;have ar:(List.replicate 6 (1099511627776:Int)).getD k 0=1099511627776:=by rw[oN,jL,oJ ap];rfl
  rw[oP,ar];omega
 refine zjG rfl (λv J=>⟨(hV v J).1,by have:=(hV v J).2;omega⟩) aq r8 λw9 H=>bK (bJ (Bv ?_));have l8:=g.bn.lt;have e9:blk w9 (w.heap.size+1) 49 _:=ae H g.be g.be.lt;refine fY (n:=6) (vs:=vCs e.V) kr rfl e9 (by show 2+6<=14;omega) (by simp[vCs,EV.V,u6,Value.oneCell']) λw10 aA t=>?_
 have j:Below w.heap.size w w10:=aK (g.bel.trans (H.mono g.bel.size)) t oo;have S:RB w10 a 91 c (evB e):=RV.oth3 (RV.below g.rb H oA) b t oo
 have q:ET w w10 a c e [iv e.o,u6 e.s,u6 e.d0,u6 e.d1,u6 e.d2,u6 e.d3,u6 e.d4,u6 e.d5,kv8 0,u6 0,iv 0,iv 0,u6 0,u6 0] 9:=⟨t.blk (ae H g.bb g.bb.lt) oo,aA,t.blk (ae H g.bn g.bn.lt) oo,S,b,j⟩
 refine TJ (lK (v:=ci ((9:Nat):Int)) q.bn rfl (aY oo oo (dw kf q.bn oB rfl λay au u=>?_)));have aa:ET w ay a c e [iv e.o,u6 e.s,u6 e.d0,u6 e.d1,u6 e.d2,u6 e.d3,u6 e.d4,u6 e.d5,kv8 0,u6 0,iv 0,iv 0,u6 0,u6 0] 57:=⟨u.blk q.bb oo,u.blk q.be oo,au,RV.oth3 S b u oo,b,aK j u oo⟩
 have pl:∀{r:List (Nat×Nat)},(fj ((e.o.toNat,1)::(e.s.toNat,8)::kL e.V++r)).length=57+(fj r).length:=λ{r} => by
  rw[HH,oT];simp[fj,kL,EV.V,bV]
 refine OJ 8 1 aa rfl (.inl rfl) oo oo rfl (by simp[FN,kL,EV.V,fj,bV]) (pos':=58) rfl λaF ab=>dP underlying32 underlying5 ?_;rw[show IntKind.u8.wrap e.k=e.k by rw[Qv];omega];refine OJ 9 8 ab rfl (.inr rfl) n0 oo rfl (by simp[FN,kL,EV.V,fj,bV]) (pos':=66) rfl λaG ad=>?_
 refine OJ 10 1 ad rfl (.inl rfl) ht.1 oo rfl (by simp[FN,kL,EV.V,fj,bV]) (pos':=67) rfl λaH af=>zdH underlying3 ht.1 oo ?_;refine DE (OL (f:=8) af kf oB rfl λaJ ag=>qo (OL (f:=9) ag kf oB rfl λaL ah=>yD (OL (f:=10) ah kf oB rfl λaM ai=>?_)))
 refine OJ 11 8 ai rfl (.inr rfl) ha.1 oo rfl (by simp[FN,kL,EV.V,fj,bV]) (pos':=75) rfl λaN aj=>zdH underlying2 ha.1 oo ?_;refine OJ 12 8 aj rfl (.inr rfl) r0 oo rfl (by simp[FN,kL,EV.V,fj,bV]) (pos':=83) rfl λaO ak=>?_;refine OJ 13 8 ak rfl (.inr rfl) f0 oo rfl (by simp[FN,kL,EV.V,fj,bV]) (pos':=91) rfl λaP al=>?_
 refine tf (OL (f:=11) al kf oB rfl λaQ am=>wQ (OL (f:=12) am kf oB rfl λaR an=>DH (OL (f:=13) an kf oB rfl λaz p=>?_)));have D:blk az (w.heap.size+1) 49 (evC e):=p.be;refine TL (bo (dL oB (dN D (Fi λaS A=>bH (bG oB ?_)))));rw[E];have P:=ae A D D.lt
 have L:=ae A p.bn p.bn.lt;have B:=p.bel.trans (A.mono p.bel.size);refine aD (ax (λy=>blk y (w.heap.size+1) 49 (evC e)/\blk y (w.heap.size+2) 3 [ci ((91:Nat):Int)]) ⟨P.drew,L.drew⟩ ?_);refine ac (v:=evV e) (λy d _ C=>dN d.1 C) (ac (v:=ci ((91:Nat):Int)) (λy d _ C=>lK d.2 rfl C) ?_);refine fG (e':=e) P.drew λaT R N=>?_
 have M:=N.blk L.drew oo;refine aI ⟨R,M⟩ (dw kf M oB rfl λw26 av O=>?_);have aw:=O.blk R oo;have Z:Below w.heap.size w w26:=aK (aK B.drew N oo) O oo;exact ax (λ_=>True) trivial (ziA (v:=evV e) (v2:=ci 91) (λ_ C=>dN aw C) (λ_ C=>lK (v:=ci 91) av rfl C) (h _ Z))
end
end
def Ga(l2 t9 t10 t11:oF)(zf:oD):=zf 0::zf 1::l2::zT zf 3 6 (t9::t10::t11::zT zf 12 23 ([]))
def Gb(l2:oF)(zf:oD):=zf 0::zf 1::l2::zT zf 3 32 ([])
def ln(K:KV):KE:=kZ f22 [1,1] K
def vp(K:KV):KE:=aj Q (cd f22 [1,0,1,0]) (ln K) (xx xf (ln K) 0) (rk f22 K)
section
variable {K:KV}{l2 t9 t10 t11:oF}  
def QG{K:KV}(h:lN 97 H (λa=>vp K (Ga cN H a (ci 0) (zV (zV zu 0 [H]) 3 [cF]))) w):Gives Q 22 #[H] w K:=aw func22 kr (mpK h)
def NO(Inv:oF->oF->oG->Prop)(μ:oF->oF->oG->Nat)(n:Inv l2 t11 w)(p:∀(b a:oF) (l:oD) (w:oG) (m:Nat),Inv b a w->m=μ b a w ->
  lS a t10 (λc w=>cond c (bv Q 97 t9 a (λc=>ld Q 87 c λc=>call Q 42 #[c,ci 0] λd=>ext Q d 0 λe=>ext Q d 1 λf=>ext Q d 2 λd=>alc Q 49 λg=>sto Q 49 g e λ_=>bT .neq 28 d (ci 0) λd w=>aT d false (λg=>lN 87 c (λa=>bF .neq 3 f a λb=>g [f,c,a,b]) w) (λk=>k [uu,uu,uu,uu] w) λe=>pick d cT (gd e 3) λc w=>cond c (K (.tuple #[cN,cF]) w) (ld Q 49 g (λc=>cH Q 100 1 #[(0,c)] λi=>blt Q .append #[100,100] 100 #[false,false] #[b,i] λb=>nC a λa w=>(Inv b a w)/\((μ b a w)<m)) w)) w) (ln K (Gb b (zV l 9 [t9,t10,a,c])) w)) w):vp K (Ga l2 t9 t10 t11 zf) w:=by refine aZ (cd f22 (b1 52)) (zr [(2,2),(5,4),(11,23)]) kr (vP [2,11] Inv) (vQ [2,11] μ) n ?_;intro f q o;have h:=p _ _ (zM zf (gd f) (zr [(2,2),(5,4),(11,23)])) q _ o rfl;revert h;generalize (ln K)=qc0;exact mpF
def NP(h:K (.tuple #[l2,cT]) w):ln K (Gb l2 zf) w:=mpK h
end
attribute [irreducible] ln vp
def Lc(r8 e9 j10 JP:oF)(zf:oD):=zT zf 0 8 (r8::e9::j10::JP::zT zf 12 39 ([]))
def Ld(n0 i1 d2:oF)(zf:oD):=n0::i1::d2::zT zf 3 48 ([])
def zw(K:KV):KE:=aj Q (cd f14 (b1 63)) (rk f14 K) xf (rk f14 K)
abbrev Nu(K:KV)(hA0:KE)(n0 i1 d2:oF)(w:oG):Prop :=
  bT .eql 66 d2 (.pointer none) (λa w=>cond a (K (.tuple #[.pointer none,ci 2]) w) (call Q 20 #[n0,i1] (λb=>ext Q b 0 λc=>ext Q b 1 λd=>bT .neq 28 d (ci 0) λe w=>cond e (K (.tuple #[.pointer none,d]) w) (call Q 21 #[d2] (λf=>ext Q f 0 λg=>ext Q f 1 λh=>ext Q f 2 λi=>hA0 (Lc c i g h (zV (zV (zV (zV zu 0 [n0,i1,d2]) 6 [.pointer none,ci 0]) 14 [d2,a,b,n0,i1,b,c,d,d,e]) 25 [f,d2,f,g,h,i]))) w)) w)) w
section
variable {K:KV}{n0 i1 d2 r8 e9 j10 JP:oF}  
def X7{K:KV}(a:Code)(h:Nu K (aj Q a (rk f14 K) (λ_ _ _=>False) (rk f14 K)) U H Z w):aj Q (rep (b1 63) a (cd f14 [])) (rk f14 K) xf (rk f14 K) (Ld U H Z zu) w:=Eq.mp kr h
def Vb{K:KV}(h:Nu K (zw K) U H Z w):Gives Q 14 #[U,H,Z] w K:=aw func14 kr (Eq.mp (qH (λc=>aj Q c (rk f14 K) xf (rk f14 K) (Ld U H Z zu) w) (by kernel_rfl:(rep (b1 63) (cd f14 (b1 63)) (cd f14 []))=(cd f14 []))) (X7 (cd f14 (b1 63)) h))
def RC(h:bT .neq 28 e9 (ci 0) (λa w=>cond a (K (.tuple #[.pointer none,e9]) w) (call Q 22 #[JP] (λa=>ext Q a 0 λb=>ext Q a 1 λa=>un Q .not a λa w=>aT a false (λc=>call Q 23 #[r8,b] (λa=>bT .neq 28 a (ci 0) λd=>c [r8,b,a,d]) w) (λk=>k [uu,uu,uu,uu] w) λb=>pick a cT (gd b 3) λe w=>cond e (K (.tuple #[.pointer none,ci 5]) w) (bld Q 105 #[(0,r8),(1,j10)] (λf=>box Q 105 f λa=>K (.tuple #[a,ci 0])) w)) w)) w):zw K (Lc r8 e9 j10 JP zf) w:=mpK h
end
attribute [irreducible] zw
def HG{K:KV}(h:bT .eql 67 H (.pointer none) (λa w=>cond a (K (ci 2) w) (bj H (λa=>aq Q 105 a 2 λa=>ld Q 4 a λa w=>cond a (K (ci 8) w) (bS Q Z #[] K w)) w)) w):Gives Q 185 #[H,Z] w K:=aw func185 kr (mpK h)
def Ah(u_0 yQ t12 t13 t14:oF)(zf:oD):=u_0::zT zf 1 4 (yQ::zT zf 6 6 (t12::t13::t14::zT zf 15 21 ([])))
def Ai(u_0 yQ:oF)(zf:oD):=u_0::zT zf 1 4 (yQ::zT zf 6 30 ([]))
def gy(K:KV):KE:=kZ f188 [1,1,1,1] K
def qd(K:KV):KE:=aj Q (cd f188 (b1 122)) (gy K) (xx xf (gy K) 0) (rk f188 K)
section
variable {K:KV}{u_0 yQ t12 t13 t14:oF}  
def Jj{K:KV}(h:lN 100 H (λa=>bT .eql 3 a (ci 0) λb w=>cond b (K (ci 0) w) (lN 100 H (λc=>qd K (Ah Z cN H c (ci 0) (zV (zV (zV zu 1 [H]) 4 [ci 0]) 9 [H,a,b]))) w)) w):Gives Q 188 #[Z,H] w K:=aw func188 kr (mpK h)
def Gy(Inv:oF->oF->oG->Prop)(μ:oF->oF->oG->Nat)(i:Inv yQ t14 w)(k:∀(a b:oF) (g:oD) (w:oG) (m:Nat),Inv a b w->m=μ a b w ->
  lS b t13 (λc w=>cond c (bv Q 100 t12 b (λc=>ld Q 49 c λc=>alc Q 49 λd=>sto Q 49 d c λ_=>ld Q 49 d λc=>call Q 206 #[c] λc=>cH Q 97 1 #[(0,c)] λc=>blt Q .append #[97,97] 97 #[false,false] #[a,c] λd=>nC b λa w=>(Inv d a w)/\((μ d a w)<m)) w) (gy K (Ai u_0 a (zV g 12 [t12,t13,b,c])) w)) w):qd K (Ah u_0 yQ t12 t13 t14 zf) w:=by refine aZ (cd f188 (b1 244)) (zr [(5,1),(7,1),(14,10)]) kr (vP [5,14] Inv) (vQ [5,14] μ) i ?_;intro e l j;have h:=k _ _ (zM zf (gd e) (zr [(5,1),(7,1),(14,10)])) l _ j rfl;revert h;generalize (gy K)=qc0;exact mpF
def Gz(h:bj u_0 (λa=>aq Q 105 a 1 λa=>ld Q 96 a λa=>call Q 207 #[a,yQ] λa=>bT .neq 28 a (ci 0) λb=>bj u_0 λc=>aq Q 105 c 2 λc=>sto Q 4 c b λ_=>K a) w):gy K (Ai u_0 yQ zf) w:=mpK h
end
attribute [irreducible] gy qd
def Lb{K:KV}(h:box Q 67 U (λb=>box Q 42 H λc=>box Q 32 Z λa=>alc Q 49 λd=>ld Q 67 b λe=>call Q 185 #[e,.func (.func 186) #[] #[b,c,a,d]] λa=>ld Q 49 d λb=>sto Q 49 d b λ_=>bA Q [(some 49,d),(none,a)] K) w):Gives Q 174 #[U,H,Z] w K:=aw func174 kr (mpK h)
def ks(t3 e4 x5 t25:oF)(zf:oD):=zT zf 0 3 (t3::e4::x5::zT zf 6 19 (t25::zf 26::zf 27::[]))
def tZ(e4:oF)(zf:oD):=zT zf 0 4 (e4::zT zf 5 23 ([]))
def gx(K:KV):KE:=kZ f186 [1,1,1,1] K
def fk(K:KV):KE:=aj Q (cd f186 (b1 123)) (gx K) xf (rk f186 K)
section
variable {K:KV}{t3 e4 x5 t25:oF}  
def Jh{K:KV}(h:aL (λS w=>hL S 67 H λb=>hN S b λc=>hF S 105 c 0 λd=>hL S 93 d λe=>hL S 42 Z λf=>hL S 32 U λg=>(call Q 187 #[e,f,g] (λh=>aL λS w=>hld S (ext Q h 0) λi=>hld S (ext Q h 1) λj=>alc Q 49 (λk=>bw S λS=>sto Q 49 k i λ_=>bw S λ_=>ld Q 49 k λl=>bld Q 49 #[] λm=>bF .eql 49 l m λn w=>cond n (K j w) (ld Q 67 H (λo=>ld Q 49 k λp=>cH Q 100 1 #[(0,p)] λa=>call Q 188 #[o,a] λr=>bT .eql 28 r (ci 0) λs=>fk K (ks Y r k s (zV (zV (zV zu 0 [H,Z,U]) 6 [h,b,c,d,e,f,g,h,i,j,l,m,n]) 20 [o,p,a,r,r]))) w)) w) w)/\(alc Q 49 (λh=>bw S λ_=>call Q 187 #[e,f,g] λi=>aL λS w=>hld S (ext Q i 0) λj=>hld S (ext Q i 1) λk=>sto Q 49 h j (λ_=>bw S λ_=>ld Q 49 h λl=>bld Q 49 #[] λm=>bF .eql 49 l m λn w=>cond n (K k w) (ld Q 67 H (λo=>ld Q 49 h λp=>cH Q 100 1 #[(0,p)] λa=>call Q 188 #[o,a] λr=>bT .eql 28 r (ci 0) λs=>fk K (ks Y r h s (zV (zV (zV zu 0 [H,Z,U]) 6 [i,b,c,d,e,f,g,i,j,k,l,m,n]) 20 [o,p,a,r,r]))) w)) w) w)) w.drew):Gives Q 186 #[H,Z,U,Y] w K:=by refine aw func186 kr <|Eq.mp (qH (λc=>aj Q c _ _ _ _ w) (by kernel_rfl:(rep (b1 123) (cd f186 (b1 123)) (cd f186 []))=(cd f186 []))) ?_;revert h;delta fk gx;generalize (cd f186 (b1 123))=xc0;exact mpF
def Gw(h:cond t25 (ld Q 49 x5 (λa=>sto Q 49 t3 a λ_=>gx K (tZ e4 (zV (zV (zV zf 3 [t3]) 5 [x5]) 25 [t25,a]))) w) (gx K (tZ e4 (zV (zV (zV zf 3 [t3]) 5 [x5]) 25 [t25])) w)):fk K (ks t3 e4 x5 t25 zf) w:=by delta fk;revert h;generalize (gx K)=qc0;exact mpF
def xS(h:K e4 w):gx K (tZ e4 zf) w:=mpK h
end
attribute [irreducible] gx fk
def Ag{K:KV}(h:box Q 67 U (λb=>box Q 268 H λc=>box Q 32 Z λa=>ld Q 67 b λd=>call Q 185 #[d,.func (.func 195) #[] #[b,c,a]] K) w):Gives Q 178 #[U,H,Z] w K:=aw func178 kr (mpK h)
def xT{K:KV}(h:aL (λS w=>hL S 67 H λa=>hN S a λa=>hF S 105 a 0 λa=>hL S 93 a λa=>hL S 268 Z λb=>hL S 32 U λc=>call Q 196 #[a,b,c] (λa=>aL λS w=>hld S (ext Q a 0) λb=>hld S (ext Q a 1) λa=>bT .neq 28 a (ci 0) (λc w=>cond c (K a w) (ld Q 67 H (λa=>call Q 188 #[a,b] K) w)) w) w) w.drew):Gives Q 195 #[H,Z,U] w K:=aw func195 kr (mpK h)
def HF{K:KV}(h:alc Q 38 (λa=>bT .eql 67 H (.pointer none) λb w=>cond b (bld Q 38 #[] (λb=>sto Q 38 a b λ_=>bA Q [(some 38,a)] K) w) (bj H (λb=>aq Q 105 b 0 λb=>ld Q 93 b λb=>call Q 26 #[b] λb=>sto Q 38 a b λ_=>bA Q [(some 38,a)] K) w)) w):Gives Q 17 #[H] w K:=aw func17 kr (mpK h)
def Jg{K:KV}(h:bT .eql 67 H (.pointer none) (λb w=>aT b false (λb=>bj H (λa=>aq Q 105 a 2 λc=>ld Q 4 c λd=>b [H,a,c,d]) w) (λk=>k [uu,uu,uu,uu] w) λa=>pick b cT (gd a 3) K) w):Gives Q 25 #[H] w K:=aw func25 kr (mpK h)
def ya(r0 t10 t11 t12:oF)(zf:oD):=r0::zT zf 1 9 (t10::t11::t12::zT zf 13 10 ([]))
def yb(zf:oD):=zT zf 0 23 ([])
def fA(K:KV):KE:=kZ f23 [1,1,1] K
def pe(K:KV):KE:=aj Q (cd f23 (b1 58)) (fA K) (xx xf (fA K) 0) (rk f23 K)
section
variable {K:KV}{r0 t10 t11 t12:oF}  
def GN{K:KV}(h:bT .eql 93 Z (.pointer none) (λa w=>cond a (K (ci 2) w) (lN 100 H (λb=>pe K (ya Z H b (ci 0) (zV (zV (zV zu 1 [H]) 4 [ci 0]) 8 [Z,a]))) w)) w):Gives Q 23 #[Z,H] w K:=aw func23 kr (mpK h)
def Fk(Inv:oF->oG->Prop)(μ:oF->oG->Nat)(g:Inv t12 w)(j:∀(a:oF) (f:oD) (w:oG) (m:Nat),Inv a w->m=μ a w ->
  lS a t11 (λb w=>cond b (bv Q 100 t10 a (λb=>ld Q 49 b λb=>alc Q 49 λc=>sto Q 49 c b λ_=>ld Q 49 c λb=>call Q 43 #[r0,b] λb=>bT .neq 28 b (ci 0) λc w=>cond c (K b w) (nC a (λb w=>(Inv b w)/\((μ b w)<m)) w)) w) (fA K (yb (zV (zV f 0 [r0]) 10 [t10,t11,a,b])) w)) w):pe K (ya r0 t10 t11 t12 zf) w:=by refine aZ (cd f23 (b1 116)) (zr [(4,1),(6,2),(12,11)]) kr (vP [12] Inv) (vQ [12] μ) g ?_;intro e k i;have h:=j _ (zM zf (gd e) (zr [(4,1),(6,2),(12,11)])) k _ i rfl;revert h;generalize (fA K)=qc0;exact mpF
def Fl(h:K (ci 0) w):fA K (yb zf) w:=mpK h
end
attribute [irreducible] fA pe
section
open Go.ChangeMaps
def MB.nblk{kv:κ->oF}{vv:α->oF}{k:Nat}{M:List (κ×α)}{cs:oE}(h:MB kv vv w m M)(a:blk w k E cs):k≠m:=λe=>by
 obtain⟨d,c,b⟩:=h;unfold blk at a;rw[e,b.heap]at a;cases a
def RepW.ty{X:RpX}{s:RS}(h:RepW w i X s){k:Nat}{cs:oE}(c:blk w k E cs)(f:E∉[141,145,200,151,278]):k∉FF X:=λa=>by
 simp only[oO,oR,or_false,not_or]at f;obtain⟨l,m,n,o,p⟩:=f;have d:=h.rp.pm;rcases nB.1 a with a|rfl|a
 .rcases fZ.1 a with a|rfl|a|rfl|rfl
  .simp only[LB.wv,oO,oR,or_false]at a;obtain⟨y,r,_⟩:=d.tm.mp;obtain⟨z,t,_⟩:=d.pm;obtain⟨A,u,_⟩:=d.rm;obtain⟨B,v,_⟩:=d.gm;obtain⟨C,x,_⟩:=d.am;rcases a with a|a|a|a|a|a
   .exact c.ne d.b l a
   .exact r.nblk c a
   .exact t.nblk c a
   .exact u.nblk c a
   .exact v.nblk c a
   .exact x.nblk c a
  .exact c.ne h.rp.g.b m rfl
  .exact h.rp.g.ty c n a
  .exact h.rp.h.mb' c rfl
  .exact c.ne h.rp.e.b o rfl
 .exact h.dm.mb.nblk c rfl
 .obtain⟨j,q⟩:=h.dm.wlt a;exact c.ne q p rfl
structure DuX where
 X:RpX
 p:Nat
 q:Nat
 u:Nat
def DF(Y:DuX):List Nat:=FF Y.X++[Y.p,Y.q,Y.u]
def DA(Y:DuX):List Nat:=AF Y.X++[Y.p,Y.q,Y.u]
def rH{Y:DuX}{k:Nat}:k∈DF Y↔k∈FF Y.X\/k∈[Y.p,Y.q,Y.u]:=by simp[DF]
def qj{Y:DuX}{k:Nat}:k∈DA Y↔k∈AF Y.X\/k∈[Y.p,Y.q,Y.u]:=by simp[DA]
def Jx{X:RpX}{k:Nat}(h:k∈FF X):k∈AF X:=pG.2 (.inr (.inr (.inr (.inr h))))
def M9{Y:DuX}{k:Nat}(h:k∈DF Y):k∈DA Y:=(rH.1 h).elim (λh=>qj.2 (.inl (Jx h))) λh=>qj.2 (.inr h)
abbrev iI(A:List EV):List (List UInt8):=A.map evB
structure DuM(w:oG) (i:Nat) (Y:DuX) (s:RS) (A:List EV) (fu:Int):Prop where
 b:blk w Y.u 105 [pB Y.X.R.p,pB Y.q,.bool false]
 rp:RepW w i Y.X s
 jk:JK w Y.p Y.q (aO (iI A)) fu
 xf:∀k∈[Y.p,Y.q,Y.u],k∉AF Y.X
structure DuS(w w':oG) (Y Y':DuX):Prop where
 ch:Ch (DF Y) w w'
 nf:∀k∈DF Y',k∈DF Y\/w.heap.size<=k
 na:∀k∈DA Y',k∈DA Y\/w.heap.size<=k
section
variable   {Y Y' Y2:DuX}{s s':RS}{A A':List EV}{fu':Int}{X':RpX}
def DuS.refl(a:Below w.heap.size w S):DuS w S Y Y:=⟨Ch.of_below a,λ_ h=>.inl h,λ_ h=>.inl h⟩
def DuS.trans(h:DuS w S Y Y')(k:DuS S O Y' Y2):DuS w O Y Y2 :=
 have c:=h.ch.size
 ⟨h.ch.trans k.ch h.nf,λx a=>(k.nf x a).elim (h.nf x) λb=>.inr oo,λx a=>(k.na x a).elim (h.na x) λb=>.inr oo⟩
def DuM.ltq(h:DuM w i Y s A fu):∀k∈[Y.p,Y.q,Y.u],k<w.heap.size:=by
 simp only[oO,oR,or_false];rintro k (rfl|rfl|rfl)
 .exact h.jk.1.lt
 .exact h.jk.2.lt
 .exact h.b.lt
def DuM.lt(h:DuM w i Y s A fu):∀k∈DA Y,k<w.heap.size:=λk a=>(qj.1 a).elim (h.rp.lt k) (h.ltq k)
def RepW.noBy(h:RepW w i Y.X s):Go.Proofs.YtgohpbmmcgenpaaGreatDoor.noBy w (FF Y.X):=λk E c b a=>h.ty b (by simp only[oO,oR,or_false]at a;rcases a with rfl|rfl|rfl<;>decide)
def DuS.add(h:DuS w S Y Y')(k:Below w.heap.size S O):DuS w O Y Y':=⟨h.ch.add k,h.nf,h.na⟩
def mp1{a:Nat}:a∈[a,b,c]:=by simp
def mp2{a:Nat}:b∈[a,b,c]:=by simp
def mp3{a:Nat}:c∈[a,b,c]:=by simp
def DuM.oth{cs:oE}(h:DuM w i Y s A fu)(o:Oth z w S)(g:z∉DA Y)(e:blk w z E cs)(d:E∉[5,3,165]):DuM S i Y s A fu:=by
 have c:Ch [z] w S:=Ch.of_oth o oB;have n:∀k∈DA Y,k∉[z]:=λk a f=>g (mS f ▸ a);have m:∀k∈[Y.p,Y.q,Y.u],k∉[z]:=λk a=>n k (qj.2 (.inr a));exact {h with
  b:=h.b.ch c (m _ mp3)
  rp:=h.rp.ch c λk a=>n k (qj.2 (.inl a))
  jk:=h.jk.ch c (noBy.of e d) (m _ mp1) (m _ mp2)}
def DuM.below(h:DuM w i Y s A fu)(a:Below w.heap.size w S):DuM S i Y s A fu :=
 {h with b:=ae a h.b h.b.lt,rp:=h.rp.below a,jk:=h.jk.below a}
def DuM.step(h:DuM w i Y s A fu)(c:StpX w S Y.X X')(g:RepW S i X' s'):DuM S i {Y with X:=X'} s' A fu/\DuS w S Y {Y with X:=X'}:=by
 have e:∀k∈[Y.p,Y.q,Y.u],k∉FF Y.X:=λk a d=>h.xf k a (Jx d);refine⟨⟨?_,g,h.jk.ch c.ch h.rp.noBy (e _ mp1) (e _ mp2),λk a f=>(c.af k f).elim (h.xf k a) λd=>by have:=h.ltq k a;omega⟩,c.ch.mono λk a=>rH.2 (.inl a),λk a=>?_,λk a=>?_⟩
 .have:=h.b.ch c.ch (e _ mp3)
  rw[<-c.R]at this;exact this
 .rcases rH.1 a with a|a
  .exact(c.new k a).imp (λd=>rH.2 (.inl d)) id
  .exact .inl (rH.2 (.inr a))
 .rcases qj.1 a with a|a
  .exact(c.af k a).imp (λd=>qj.2 (.inl d)) id
  .exact .inl (qj.2 (.inr a))
def DuM.jrn(h:DuM w i Y s A fu)(a:Ch [Y.p,Y.q] w S)(g:JK S Y.p Y.q (aO (iI A')) fu'):DuM S i Y s A' fu'/\DuS w S Y Y:=by
 have m:∀k∈[Y.p,Y.q],k∈[Y.p,Y.q,Y.u]:=by simp_all
 refine⟨⟨h.b.ch a λc=>?_,h.rp.ch a λk d c=>h.xf k (m k c) d,g,h.xf⟩,a.mono λk d=>rH.2 (.inr (m k d)),λ_ h=>.inl h,λ_ h=>.inl h⟩;obtain⟨j,f⟩:=h.jk.1.blk;rcases oO.1 c with e|e
 .exact h.b.ne f dc e
 .exact h.b.ne h.jk.2 dc (mS e)
def DuM.die(h:DuM w i Y s A fu)(o:Oth Y.u w S)(e:blk S Y.u 105 [pB Y.X.R.p,pB Y.q,.bool false]):DuM S i Y s A fu/\DuS w S Y Y:=by
 have c:Ch [Y.u] w S:=Ch.of_oth o oB;obtain⟨g,f⟩:=h.jk.1.blk
 exact⟨{h with b:=e,rp:=h.rp.ch c λk d a=>h.xf _ mp3 (mS a ▸ d),jk:=h.jk.ch c (noBy.of h.b dc) (λa=>f.ne h.b dc (mS a)) λa=>h.jk.2.ne h.b dc (mS a)},c.mono λk d=>rH.2 (.inr (mS d ▸ mp3)),λ_ h=>.inl h,λ_ h=>.inl h⟩
structure DnM(w:oG) (p u:Nat) (A L:List EV):Prop where
 dk:∃z,DK w p ⟨aO (iI A),if L=[]then .no else .app (aO (iI L)),true,z⟩
 b:∃r q d,blk w u 105 [pB r,pB q,.bool d]
def DnM.ne{p u:Nat}{L:List EV}(h:DnM w p u A L):p≠u:=λe=>by
 obtain⟨_,f⟩:=h.dk;obtain⟨g,c⟩:=f.blk;obtain⟨r,q,d,a⟩:=h.b;exact c.ne a dc e
def DnM.ch{F:List Nat}{p u:Nat}{L:List EV}(h:DnM w p u A L)(a:Ch F w S)(f:noBy w F)(g:p∉F)(i:u∉F):DnM S p u A L :=
 ⟨by obtain⟨z,e⟩:=h.dk;exact⟨z,e.ch a f g⟩,by obtain⟨r,q,d,c⟩:=h.b;exact⟨r,q,d,c.ch a i⟩⟩
def DuM.dn(h:DuM w i Y s A fu)(a:DK S Y.p ⟨aO (iI A),.no,true, -1⟩)(o:Oth Y.p w S):DnM S Y.p Y.u A []:=by obtain⟨d,c⟩:=h.jk.1.blk;exact⟨⟨-1,by simpa using a⟩,_,_,_,o.blk h.b λe=>h.b.ne c dc e⟩
end
end
section
attribute [local irreducible] bin un conv call bS blt slc aq fld bv idx lkp fJ nl eSt rng nxt ent ext alc box bld cH ld sto bj fK mkS ifc pick rdy wts aT sti cond bA Gives aj iK kH cOp
section
open Go.ChangeMaps
def zcB{B n:Nat}{L:List EV}(h:w.ownsRow B 49 14 (.slice a n c) n (L.flatMap evC))(f:L.length=n):VR w a n c L:=by
 refine⟨f,λr=>?_,λi x q b o k j u p=>?_⟩
 .obtain⟨g,d,e,_⟩:=iM h r;exact⟨g,0,e⟩
 .have v:i<n:=by rw[<-f];exact(gS q).1
  obtain⟨g,d,e,m⟩:=iM h oo;rw[e]at k;cases k;have s:=m.elem (enc:=evC) (λx=>(rfl:(evC x).length=14)) f q;have t:j<14:=(gS p).1;rw[m.blk.cell,oK]
  have:=qH (λl=>l[j]?) s
  simp only[List.getElem?_take,jM]at this;rw[oJ t]at this;rw[this];exact p
def RB.blt{n:Nat}{l:List UInt8}(h:RB w a n c l)(hi:i<n):(rV a i).block<w.heap.size:=by have b:=RV.len h;exact jZ w _ (RV.cell h i _ (gE oo))
def HL{K:KV}(h:K (pA b (o+0)) w):aq Q 105 (pA b o) 0 K w:=aQ kr h
def zdQ{K:KV}(h:K (pA b (o+1)) w):aq Q 105 (pA b o) 1 K w:=aQ kr h
def Mp{K:KV}(h:K (pA b (o+2)) w):aq Q 105 (pA b o) 2 K w:=aQ kr h
section
variable  {K:KV}  {X:RpX}{s:RS}
def zcW{n:Nat}{L:List EV}(h:RepW w i X s)(V:PI s.l)(hA:s.A.length+L.length<=999000)(r:okL eff OK s.l L)(B:VR w a n c L)(D:∀b o,a=some ⟨b,o,none⟩->b∉FF X)(S:∀w' d,StpX w w' X {X with Rw:=d}->RepW w' i {X with Rw:=d} ⟨je eff s.l L,s.A++L,s.P⟩->K (ci 0) w'):call Q 23 #[pB X.R.p,.slice a n c] K w:=by
 have hl:=B.len;refine ao (goK func23) (GN (Lf (aD (bM underlying100 ?_))));refine Fk (Inv:=λj N=>∃(k:Nat) (d:List jc),j=ci k/\k<=n/\StpX w N X {X with Rw:=d}/\RepW N i {X with Rw:=d} ⟨je eff s.l (L.take k),s.A++L.take k,s.P⟩) (μ:=λj _=>n-(intOf j).toNat)
  ⟨0,X.Rw,rfl,qG _,.refl (jT _ _),by simpa[je]using h⟩ ?_
 rintro _ dd H m ⟨k,v,rfl,hk,g,G⟩ U;refine aW ?_;by_cases y:k<n
 .have E:L[k]? = some L[k]:=gE oo;have u:L.take (k+1)=L.take k++[L[k]]:=by rw[List.take_add_one,E];rfl
  have t:L=L.take k++L[k]::L.drop (k+1):=by rw[<-List.drop_eq_getElem_cons oo,List.take_append_drop]
  generalize L[k]=x at E u t;rw[t]at r;obtain⟨F,f,_⟩:=BW.1 r;have J:PI (je eff s.l (L.take k)):=ledger_sys.invs V F;obtain⟨b,o,T⟩:=B.some_ oo;have C:=B.ch g.ch D;subst T;refine aG oo (gO underlying100 (s:=14) kf oo oo ?_);rw[oQ]
  refine zb5 C rfl E (jj λw2 z2 O s2=>fG (e':=x) z2 λw3 z3 Z=>dN z3 ?_);have q:Below H.heap.size H w3:=aK O Z oA;have M:=G.below q;have z:(L.take k).length=k:=by rw[qA];omega
  refine YY (e:=x) M.rp J f.rdy ((qn J).2 f) (by show (((s.A++L.take k).length:Nat):Int)<1000000;rw[oT,z];omega) λw4 d r4 I Y W=>bo (aB oB ?_);refine aY oo oo ⟨⟨k+1,d,qH ci (by push_cast;rfl),y,(g.trans (.refl q)).trans (.rw I Y),?_⟩,by rw[U];show n-((k:Int)+1).toNat<n-(k:Int).toNat;omega⟩
  have:=M.add (vg f.may).1 r4 I W
  rw[u,BI, <-jD];exact this
 .obtain rfl:k=n:=by omega
  rw[tL oo]at G;exact aB oo (Fl (S H v g G))
def zbX{A:List EV}{n:Nat}{vs:List (Option Addr×Nat×Nat)}(P:RBB w a n c vs (iI A))(hm:∀e∈A,dI e=true/\vC e)(hn:n<=999000)(h:∀w' ra rc,w'.ownsRow w.heap.size 49 14 (.slice ra n rc) n (A.flatMap evC)->Below w.heap.size w w'->K (.tuple #[.slice ra n rc,cT]) w'):call Q 22 #[.slice a n c] K w:=by
 have hl:A.length=n:=by have:=P.lenL;simpa[iI]using this
 refine ao (goK func22) (QG (bM underlying97 ?_));refine NO (Inv:=λl j V=>∃(k:Nat) (ra:Option Addr) (rc:Nat),j=ci k/\k<=n/\l=.slice ra k rc/\V.ownsRow w.heap.size 49 14 (.slice ra k rc) k ((A.take k).flatMap evC)/\Below w.heap.size w V) (μ:=λ_ j _=>n-(intOf j).toNat)
  ⟨0,none,0,rfl,qG _,rfl,World.ownsRow_nil _ _ _ _,jT _ _⟩ ?_
 rintro _ _ dd w1 m ⟨k,ra,rc,rfl,t,rfl,d,r⟩ F;refine aW ?_;by_cases D:k<n
 .have I:A[k]? = some A[k]:=gE oo;have o:A.take (k+1)=A.take k++[A[k]]:=by rw[List.take_add_one,I];rfl
  obtain⟨S,T⟩:=hm A[k] (List.getElem_mem _);generalize A[k]=x at I o S T;have G:=P.below r oA;refine aG oo (zfi G oo oo λv l R b g L=>zi3 g ?_);have E:l=evB x:=by
   rw[oQ]at b;unfold iI at b;rw[qC,I]at b;exact(Option.some.inj b).symm
  subst E;have p:=L.len;rw[Vh]at p;obtain⟨va,vn,vc⟩:=v;obtain rfl:91=vn:=p;refine zdL S T L (λi a=>L.blt a) λU N=>TQ (TR (TS (jj λw3 z3 X s3=>fG (e':=x) z3 λw4 z4 o4=>bo (dL oB (wY (bo (bG oB (aB oB ?_))))))));have y:Below U.heap.size U w4:=aK X o4 oA;have f:=N.trans (y.mono N.size);have s1:=r.size;have aa:=f.size
  refine dN z4 (qb [evV x] underlying100 (s:=14) kr kr oo rfl oB dc rfl (by
   intro v R;rw[mS R];rfl) λw5 z O s5=>?_)
  have z:blk w5 w4.heap.size 49 (evC x):=by simpa[Value.cells,evV]using z
  have q:=dl d (w':=w4) λk t=>f.block k (jS d k t).2;have M:=dl q λk t=>O.block k (jS q k t).2;obtain⟨ii,C,J,H,B⟩:=info_parts Vt;refine zc (enc:=evC) (x:=x) underlying100 C J H B rfl oo (λ_=>rfl) M z (Dz _) oo oo oo λW Z w6 r6 g6 Y k6=>?_
  have u:Below w.heap.size w w6:=((r.trans (f.mono s1)).trans (O.mono oo)).trans (Y.mono oo);refine aY oo oo ⟨⟨k+1,W,Z,qH ci (by push_cast;rfl),D,rfl,by rw[o];exact r6,u⟩,by rw[F];show n-((k:Int)+1).toNat<n-(k:Int).toNat;omega⟩
 .obtain rfl:k=n:=by omega
  rw[tL oo]at d;exact aB oo (NP (h w1 ra rc d r))
end
section
variable  {K:KV}  {Y:DuX}{s:RS}{A:List EV} 
def Vm(A:List EV):okR (iI A):=λs a=>by
 obtain⟨e,_,rfl⟩:=qT.1 a;rw[Vh];decide
def zaD:∀A:List EV,FV (iI A)=91*A.length
 | []=>rfl
 | e::A=>by
  have:=zaD A
  unfold iI at *;rw[jK,FV,this,Vh,oZ];omega
def zc7(A:List EV):(aO (iI A)).length=99*A.length:=by rw[Ko,zaD];unfold iI;rw[oY];omega
def U9{n:Nat}{L:List EV}(h:DuM w i Y s A fu)(D:VR w a n c L)(hm:∀e∈L,dI e=true/\vC e)(aa:A.length+L.length<=40000)(J:∀w' fu',(fu = -1->fu' = -1)->DuM w' i Y s (A++L) fu'->DuS w w' Y Y->K (ci 0) w')(h8:∀w',fu≠-1->L≠[]->DnM w' Y.p Y.u A L->Ch (DF Y) w w'->K (ci 8) w'):call Q 188 #[pB Y.u,.slice a n c] K w:=by
 have hl:=D.len;refine ao (goK func188) (Jj (bM underlying100 (aU ?_)));by_cases h0:n=0
 .have B:L=[]:=List.eq_nil_of_length_eq_zero oo;subst B;rw[oW]at J;exact aG oo (J w fu id h (.refl (jT _ _)))
 have B:L≠[]:=λe=>h0 (by rw[<-hl,e];rfl);refine aB oo (bM underlying100 ?_);refine Gy (Inv:=λl j a=>∃(k:Nat) (T:Option Addr) (U:Nat) (vs:List (Option Addr×Nat×Nat)),j=ci k/\k<=n/\l=.slice T k U/\OBB a w.heap.size T k U vs (iI (L.take k))/\Below w.heap.size w a) (μ:=λ_ j _=>n-(intOf j).toNat)
  ⟨0,none,0,[],rfl,qG _,rfl,⟨OV.nil _ _ _,rfl,λi v l D=>by simp at D⟩,jT _ _⟩ ?_
 rintro _ _ dd H m ⟨k,T,U,vs,rfl,d,rfl,g,y⟩ O;refine aW ?_;by_cases N:k<n
 .have S:L[k]? = some L[k]:=gE oo;have C:L.take (k+1)=L.take k++[L[k]]:=by rw[List.take_add_one,S];rfl
  obtain⟨m1,m2⟩:=hm L[k] (List.getElem_mem _);generalize L[k]=x at S C m1 m2;obtain⟨b,o,ha⟩:=D.some_ oo;have P:=D.bel y oA;subst ha;refine aG oo (gO underlying100 (s:=14) kf oo oo ?_);rw[oQ];refine zb5 P rfl S (jj λW z2 F s2=>fG (e':=x) z2 λw3 t E=>dN t ?_)
  have z:Below H.heap.size H w3:=aK F E oA;have s1:=y.size;have V:=z.size;refine zfV m1 m2 λw4 Z n4 c4 o4 b4=>?_;have s4:=b4.size;refine zf5 (v:=(Z,n4,c4)) λw5 b5 r5 s5=>?_;have f:Below H.heap.size H w5:=(z.trans (b4.mono V)).trans (b5.mono oo)
  refine zcI w.heap.size (v:=(Z,n4,c4)) (l:=evB x) (g.below f oA) r5 (OV.mono (OV.below o4 b5 oA) oo) oo oo λa6 c6 w6 o6 g6=>?_;have I:Below w.heap.size w w6:=(y.trans (f.mono s1)).grown g6 (by have:=f.size;omega) λk d=>(OV.block (g.below f oA).row k d).1
  refine aY oo oo ⟨⟨k+1,a6,c6,_,qH ci (by push_cast;rfl),N,rfl,by unfold iI at *; rw[C,jJ];exact o6,I⟩,by rw[O];show n-((k:Int)+1).toNat<n-(k:Int).toNat;omega⟩
 .obtain rfl:k=n:=by omega
  rw[tL oo]at g;have r:=h.below y;refine aB oo (Gz (au (zdQ (lK (v:=pB Y.q) r.b rfl ?_))));refine ziY r.jk g.rbb (by simpa using B) (Vm L) (by rw[zc7,zc7];omega) (λW n0 n1 j2 G=>?_) λW d2 n2 G=>?_
  .rw[<-xF, <-jJ]at j2;obtain⟨h2,t2⟩:=r.jrn G j2;refine bo (au (Mp (dw kf h2.b oB rfl λw3 t E=>?_)));obtain⟨h3,t3⟩:=h2.die E t;exact J w3 _ (λe=>by rw[e];rfl) h3 (((DuS.refl y).trans t2).trans t3)
  .have hu:∀k∈[Y.p,Y.q],k≠Y.u:=by
    obtain⟨ds,hd⟩:=r.jk.1.blk;intro k d;rcases oO.1 d with rfl|d
    .exact λe=>hd.ne r.b dc e
    .rw[mS d];exact λe=>r.jk.2.ne r.b dc e
   have F:=r.b.ch G λM=>hu _ M rfl;refine bo (au (Mp (dw kf F oB rfl λw3 t E=>?_)));have t:blk w3 Y.u 105 [pB Y.X.R.p,pB Y.q,.bool true]:=t;have c3:Ch [Y.u] W w3:=Ch.of_oth E oB;have d3:=d2.ch c3 (noBy.of F dc) (λM=>hu _ oB (mS M))
   refine h8 w3 n2 B ⟨⟨-1,by rw[oI B];exact d3⟩,_,_,_,t⟩ (((Ch.of_below y).trans (G.mono λk d=>?_) λ_ h=>.inl h).trans (c3.mono λk d=>?_) λ_ h=>.inl h)
   .exact rH.2 (.inr (by simp only[oO,oR,or_false]at d |-; exact d.imp id .inl))
   .exact rH.2 (.inr (by rw[mS d];exact mp3))
end
end
def Ak(x:AK):Prop:=(0<=x.n/\x.n<M64)/\(0<=x.r/\x.r<M64)/\(0<=x.f/\x.f<M64)
structure DuI(n i:Nat) (s:RS) (W:HM):Prop where
 pi:PI s.l
 hk:HK s.l.V W
 ok:okL eff OK (pl0 n) s.A
 st:s.l=je eff (pl0 n) s.A
 ft:∀e∈s.A,vC e
 fw:∀p∈W,vC p.2
 nw:∀p∈W,p.2.q≠i
def VM{E:List EV}:∀{l:PL},okL eff OK l E->∀e∈E,dI e=true:=by
 induction E with
 | nil=>intro l _ e a;cases a
 | cons x E ih=>intro l h e a;exact(oO.1 a).elim (λb=>b ▸ h.1.may) (ih h.2 e)
def Nd{V:List Int}:∀{L:List EV} {W:HM},∀p∈nM V W L,p∈W\/p.2∈L/\V.getD p.2.q 0<p.2.s
 | [],_,p,hp=>.inl hp
 | e::L,W,p,hp=>by
  rcases Nd (L:=L) (W:=Px V W e) p hp with h|h
  .unfold Px at h;split at h
   .rename_i b;rcases oU.1 h with h|h
    .exact .inl h
    .have a:=mS h
     have : ¬e.s<=V.getD e.q 0:=λc=>by have:=(JL b.1).2 c;rw[b.2.1]at this;cases this
     rw[a];exact .inr ⟨by simp,by show V.getD e.q 0<e.s;omega⟩
   .exact .inl h
  .exact .inr ⟨oH _ h.1,h.2⟩
section
variable {n:Nat}{s:RS}{W W':HM}{l':PL}{F L:List EV}{P':List (List Int)}
def DG.sub{l:PL}(h:DG l W l' W' F):∀p∈W',p∈W:=by
 induction h with
 | nil=>exact λ_ h=>h
 | snoc h hn ih=>exact λp a=>ih p (zC.1 a).1
def DuI.hear(h:DuI n i s W)(hL:∀e∈L,vC e/\(e.q=i->e.s<=s.l.V.getD i 0))(f:DG s.l (nM s.l.V W L) l' W' F):DuI n i ⟨l',s.A++F,P'⟩ W':=by
 obtain⟨g,j,t,k,m,o⟩:=f.inv h.pi h.hk.puts;have b:∀p∈nM s.l.V W L,vC p.2/\p.2.q≠i:=λp a=>by
  rcases Nd p a with c|⟨c,r⟩
  .exact⟨h.fw p c,h.nw p c⟩
  .exact⟨(hL _ c).1,λe=>by have:=(hL _ c).2 e;rw[e]at r;omega⟩
 refine⟨g,j,BW.2 ⟨h.ok,?_⟩,?_,λe d=>?_,λp a=>(b p (f.sub p a)).1,λp a=>(b p (f.sub p a)).2⟩
 .rw[<-h.st];exact k
 .show l'=je eff (pl0 n) (s.A++F);rw[BI, <-h.st];exact m
 .rcases oU.1 d with d|d
  .exact h.ft e d
  .obtain⟨_,p,a,rfl⟩:=o e d;exact(b p a).1
def DZ{l:PL}{x:AK}(a:PI l)(b:Ak x):vC (mkP i l x):=by
 refine⟨λv d=>?_,b.1,b.2.1,b.2.2⟩;have e:(mkP i l x).V=l.V:=zfn a.v6;rw[e]at d;obtain⟨k,c,rfl⟩:=List.mem_iff_getElem.1 d
 have:=(a.vb k (by rw[<-a.v6];exact c)).1
 rwa[oN,gE c]at this
def DuI.make{x:AK}(h:DuI n i s W)(g:Ak x)(f:eC (mkP i s.l x) s.l=0):DuI n i ⟨eff (mkP i s.l x) s.l,s.A++[mkP i s.l x],P'⟩ W:=by
 have a:=(qn h.pi).1 f;refine⟨h.pi.eff a,⟨h.hk.key,h.hk.may,h.hk.nd,λp c=>?_,h.hk.few⟩,BW.2 ⟨h.ok,by rw[<-h.st];exact⟨a,trivial⟩⟩,by rw[BI, <-h.st];rfl,λe b=>(oU.1 b).elim (h.ft e) λb=>by rw[mS b];exact DZ h.pi g,h.fw,h.nw⟩;have d:=congrFun (Ew h.pi a) p.2.q;unfold kV upD at d;show (eff (mkP i s.l x) s.l).V.getD p.2.q 0<p.2.s
 rw[d,oI (by rw[mkP_q];exact h.nw p c)];exact h.hk.new p c
end
section
open Go.ChangeMaps
def s0R(n:Nat):RS:=⟨pl0 n,[],gp0⟩
section
variable  {K:KV} 
def zgD{n:Nat}(A:KD w)(N:1<=n)(P:n<=6)(hi:i<6)(T:∀w' X,RepW w' i X (s0R n)->(∀k∈AF X,k=1\/w.heap.size<=k)->(∀k∈FF X,w.heap.size<=k)->Below w.heap.size w w'->X.ws=[]/\X.W=[]->K (.tuple #[pB X.R.p,ci 0]) w'):call Q 20 #[iv (n:Nat),iv ((i:Int)+1)] K w:=by
 refine ao (goK func20) (VV (ziz N P A λf q B G C=>bK (bJ (bo (dL oB (aW (bG oB (dL oo (dE (bG oo (aB oo ?_)))))))))));have H:=C.size;refine zim λd M D s2=>zhT λg O I s3=>zhQ λe L E s4=>zhG λm J u aa=>?_
 refine cE (vs:=[iv ((i:Int)+1),pB q.p,pB f.heap.size,pB (d.heap.size+1),pB g.heap.size,pB (e.heap.size+1)]) kr (bU λw6 x v s6=>?_);have x:=cZ x
 rw[show iv ((i:Int)+1)=iv ((i+1:Nat))from qH iv (by push_cast;rfl)]at x;have s5:=u.size;have V:=B.lt;have Y:=B.below D;have h:Below d.heap.size d w6:=((I.trans (E.mono oo)).trans (u.mono oo)).trans (v.mono oo);have y:Below g.heap.size g w6:=(E.trans (u.mono oo)).trans (v.mono oo)
 have z:Below e.heap.size e w6:=u.trans (v.mono oo);have Z:∀k∈q.l,k<f.heap.size:=V;have j:∀k,f.heap.size<=k->k∉q.l:=λk a c=>by have:=Z k c;omega
 have F:lrB lr0=[]:=rfl;have rp:RpM w6 ⟨m.heap.size,q,f.heap.size,d.heap.size+1,d.heap.size,g.heap.size,e.heap.size+1⟩ (i+1) (pl0 n) [] lr0 0 gp0:=⟨x,Y.below h,M.below h,O.below y,L.below z,j m.heap.size oo,λk a=>by
  rw[F,List.mem_singleton]at a;rw[a];exact j _ oA,j (d.heap.size+1) oo,j d.heap.size oo,j g.heap.size oo,λr U=>by rw[List.eq_of_mem_replicate U];exact Int.le_refl _,Int.le_refl _⟩
 have S:∀k∈RpF ⟨m.heap.size,q,f.heap.size,d.heap.size+1,d.heap.size,g.heap.size,e.heap.size+1⟩ lr0,w.heap.size<=k:=λk a=>by
  rcases fZ.1 a with a|rfl|a|rfl|rfl
  .rcases G k (LB.wl k a)with rfl|c
   .exact qI a (by
     have o:=B.nd;intro c;simp only[LB.wv,oO,oR,or_false]at c;rcases c with c|c|c|c|c|c
     .exact LN.zp o c
     .exact LN.zd o c
     .exact LN.zm o c
     .exact LN.zr o c
     .exact LN.zg o c
     .exact LN.za o c)
   .exact c
  .exact H
  .rw[F]at a;cases a
  .show w.heap.size<=d.heap.size;omega
  .show w.heap.size<=g.heap.size;omega
 have t:∀k∈FF ⟨⟨m.heap.size,q,f.heap.size,d.heap.size+1,d.heap.size,g.heap.size,e.heap.size+1⟩,e.heap.size,[],lr0,[]⟩,w.heap.size<=k:=λk a=>by
  rcases nB.1 a with a|rfl|a
  .exact S k a
  .show w.heap.size<=e.heap.size;omega
  .cases a
 have s:=J.below v
 refine T w6 ⟨⟨m.heap.size,q,f.heap.size,d.heap.size+1,d.heap.size,g.heap.size,e.heap.size+1⟩,e.heap.size,[],lr0,[]⟩ ⟨rp,rfl,⟨s.b,s.mb,by simp,by simp⟩,j _ (by show f.heap.size<=e.heap.size+1;omega),j _ (by show f.heap.size<=e.heap.size;omega),by show e.heap.size≠d.heap.size;omega,λk a=>by cases a⟩ (λk a=>?_) t (((C.trans (D.mono H)).trans (h.mono oo))) ⟨rfl,rfl⟩
 rcases pG.1 a with rfl|rfl|rfl|a|a
 .exact .inr (by show w.heap.size<=m.heap.size;omega)
 .exact .inr (by show w.heap.size<=d.heap.size+1;omega)
 .exact .inr (by show w.heap.size<=e.heap.size+1;omega)
 .exact G k a
 .exact .inr (t k a)
end
end
end
end Go.Proofs.YtgohpbmmcgenpaaGreatDoor
