import Derived.Test.YtgohpbmmcgenpaaGreatDoorQ14
import Derived.Test.YtgohpbmmcgenpaaGreatDoorQ2
import Derived.Test.YtgohpbmmcgenpaaGreatDoorQ13
namespace Go.Proofs.YtgohpbmmcgenpaaGreatDoor
set_option maxRecDepth 100000
set_option linter.defProp false
set_option maxHeartbeats 4000000
open Go.Proofs.Tryz
open Go.RowKit
variable {w w' w0 w2 W0 S O:oG}{zf:Nat->oF}{b c o i g m s j z f d c2 gc D pc B' pn ba hi np:Nat}{a av a2:Option Addr}{x v r N fu:Int}{E t e:TypeId}{A:List Int}{B1:KE}{vs:oE}{P:Program}{cx cy:Bool}{T:List (Int×Int)}{Z1 N2 O2 P2 Q2 R2 T2 U2 V2 H Z U Y J C:oF}
section
attribute [local irreducible] bin un conv call bS blt slc aq fld bv idx lkp fJ nl eSt rng nxt ent ext alc box bld cH ld sto bj fK mkS ifc pick rdy wts aT sti cond bA Gives aj iK kH cOp
section
open Go.ChangeMaps
def zdF{n:Nat}{X:Nat->SX}{now:Int}{x:SX}(hi:i<6)(a:x.p=(X i).p):(mj n np X now).set (1+i*2+1) (pB x.u)=mj n np (eR X i x) now:=by
 match i,hi with
 | 0,_=>unfold mj uh;simp[List.range,List.range.loop,eR,a]
 | 1,_=>unfold mj uh;simp[List.range,List.range.loop,eR,a]
 | 2,_=>unfold mj uh;simp[List.range,List.range.loop,eR,a]
 | 3,_=>unfold mj uh;simp[List.range,List.range.loop,eR,a]
 | 4,_=>unfold mj uh;simp[List.range,List.range.loop,eR,a]
 | 5,_=>unfold mj uh;simp[List.range,List.range.loop,eR,a]
section
variable  {K:KV}{B0 n t:Nat}{Z:List Nat}{c:CX}{s:STP}{v:oF}
def CM.ns{M':List MGT}{cs:List Bool}(h:CM w B0 n b Z c)(d:NM S c.T c.np a o M' cs)(k:NS w S c.np c.ra a):CM S B0 n b Z {c with M:=M',ra:=a,rc:=o,cut:=cs}/\CS w S B0 Z:=h.net d k.ch k.rw
def CM.ldn(h:blk w c.p 72 (mj n c.np c.X c.now))(a:K (pB c.np) w):ld Q 64 (pA c.p 13) K w:=lK (v:=pB c.np) h rfl a
def zfG(h:CM w B0 n b Z c)(a:∀S c' e,CM S B0 n b Z c'->CS w S B0 Z->SP c c'->K (anV evZ e) S):call Q 165 #[pB c.p,.agg (stC s v).toArray] K w:=by
 refine ao (goK func165) (IV (h.pro λg E I m B z A G H=>?_));have l:Below g.heap.size g g.drew:=(jT _ g).drew;have i:=m.below l;have D:=B.trans ((m.csb l).sub sub2);refine ax (λy=>blk y E 44 (stC s v)/\blk y c.p 72 (mj n c.np c.X c.now)) ⟨G.drew,i.cb⟩ ?_
 refine ac (λy d _ a=>au a) (ac (λy d _ a=>Bu a) (ac (v:=pB c.np) (λy d _ a=>CM.ldn d.2 a) ?_));refine ac (λy d _ a=>RT a) (ac (v:=iv s.k) (λy d _ a=>lK d.1 rfl a) ?_);refine zgn i.nm λJ M' q x u=>?_;obtain⟨r,o⟩:=i.ns x u;have j:=o.blk oL H.drew;refine ax (λ_=>True) trivial (ac (λy _ _ a=>bH a) ?_)
 have f:=λe=>r.fin (K:=K) (e:=e) j rfl z A λF t C=>a F _ e t ((D.trans (o.sub sub2)).trans C) ⟨rfl,rfl⟩;cases q with
 | true=>exact aD (f 0)
 | false=>exact bc (f 4)
def zdG(h:CM w B0 n b Z c)(a:∀S c' e,CM S B0 n b Z c'->CS w S B0 Z->SP c c'->K (anV evZ e) S):call Q 166 #[pB c.p,.agg (stC s v).toArray] K w:=by
 refine ao (goK func166) (Hy (h.pro λg G L m D z A I J=>?_));have l:Below g.heap.size g g.drew:=(jT _ g).drew;have j:=m.below l;have F:=D.trans ((m.csb l).sub sub2);refine ax (λy=>blk y G 44 (stC s v)/\blk y c.p 72 (mj n c.np c.X c.now)) ⟨I.drew,j.cb⟩ ?_
 refine ac (λy d _ a=>au a) (ac (λy d _ a=>Bu a) (ac (v:=pB c.np) (λy d _ a=>CM.ldn d.2 a) ?_));refine ac (λy d _ a=>RT a) (ac (v:=iv s.k) (λy d _ a=>lK d.1 rfl a) ?_);refine zex j.nm λM B C M' e x u=>?_;obtain⟨o,q⟩:=j.ns x u;have f:=q.blk oL J.drew;refine ax (λ_=>True) trivial (Up λN i=>ax (λ_=>True) trivial ?_)
 refine(o.below i).fin' (ae i f f.lt) rfl (λt=>(oO.1 t).elim A z) λH r E=>?_;exact a H _ e (r.sub λ_ h=>oH _ h) ((F.trans (q.sub sub2)).trans (((o.csb i).sub sub2).trans (E.sub λ_ h=>oH _ h))) ⟨rfl,rfl⟩
def zhs(h:CM w B0 n b Z c)(a:∀S c' e,CM S B0 n b Z c'->CS w S B0 Z->SP c c'->K (anV evZ e) S):call Q 167 #[pB c.p,.agg (stC s v).toArray] K w:=by
 refine ao (goK func167) (K8 (h.pro λg E J m B z A G H=>?_));have l:Below g.heap.size g g.drew:=(jT _ g).drew;have k:=m.below l;have D:=B.trans ((m.csb l).sub sub2);refine ax (λy=>blk y E 44 (stC s v)/\blk y c.p 72 (mj n c.np c.X c.now)) ⟨G.drew,k.cb⟩ ?_
 refine ac (λy d _ a=>au a) (ac (λy d _ a=>Bu a) (ac (v:=pB c.np) (λy d _ a=>CM.ldn d.2 a) ?_));refine ac (λy d _ a=>DN a) (ac (v:=iv s.who) (λy d _ a=>lK d.1 rfl a) (ac (λy d _ a=>zdV a) (ac (v:=iv s.j) (λy d _ a=>lK d.1 rfl a) ?_)));refine zib k.nm λL I e x u=>?_;obtain⟨o,q⟩:=k.ns x u;have f:=q.blk oL H.drew
 refine ax (λ_=>True) trivial (Up λM i=>ax (λ_=>True) trivial ?_);refine(o.below i).fin' (ae i f f.lt) rfl (λt=>(oO.1 t).elim A z) λF r C=>?_;exact a F _ e (r.sub λ_ h=>oH _ h) ((D.trans (q.sub sub2)).trans (((o.csb i).sub sub2).trans (C.sub λ_ h=>oH _ h))) ⟨rfl,rfl⟩
def zfH(h:CM w B0 n b Z c)(i:∀S c' e,CM S B0 n b Z c'->CS w S B0 Z->SP c c'->K (anV evZ e) S):call Q 168 #[pB c.p,.agg (stC s v).toArray] K w:=by refine ao (goK func168) (IX (h.pro λz x y a o l m B t=>au (Bu (CM.ldn a.cb (zgo a.nm λA u k j=>?_)))));obtain⟨f,d⟩:=a.ns k j;exact f.fin (d.blk oL t) rfl l m λr g q=>i r _ 0 g ((o.trans (d.sub sub2)).trans q) ⟨rfl,rfl⟩
def zhc{a b:Int}(c:0<=a+b)(d:a+b<18446744073709551616)(h:K (u6 (a+b)) w):bin Q .add 32 cx cy (u6 a) (u6 b) K w :=
 ze (by rw[gu,Int.emod_eq_of_lt c d];exact h)
def zfI(h:CM w B0 n b Z c)(d:∀w' c' e,CM w' B0 n b Z c'->CS w w' B0 Z->SP c c'->K (anV evZ e) w'):call Q 163 #[pB c.p,.agg (stC s v).toArray] K w:=by
 refine ao (goK func163) (Jc (h.pro λi I J j G E F r B=>?_));have R:=h.now;have l:∀{w:oG},Below w.heap.size w w.drew:=λ{w} => (jT _ w).drew;have f:∀{y:oG} {K:KV},blk y I 44 (stC s v)->K (iv s.n) y->ld Q 3 (pA I (0+10)) K y:=λx d=>lK (v:=iv s.n) x rfl d
 have k:∀{y:oG} {K:KV},blk y c.p 72 (mj n c.np c.X c.now)->K (u6 c.now) y->ld Q 32 (pA c.p (0+14)) K y:=λx d=>lK (v:=u6 c.now) x rfl d;have g:∀{S:oG},Below i.heap.size i S->call Q 18 #[ci 1] (λa=>sto Q 51 (pB J) a λ_=>bA Q [(some 51,pB J)] K) S:=λ{S} t =>
  (j.below t).fin (ae t B B.lt) rfl E F λz q O=>d z c 1 q ((G.trans ((j.csb t).sub sub2)).trans O) .refl
 refine ah (λ_=>HQ) (ah (λ_=>f r.drew) (ah (λ_=>aW) ?_));by_cases m:s.n<0
 .exact kW m (ah (λ_=>bR m) (iQ (ah (λ_=>dD) (bc (g l)))))
 refine dL m (ah (λ_=>HQ) (ah (λ_=>f r.drew) (ah (λ_=>dE) (ah (λ_=>bG m) ?_))));by_cases o:(1099511627776:Int)<s.n
 .exact kW o (ah (λ_=>bR o) (bc (g l)))
 have D:∀{y:oG} {K:KV},K (u6 s.n) y->conv Q 3 32 (iv s.n) K y:=λd=>zjP oo oo d
 refine dL o (ah (λ_=>au) (ah (λ_=>DC) (ah (λ_=>k (j.below l).cb) (ah (λ_=>HQ) (ah (λ_=>f r.drew) (ah (λ_=>D) (ah (λ_=>zhc oo oo) (ah (λ_=>dE) (ah (λ_=>bG o) ?_)))))))));by_cases q:(1099511627776:Int)<c.now+s.n
 .exact aG q (g l)
 have C:Below i.heap.size i i.drew.drew:=(jT _ i).drew.drew;have u:=j.below C;refine aB q (ah (λ_=>au) (ah (λ_=>DC) (ah (λ_=>k u.cb) (ah (λ_=>HQ) (ah (λ_=>f r.drew.drew) (ah (λ_=>D) (ah (λ_=>zhc oo oo) (ah (λ_=>au) (ah (λ_=>DC) ?_)))))))));refine dw kf u.cb (by rw[XM];omega) rfl λS A N=>?_
 have A:blk S c.p 72 (mj n c.np c.X (c.now+s.n)):=A;obtain⟨L,H⟩:=u.tim N A oo;exact L.fin (H.blk oL B.drew.drew) rfl E F λz M P=>d z _ 0 M ((G.trans (((j.csb C).trans H).sub sub2)).trans P) ⟨rfl,rfl⟩
inductive OnR (n i:Nat) (c:CX):CX->Int->Prop
 | up (h:(c.X i).on=true):OnR n i c c 3
 | on {p u j:Nat} {A L:List EV} {Y:DuX} (hX:c.X i=.dn p u A L) (hw:Y.X.ws=[]) (hW:Y.X.W=[]) :
  OnR n i c {c with X:=eR c.X i (.up Y ⟨je eff (pl0 n) (A++L.take j),A++L.take j,gp0⟩ (-1)),T:=λq=>if q=i then (je eff (pl0 n) (A++L.take j)).V.getD i 0 else c.T q} 0
def OnR.sp{c':CX}{e:Int}(h:OnR n i c c' e)(hi:i<6):SP c c':=by
 cases h with
 | up h=>exact .refl
 | on hX hw hW=>exact⟨rfl,oI oo⟩
def zf8{P:List Int}(h:CM w B0 n b Z c)(hb:b<=20000)(hw:s.who=(i:Int)+1)(hi:i<6)(hr:RIn w a m pc P)(l:∀w' c' e,OnR n i c c' e->CM w' B0 n b Z c'->CS w w' B0 Z->K (anV evZ e) w'):call Q 171 #[pB c.p,.agg (stC s (.slice a m pc)).toArray] K w:=by
 refine ao (goK func171) (KR (bU λw0 y0 b0 l0=>cD (z:=anV evZ 0) kr λw1 y1 H l1=>?_));have N:blk w0 w.heap.size 44 (stC s (.slice a m pc)):=by simpa[Value.cells]using y0
 have z4:blk w1 w0.heap.size 51 (anC evZ 0):=by simpa[Value.cells]using y1
 have G:=b0.trans (H.mono b0.size);have h1:=(h.new b0 oA N.lt).new H oA z4.lt;have s1:=h.csb G;have n4:w0.heap.size∉Z:=λx=>by have:=(h.own _ x).1;omega
 have ne:w0.heap.size≠w.heap.size:=by omega
 have N:=ae H N N.lt;refine Kt N (UO hw hi λw2 b2=>?_);have O:Below w1.heap.size w1 w2.drew:=b2.trans ((jT _ w2).drew.mono b2.size);have o:=h1.below O;have s2:=s1.trans ((h1.csb O).sub sub2);have ag:=ae O z4 z4.lt;have af:=ae O N N.lt;have am:=hr.below (G.trans (O.mono G.size)) oA;have hx:=o.st i hi
 refine ax (λy=>blk y w.heap.size 44 (stC s (.slice a m pc))/\blk y c.p 72 (mj n c.np c.X c.now)) ⟨af,o.cb⟩ ?_;refine ac (λy d _ l=>au l) (ac (λy d _ l=>HP l) (ac (v:=ptr (c.X i).p) (λy d _ l=>lK d.2 (Cd hi).1 l) ?_));refine ac (λy d _ l=>Yg l) (ac (v:=.slice a m pc) (λy d _ l=>lK d.1 rfl l) ?_);cases C:c.X i with
 | up Y r fu =>
  rw[C]at hx;refine zin hx.1.jk.1 rfl (ax (λ_=>True) trivial (bo (aG dc ?_)));exact o.fin ag rfl n4 ne λw3 h3 s3=>l w3 c 3 (.up (by rw[C];rfl)) h3 (s2.trans s3)
 | dn p u A L =>
  rw[C]at hx;have sz:=o.sz i hi;rw[C]at sz;have sz:A.length+L.length<=b:=sz;refine zje (p:=p) (u:=u) hx.1 am λw3 f j a1 a2 d3 S=>ax (λ_=>True) trivial (bo (aB dc ?_));have ad:p∈(c.X i).B:=by rw[C];exact oL
  have M:p∈(c.X i).F:=by rw[C];exact oL
  have dp:=o.dis i hi p ad;have an:GD w3:=o.kd.ch S λg hg x=>by have:=o.gt g hg;have:=o.lo i hi p M;rw[<-mS x]at this;omega
  have ah:blk w3 c.p 72 (mj n c.np c.X c.now):=o.cb.ch S λx=>dp.1 (mS x).symm;have zz:∀t∈w0.heap.size::w.heap.size::Z,t∉[p]:=λt ht x=>(o.own t ht).2.2.2.2 i hi (mS x ▸ ad);have aq:=af.ch S (zz _ oB);have I:Below w3.heap.size w3 w3.drew:=(jT _ w3).drew
  refine ax (λy=>blk y w.heap.size 44 (stC s (.slice a m pc))/\blk y c.p 72 (mj n c.np c.X c.now)) ⟨aq.drew,ah.drew⟩ ?_;refine ac (λy d _ l=>au l) (ac (λy d _ l=>zdO l) (ac (v:=iv (n:Nat)) (λy d _ l=>lK d.2 rfl l) ?_));refine ac (λy d _ l=>DN l) (ac (v:=iv ((i:Int)+1)) (λy d _ l=>lK (v:=iv ((i:Int)+1)) d.1 (by rw[<-hw];rfl) l) ?_)
  refine ac (λy d _ l=>au l) (ac (λy d _ l=>HP l) (ac (v:=ptr p) (λy d _ l=>lK (v:=ptr p) d.2 (by have:=(Cd (n:=n) (np:=c.np) (X:=c.X) (now:=c.now) hi).1;rw[C]at this;exact this) l) ?_));obtain⟨aj,E⟩:=hx.2.on (T':=λq=>if q=i then (je eff (pl0 n) (A++L.take j)).V.getD i 0 else c.T q) j λ_=>rfl
  have al:p≠1:=λe=>by have:=o.gt p (by rw[e];simp[GT]);have:=o.lo i hi p M;omega
  have lj:(A++L.take j).length<=b:=by rw[oT,qA];omega
  refine ZX (an.below I).kd h.n1 h.n6 hi (d3.below I) a1 a2 al (λe a=>⟨VM E.d.ok e a,E.d.ft e a⟩) E.d.ok oo λw4 Y ab ai ap W4 c4 f4 aa=>?_;have U:Ch [p] w2.drew w3.drew:=S.add (I.mono S.size);have av:=U.size;have J:Ch [p] w2.drew w4:=U.trans c4 λk D=>.inl D;have W:=o.cb.ch J λx=>dp.1 (mS x).symm
  refine ax (λ_=>True) trivial (ac (λy _ _ l=>bK l) (ac (λy _ _ l=>bJ l) (IY (aU (IZ (aG rfl (au (DM ?_))))))));refine dw (v:=pB Y.u) kf W (by rw[XM];omega) rfl λw5 z5 o5=>Ja ?_;have R:Ch ((c.X i).F++[c.p]) w2.drew w5:=(J.mono λk D=>by rw[mS D];exact List.mem_append_left _ M).trans (Ch.of_oth o5 oB) λk D=>.inl D
  have pu:Y.p≠c.p:=by rw[ab];exact dp.1
  have ar:=J.size;have ak:SxM w5 n i (λq=>if q=i then (je eff (pl0 n) (A++L.take j)).V.getD i 0 else c.T q) (.up Y ⟨je eff (pl0 n) (A++L.take j),A++L.take j,gp0⟩ (-1)):=by
   refine SxM.ch (w:=w4) (F:=[c.p]) ⟨ai,by rw[W4];exact E⟩ (Ch.of_oth o5 oB) (noBy.of W dc) λk D x=>?_;have x:=mS x;subst x;rcases aa _ D with e|e|e
   .have:=o.gt c.p (by rw[e];simp[GT]);have:=o.lp c.p oL;omega
   .exact dp.1 e.symm
   .have:=o.cb.lt;omega
  have e5:(mj n c.np c.X c.now).set (1+i*2+1) (pB Y.u)=mj n c.np (eR c.X i (.up Y ⟨je eff (pl0 n) (A++L.take j),A++L.take j,gp0⟩ (-1))) c.now:=by
   have ep:(SX.up Y ⟨je eff (pl0 n) (A++L.take j),A++L.take j,gp0⟩ (-1)).p=(c.X i).p:=by rw[C];exact ab
   exact zdF hi ep
  have h5:=o.site' hi (by rw[<-e5];exact z5) ak aj (λq a _=>oI a) R (λk D=>?_) (λk D=>?_) oA lj
  .have s5:=o.csx hi R;exact h5.fin (s5.blk oL ag) rfl n4 ne λw6 h6 s6=>l w6 _ 0 (.on C ap W4) h6 ((s2.trans (s5.sub sub2)).trans s6)
  .rcases f4 k D with e|e
   .rw[e,C];exact .inl oL
   .exact .inr oo
  .rcases aa k D with e|e|e
   .exact .inl (by rw[e];simp[GT])
   .rw[e,C];exact .inr (.inl oL)
   .exact .inr (.inr oo)
end
def zia{x:MGT}(c:x.1.V.length=6)(b:(x.1.k=1)\/(x.1.k=2/\x.1.L=[]/\x.2=(none,0))):tmC x=mgC x.1.k ((x.1.f:Int)+1) ((x.1.t:Int)+1) x.1.V (.slice (if x.1.k=1 then x.2.1 else none) (if x.1.k=1 then x.1.L.length else 0) (if x.1.k=1 then x.2.2 else 0)) x.1.n x.1.a:=by
 rw[PV c];rcases b with h|⟨h,d,e⟩
 .rw[oJ h,oJ h,oJ h]
 .have : ¬x.1.k=1:=by rw[h];decide
  rw[oI this,oI this,oI this,d,e];rfl
section
variable  {K:KV}{B0 n t:Nat}{Z:List Nat}{c:CX}{s:STP}{v:oF}
def CM.hear{x:MGT}{Y:DuX}{r:RS}(h:CM w B0 n b Z c)(P:b<=20000)(i:c.X x.1.t=.up Y r fu)(m:MsP c.T x.1)(z:TMk 0 w x)(J:x.1.k=2->x.2=(none,0))(v:∀S c' e,CM S B0 n (b+64) Z c'->CS w S B0 Z->SP c c'->K (ci e) S):call Q 178 #[pB Y.u,.agg (tmC x).toArray,u6 c.now] K w:=by
 have d:=m.t6;have f:=h.st _ d;have s:=h.sz _ d;rw[i]at f s;have s:r.A.length<=b:=s;have O:=f.2.G;rw[zia m.v6 (m.kd.imp (·.1) λj=>⟨j.1,j.2.1,J j.1⟩)];refine zgM f.1 f.2 d oo oo h.r0 m rfl z.vr (λb o H=>?_) (λS Y' y D T' F a E p l M C=>?_) λS L l B y c'=>?_
 .obtain⟨_,N,I⟩:=z.ev b o H;exact f.1.rp.ty I dc
 .obtain⟨g,q⟩:=h.up d i F a E p M C l;exact v S _ _ g q ⟨rfl,a 6 oo⟩
 .obtain⟨g,q⟩:=h.down d i B y c' l;exact v S _ _ g q ⟨rfl,rfl⟩
theorem zbR {b' : Nat} {R : MGT → CX → CX → Int → Prop} (h : CM w B0 n b Z c)
    (hR : ∀ {w2 : World} {Z2 : List Nat} {c2 : CX} {x : MGT} {Y : DuX} {r : RS} {fu : Int} {K2 : KV}, c.M[s.k.toNat]? = some x → c2 = { c with M := c.M.eraseIdx s.k.toNat } → CM w2 B0 n b Z2 c2 → c2.X x.1.t = .up Y r fu → MsP c2.T x.1 → TMk 0 w2 x → (x.1.k = 2 → x.2 = (none, 0)) → (∀ w' c' e, R x c2 c' e → CM w' B0 n b' Z2 c' → CS w2 w' B0 Z2 → K2 (ci e) w') → call Tryz.prog 178 #[pB Y.u, .agg (tmC x).toArray, u6 c.now] K2 w2)
    (no : ∀ w', ¬ (0 ≤ s.k ∧ s.k < c.M.length) → CM w' B0 n b Z c → CS w w' B0 Z → K (anV evZ 4) w')
    (off : ∀ w' x, c.M[s.k.toNat]? = some x → (c.X x.1.t).on = false → CM w' B0 n b Z { c with M := c.M.eraseIdx s.k.toNat } → CS w w' B0 Z → K (anV evZ 8) w')
    (hK : ∀ w' c' x e, c.M[s.k.toNat]? = some x → R x { c with M := c.M.eraseIdx s.k.toNat } c' e → CM w' B0 n b' Z c' → CS w w' B0 Z → K (anV evZ e) w') :
    call Tryz.prog 164 #[pB c.p, .agg (stC s v).toArray] K w := by
  refine ao (goK Tryz.func164) (FC (h.pro fun w1 t3 t4 h1 s1 n4 ne z3 z4 => ?_))
  have bd : Below w1.heap.size w1 w1.drew := (Below.refl _ w1).drew
  have hd := h1.below bd
  have sd := s1.trans ((h1.csb bd).sub sub2)
  have z4d := z4.drew
  have ldm : ∀ {y : World} {K : KV} {b : Nat} {ms : List Value}, ms.length = 12 → blk y b 268 ms → K (.agg ms.toArray) y → ld Tryz.prog 268 (pB b) K y := fun hl hy hK => ldA (n := 12) Tryz.underlying268 rfl (by kernel_rfl) hy (by rw [List.drop_zero, List.take_of_length_le (by omega)]) hl hK
  have stm : ∀ {y : World} {K : KV} {b : Nat} {ms cs : List Value}, ms.length = 12 → cs.length = 12 → (∀ v ∈ ms, v.oneCell' = true) → blk y b 268 cs → (∀ y', blk y' b 268 ms → Oth b y y' → K undef y') → sto Tryz.prog 268 (pB b) (.agg ms.toArray) K y := fun {y K b ms cs} hl hcl h1 hy hK => fY (n := 12) (by kernel_rfl) hl hy (by omega) h1 fun y' hy' o' => hK y' (by
    rw [List.take_zero, List.nil_append, List.drop_of_length_le (by omega), List.append_nil] at hy'
    exact hy') o'
  have alm : ∀ {y : World} {K : KV}, (∀ y', blk y' y.heap.size 268 msgZ → Below y.heap.size y y' → K (pB y.heap.size) y') → alc Tryz.prog 268 K y := fun {y K} hK => cD (z := .agg msgZ.toArray) (by kernel_rfl) fun y' z' b' _ => hK y' (by simpa [Value.cells] using z') b'
  -- the caller's block was written
  have own : ∀ {y y' : World} {c' : CX} {m : Nat} {cs : List Value}, CM y B0 n b (m :: t4 :: t3 :: Z) c' → m ≠ t4 → m ∉ Z → blk y m 268 cs → blk y t4 51 (anC evZ 0) → Oth m y y' → CM y' B0 n b (m :: t4 :: t3 :: Z) c' ∧ CS y y' B0 Z ∧ blk y' t4 51 (anC evZ 0) := fun {y y' c' m cs} hm h4 hz hb z o =>
    ⟨hm.oth o List.mem_cons_self hb (by decide), ⟨aK (Below.refl _ y) o (hm.own m List.mem_cons_self).2.1, fun t ht => o.other t fun e => hz (e ▸ ht)⟩, o.blk z h4.symm⟩
  have nok : ∀ {y : World} {m : Nat}, ¬ (0 ≤ s.k ∧ s.k < c.M.length) → CM y B0 n b (m :: t4 :: t3 :: Z) c → CS w y B0 Z → blk y t4 51 (anC evZ 0) → call Tryz.prog 18 #[ci 4] (fun a => sto Tryz.prog 51 (pB t4) a fun _ => bA Tryz.prog [(some 51, pB t4)] K) y := fun hk hm sy z =>
    (hm.sub fun _ h => List.mem_cons_of_mem _ h).fin z rfl n4 ne fun w3 h3 s3 => no w3 hk h3 (sy.trans s3)
  have yes : ∀ {y : World} {m : Nat} {x : MGT} {zf : Nat → Value}, c.M[s.k.toNat]? = some x → CM y B0 n b (m :: t4 :: t3 :: Z) { c with M := c.M.eraseIdx s.k.toNat } → CS w y B0 Z → blk y t4 51 (anC evZ 0) → blk y m 268 (tmC x) → MsP c.T x.1 ∧ TMk 0 y x ∧ (x.1.k = 2 → x.2 = (none, 0)) → gl K (nK (pB c.p) (pB t4) (pB m) (.pointer (some ⟨c.p, 1 + x.1.t * 2, none⟩)) zf) y := fun {y m x zf} hx hm sy z zm ms => by
    have hi := ms.1.t6
    refine Du (zbE (c := { c with M := c.M.eraseIdx s.k.toNat }) hm hi (bH ?_))
    cases hX : c.X x.1.t with
    | dn p u A L =>
      exact bc ((hm.sub fun _ h => List.mem_cons_of_mem _ h).fin z rfl n4 ne fun w3 h3 s3 => off w3 x hx (by rw [hX]; rfl) h3 (sy.trans s3))
    | up Y r fu =>
      have hX' : ({ c with M := c.M.eraseIdx s.k.toNat } : CX).X x.1.t = .up Y r fu := hX
      have bm : Below y.heap.size y y.drew := (Below.refl _ y).drew
      have hmd := hm.below bm
      refine aD (ax (fun u => blk u m 268 (tmC x) ∧ blk u c.p 72 (mj n c.np c.X c.now)) ⟨zm.drew, hmd.cb⟩ ?_)
      refine ac (fun y d _ hK => au hK) (ac (fun y d _ hK => DM hK) (ac (v := pB Y.u) (fun y d _ hK => ld1 (v := pB Y.u) (fun _ => by kernel_rfl) d.2 (by have := (Cd (n := n) (np := c.np) (X := c.X) (now := c.now) hi).2; rw [hX] at this; exact this) hK) ?_))
      refine ac (fun y d _ hK => ldm (eF _) d.1 hK) (ac (fun y d _ hK => au hK) (ac (fun y d _ hK => DC hK) (ac (v := u6 c.now) (fun y d _ hK => ld1 (fun _ => by kernel_rfl) d.2 rfl hK) ?_)))
      refine hR hx rfl hmd hX' ms.1 (ms.2.1.below bm) ms.2.2 fun w2 c' e hr h2 s2 => ?_
      refine ax (fun _ => True) trivial (Up fun w3 b3 => ax (fun _ => True) trivial ?_)
      have z2 := s2.blk (by simp) z.drew
      refine ((h2.sub fun _ h => List.mem_cons_of_mem _ h).below b3).fin' (ae b3 z2 z2.lt) rfl (fun hh => (List.mem_cons.1 hh).elim ne n4) fun w4 h4 s4 => ?_
      refine hK w4 c' x e hx hr (h4.sub fun _ h => List.mem_cons_of_mem _ h) ?_
      have k1 : CS y w2 B0 Z := ((hm.csb bm).trans s2).sub fun _ h => List.mem_cons_of_mem _ (sub2 _ h)
      have k2 : CS w2 w3 B0 Z := (h2.csb b3).sub fun _ h => List.mem_cons_of_mem _ (sub2 _ h)
      exact ((sy.trans k1).trans k2).trans (s4.sub fun _ h => List.mem_cons_of_mem _ h)
  refine ax (fun y => blk y t3 44 (stC s v) ∧ blk y c.p 72 (mj n c.np c.X c.now)) ⟨z3.drew, hd.cb⟩ ?_
  refine ac (fun y d _ hK => au hK) (ac (fun y d _ hK => Bu hK) (ac (v := pB c.np) (fun y d _ hK => CM.ldn d.2 hK) ?_))
  refine ac (fun y d _ hK => RT hK) (ac (v := iv s.k) (fun y d _ hK => ld1 (fun _ => by kernel_rfl) d.1 rfl hK) ?_)
  have z3d := z3.drew
  refine ⟨?_, ?_⟩
  · refine VH hd.nm (fun w2 hk b2 => ?_) fun w2 x hx n2 ms k2 => ?_
    · have h2 := hd.below b2
      have s2 := sd.trans ((hd.csb b2).sub sub2)
      have z42 := ae b2 z4d z4d.lt
      have z32 := ae b2 z3d z3d.lt
      refine ax (fun _ => True) trivial (ac (fun y _ _ hK => bK hK) (ac (fun y _ _ hK => bJ hK) (alm fun w3 z33 b3 => aI trivial (stm rfl rfl (by decide) z33 fun w4 z44 o4 => aI trivial (bH (bc ?_))))))
      obtain ⟨h4, s4, z4'⟩ := own (h2.new b3 (Nat.le_refl _) z33.lt) (by have := z42.lt; omega) (fun hm => by have := (h2.own _ (sub2 _ hm)).1; omega) z33 (ae b3 z42 z42.lt) o4
      exact nok hk h4 ((s2.trans ((h2.csb b3).sub sub2)).trans s4) z4'
    · obtain ⟨h2, s2⟩ := hd.ns n2 k2
      have s2' := sd.trans (s2.sub sub2)
      have z42 := s2.blk List.mem_cons_self z4d
      refine ax (fun _ => True) trivial (ac (fun y _ _ hK => bK hK) (ac (fun y _ _ hK => bJ hK) (alm fun w3 z33 b3 => aI trivial (stm (eF x) rfl (vY x) z33 fun w4 z44 o4 => aI trivial (bH (aD ?_))))))
      obtain ⟨h4, s4, z4'⟩ := own (h2.new b3 (Nat.le_refl _) z33.lt) (by have := z42.lt; omega) (fun hm => by have := (h2.own _ (sub2 _ hm)).1; omega) z33 (ae b3 z42 z42.lt) o4
      have t6 := ms.1.t6
      have b4 : Below w4.heap.size w4 w4.drew := (Below.refl _ w4).drew
      refine ah (fun K hK => yE hK) (ah (v := iv ((x.1.t : Int) + 1)) (fun K hK => ld1 (v := iv ((x.1.t : Int) + 1)) (fun _ => by kernel_rfl) z44.drew rfl hK) (ah (v := iv (x.1.t : Nat)) (fun K hK => co (by omega) (by omega) (by rw [show (x.1.t : Int) + 1 - 1 = (x.1.t : Nat) by omega]; exact hK)) (ah (fun K hK => au hK) (ah (fun K hK => DB hK) (ah (v := .pointer (some ⟨c.p, 1 + x.1.t * 2, none⟩)) (fun K hK => fB Tryz.underlying70 (s := 2) (fun _ => by kernel_rfl) (by omega) (by omega) hK) ?_)))))
      exact yes hx (h4.below b4) (((s2'.trans ((h2.csb b3).sub sub2)).trans s4).trans ((h4.csb b4).sub fun _ h => List.mem_cons_of_mem _ (sub2 _ h))) z4'.drew z44.drew ⟨ms.1, ((ms.2.1.below b3).kp fun k cs hk => o4.other k fun e => absurd e (hk.ne z33 (by decide))).below b4, ms.2.2⟩
  · refine alm fun w2 z22 b2 => aI ⟨ae b2 z3d z3d.lt, (hd.below b2).cb⟩ ?_
    have h2 := hd.new b2 (Nat.le_refl _) z22.lt
    have s2 := sd.trans ((hd.csb b2).sub sub2)
    have z42 := ae b2 z4d z4d.lt
    have mz : w1.drew.heap.size ∉ Z := fun hm => by have := (hd.own _ (sub2 _ hm)).1; omega
    have m4 : w1.drew.heap.size ≠ t4 := by have := z4d.lt; omega
    refine VH h2.nm (fun w3 hk b3 => ?_) fun w3 x hx n3 ms k3 => ?_
    · have h3 := h2.below b3
      refine ax (fun _ => True) trivial (ac (fun y _ _ hK => bK hK) (ac (fun y _ _ hK => bJ hK) (stm rfl rfl (by decide) (ae b3 z22 z22.lt) fun w4 z44 o4 => aI trivial (bH (bc ?_)))))
      obtain ⟨h4, s4, z4'⟩ := own h3 m4 mz (ae b3 z22 z22.lt) (ae b3 z42 z42.lt) o4
      exact nok hk h4 ((s2.trans ((h2.csb b3).sub fun _ h => List.mem_cons_of_mem _ (sub2 _ h))).trans s4) z4'
    · obtain ⟨h3, s3⟩ := h2.ns n3 k3
      have z23 := s3.blk List.mem_cons_self z22
      refine ax (fun _ => True) trivial (ac (fun y _ _ hK => bK hK) (ac (fun y _ _ hK => bJ hK) (stm (eF x) rfl (vY x) z23 fun w4 z44 o4 => aI trivial (bH (aD ?_)))))
      obtain ⟨h4, s4, z4'⟩ := own h3 m4 mz z23 (s3.blk (by simp) z42) o4
      have t6 := ms.1.t6
      have b4 : Below w4.heap.size w4 w4.drew := (Below.refl _ w4).drew
      refine ah (fun K hK => yE hK) (ah (v := iv ((x.1.t : Int) + 1)) (fun K hK => ld1 (v := iv ((x.1.t : Int) + 1)) (fun _ => by kernel_rfl) z44.drew rfl hK) (ah (v := iv (x.1.t : Nat)) (fun K hK => co (by omega) (by omega) (by rw [show (x.1.t : Int) + 1 - 1 = (x.1.t : Nat) by omega]; exact hK)) (ah (fun K hK => au hK) (ah (fun K hK => DB hK) (ah (v := .pointer (some ⟨c.p, 1 + x.1.t * 2, none⟩)) (fun K hK => fB Tryz.underlying70 (s := 2) (fun _ => by kernel_rfl) (by omega) (by omega) hK) ?_)))))
      exact yes hx (h4.below b4) (((s2.trans (s3.sub fun _ h => List.mem_cons_of_mem _ (sub2 _ h))).trans s4).trans ((h4.csb b4).sub fun _ h => List.mem_cons_of_mem _ (sub2 _ h))) z4'.drew z44.drew ⟨ms.1, (ms.2.1.kp fun k cs hk => o4.other k fun e => absurd e (hk.ne z23 (by decide))).below b4, ms.2.2⟩
end
def Ut(cut:List Bool)(L:List MG)(T:List MGT):List MG:=T.foldl (λL x=>Pw cut L x.1) L
def zbk{cut:List Bool}{L:List MG}{T:List MGT}{x:MGT}:Ut cut L (T++[x])=Pw cut (Ut cut L T) x.1:=by unfold Ut;rw[List.foldl_append];rfl
inductive TickR (i:Nat) (c:CX):CX->Prop
 | mk {Y Y':DuX} {s:RS} {fu:Int} {T:List MGT} {M:List MGT} {ra:Option Addr} {rc:Nat} (hX:c.X i=.up Y s fu) (hT:∀x∈T,TMok 6 i s x) (ha:(i:Int)+1∈pF s.l.I s.l.L 6->∀j:Nat,(j:Int)+1∈pF s.l.I s.l.L 6->j≠i->∃x∈T,x.1.k=1/\x.1.t=j)
  (hl:Y.X.ws=[]->T.length<=(pF s.l.I s.l.L 6).length-1) (hm:M.map (·.1)=Ut c.cut (c.M.map (·.1)) T):TickR i c {c with X:=eR c.X i (.up Y' s fu),M:=M,ra:=ra,rc:=rc}
def TickR.sp{c c':CX}(h:TickR i c c'):SP c c':=by cases h;exact⟨rfl,rfl⟩
section
variable  {K:KV}{B0 n t:Nat}{Z:List Nat}{c:CX}{s:STP}{v:oF}
def ZU(h:CM w B0 n b Z c)(hb:b<=20000)(hw:s.who=(i:Int)+1)(hi:i<6)(h8:∀w',(c.X i).on=false->CM w' B0 n b Z c->CS w w' B0 Z->K (anV evZ 8) w')(a:∀w' c',TickR i c c'->CM w' B0 n b Z c'->CS w w' B0 Z->K (anV evZ 0) w'):call Q 162 #[pB c.p,.agg (stC s v).toArray] K w:=by
 refine ao (goK func162) (Jb (h.pro λw1 W t4 h1 s1 n4 ne z3 z4=>Kt z3 (UO hw hi λw2 b2=>?_)));have h2:=h1.below b2;have s2:=s1.trans ((h1.csb b2).sub sub2);have ab:=ae b2 z4 z4.lt;refine zbE h2 hi (bH ?_);cases O:c.X i with
 | dn p u A L=>exact bc (h2.fin ab rfl n4 ne λJ a b=>h8 J (by rw[O];rfl) a (s2.trans b))
 | up Y r fu =>
  refine aD ?_;have bd:Below w2.heap.size w2 w2.drew:=(jT _ w2).drew;have g:=h2.below bd;have sd:=s2.trans ((h2.csb bd).sub sub2);have aq:=ab.drew;have C:=g.st i hi;have sz:=g.sz i hi;rw[O]at C sz;have sz:r.A.length<=b:=sz;have hG:=C.2.G;refine ax (λy=>blk y c.p 72 (mj n c.np c.X c.now)) g.cb ?_
  refine ac (λy d _ a=>au a) (ac (λy d _ a=>DM a) (ac (v:=pB Y.u) (λy d _ a=>lK (v:=pB Y.u) d (by have:=(Cd (n:=n) (np:=c.np) (X:=c.X) (now:=c.now) hi).2;rw[O]at this;exact this) a) ?_));refine ac (λy d _ a=>au a) (ac (λy d _ a=>DC a) (ac (v:=u6 c.now) (λy d _ a=>lK d rfl a) ?_))
  refine zfL C.1 hi C.2.d.pi oo C.2.q6 C.2.inc oo λJ Y' T I oc ad an hT ha N ro W' lo ep=>?_;obtain⟨h3,s3⟩:=g.up hi O (λ_=>Int.le_refl _) (λ_ _=>rfl) ad (by rw[W'];exact C.2) an ep (d:=0) oA;have ap:=s3.blk oL aq
  -- the row that was told is the caller's own
  have aj:∀k∈rwB I,w2.drew.heap.size<=k/\k<J.heap.size:=λk f=>jS ro k (LJ f ro);have av:=g.b0;have U:∀k∈rwB I,k<J.heap.size/\B0<=k/\k≠c.p/\k∉c.np::rwB c.ra/\∀j,j<6->k∉(eR c.X i (.up Y' r fu) j).B:=λk f=>by
   obtain⟨k1,k2⟩:=aj k f;refine⟨k2,by omega,λe=>by have:=g.cb.lt;omega,λl=>by have:=g.nm.lt k l;omega,λj hj l=>?_⟩;by_cases P:j=i
   .rw[P,updX_eq]at l
    have:=lo k l;omega
   .rw[zh1 P]at l
    have:=(g.st j hj).lt k l;omega
  have h4:CM J B0 n b (rwB I++t4::W::Z) {c with X:=eR c.X i (.up Y' r fu)} := {h3 with own:=λk f=>(oU.1 f).elim (U k) (h3.own k)};have V:∀t∈Z,t∈rwB I++t4::W::Z:=λt ht=>List.mem_append_right _ (sub2 t ht);refine ax (λ_=>True) trivial (ac (λy _ _ a=>bM underlying83 a) ?_)
  refine Gu (Inv:=λu a=>∃(q:Nat) (M:List MGT) (ra:Option Addr) (rc:Nat),u=ci (q:Nat)/\q<=T.length/\CM a B0 n b (rwB I++t4::W::Z) {c with X:=eR c.X i (.up Y' r fu),M:=M,ra:=ra,rc:=rc}/\CS J a B0 (rwB I++t4::W::Z)/\(∀x∈T,TMk 0 a x)/\M.map (·.1)=Ut c.cut (c.M.map (·.1)) (T.take q)) (μ:=λu _=>T.length-(intOf u).toNat)
   ⟨0,c.M,c.ra,c.rc,rfl,qG _,h4,⟨jT _ _,λ_ _=>rfl⟩,λx D=>⟨(hT x D).2.vr,λb o a=>⟨qG _,((hT x D).2.ev b o a).2⟩⟩,rfl⟩ ?_
  rintro _ dd w5 mu ⟨q,M,ra,rc,rfl,hq,h5,s5,aa,hM⟩ ai;refine aW ?_;by_cases F:q<T.length
  .have D:T[q]? = some T[q]:=gE F;have S:T.take (q+1)=T.take q++[T[q]]:=by rw[List.take_add_one,D];rfl
   have H:=List.getElem_mem F;generalize T[q]=x at D S H;have am:=dl ro (w':=w5) λk f=>s5.z k (List.mem_append_left _ (Eb f));have R:=(hT x H).1;have ah:MsP c.T x.1:=R.msp C.2 hi;have ag:x.1.k=2->x.2=(none,0):=λf=>by
    rcases R.is with⟨h1,_⟩|⟨_,_,e1,e2,_⟩
    .omega
    .exact Prod.ext e1 e2
   have ar:=N.1;refine aG oo (GJ (i:=q) (enc:=tmC) (s:=12) (L:=T) (x:=x) underlying83 kf underlying268 rfl kr eF am rfl D λ_=>?_);refine cD (z:=.agg msgZ.toArray) kr λw6 z6 b6 l6=>?_;have z6:=cZ z6
   refine fY (n:=12) (vs:=tmC x) kr (eF x) z6 (by show 0+12<=12;omega) (vY x) λw7 z7 o7=>?_;rw[qX,oV,oS (by show 12<=0+12;omega),oW]at z7;have m:Below w5.heap.size w5 w7.drew:=(aK b6 o7 oA).drew;have E:=h5.below m
   refine ax (λy=>blk y w5.heap.size 268 (tmC x)/\blk y c.p 72 (mj n c.np (eR c.X i (.up Y' r fu)) c.now)) ⟨z7.drew,E.cb⟩ ?_
   refine ac (λy d _ a=>au a) (ac (λy d _ a=>Bu a) (ac (v:=pB c.np) (λy d _ a=>lK (v:=pB c.np) d.2 rfl a) (ac (v:=.agg (tmC x).toArray) (λy d _ a=>ldA (n:=12) (vs:=tmC x) underlying268 rfl kr d.1 (by rw[oX,tL (by rw[eF];omega)]) (eF x) a) ?_)));refine zih E.nm ah ((aa x H).below m) ag λw8 ak al M' e n8 af k8=>?_
   obtain⟨h8,s8⟩:=E.ns n8 k8;refine aY oo oo ⟨⟨q+1,M',ak,al,qH ci (by push_cast;rfl),F,h8,(s5.trans (h5.csb m)).trans s8,λy hy=>((aa y hy).below m).kp λk cs f=>k8.ch.block k f.lt λl=>?_,by rw[af,S,zbk,hM]⟩,by rw[ai];show T.length-((q:Int)+1).toNat<T.length-(q:Int).toNat;omega⟩;rcases oO.1 l with e|l
   .exact f.ne E.nm.b dc e
   .obtain⟨ds,g⟩:=E.nm.rwt l;exact f.ne g dc rfl
  .obtain rfl:q=T.length:=by omega
   rw[tL oA]at hM;refine aB oo (Gv ?_);have h6:=h5.sub (Z':=t4::W::Z) λt ht=>List.mem_append_right _ ht;exact h6.fin (s5.blk oB ap) rfl n4 ne λw6 E s7=>a w6 _ (.mk O (λx D=>(hT x D).1) ha N.2 hM) E (((sd.trans (s3.sub sub2)).trans (s5.sub V)).trans s7)
end
abbrev zjL:Int:=549755813888
def T00:Nat->Int:=λq=>if q=6 then zjL else 0
def stZ:STA:=⟨List.replicate 6 false,List.replicate 6 false,List.replicate 6 0,[],none,0,.slice none 0 0⟩
def pcC(n np:Nat)(X:Nat->SX)(q:Nat):oE:=iv (n:Nat)::(((List.range 6).flatMap λk=>if k<q then uh (X k)else [.pointer none,.pointer none])++[pB np,u6 0])
def ziv{n q:Nat}{X:Nat->SX}{x:SX}(a:q<6):(pcC n np X q).take (1+q*2)++uh x++(pcC n np X q).drop (1+q*2+2)=pcC n np (eR X q x) (q+1):=by
 match q,a with
 | 0,_=>simp[pcC,List.range,List.range.loop,eR,uh]
 | 1,_=>simp[pcC,List.range,List.range.loop,eR,uh]
 | 2,_=>simp[pcC,List.range,List.range.loop,eR,uh]
 | 3,_=>simp[pcC,List.range,List.range.loop,eR,uh]
 | 4,_=>simp[pcC,List.range,List.range.loop,eR,uh]
 | 5,_=>simp[pcC,List.range,List.range.loop,eR,uh]
def ziu{n q:Nat}{X:Nat->SX}(a:q<6):(pcC n np X q).length=15:=by
 match q,a with
 | 0,_=>rfl
 | 1,_=>rfl
 | 2,_=>rfl
 | 3,_=>rfl
 | 4,_=>rfl
 | 5,_=>rfl
def zfk(n:Nat)(x:SX):Prop:=∃Y,x=.up Y ⟨pl0 n,[],gp0⟩ (-1)/\Y.X.ws=[]/\Y.X.W=[]
def zk0{n:Nat}(hi:i<6):SiP n i T00 ⟨pl0 n,[],gp0⟩ []:=by refine⟨⟨GI n,HK.nil,trivial,rfl,by simp,by simp,by simp⟩,?_,by simp,by simp⟩;show (List.replicate 6 (0:Int)).getD i 0=T00 i;unfold T00;rw[oI oo,oN,jL];split<;>rfl
structure PC(w:oG) (B1 n p np q:Nat) (X:Nat->SX):Prop where
 cb:blk w p 72 (pcC n np X q)
 nm:NM w T00 np none 0 [] (List.replicate 36 false)
 st:∀i,i<q->SxM w n i T00 (X i)/\zfk n (X i)
 sep:∀i j,i<q->j<q->i≠j->∀k∈(X i).B,k∉(X j).F
 b:∀i,i<q->∀k∈(X i).B,k∈GT\/B1<=k
 f:∀i,i<q->∀k∈(X i).F,B1<=k
 kd:GD w
section
variable  {K:KV}{B0 n t:Nat}{Z:List Nat}{c:CX}{s:STP}{v:oF}
def zif{T:Nat->Int}(h:∀S,NM S T w.heap.size none 0 [] (List.replicate 36 false)->Below w.heap.size w S->K (pB w.heap.size) S):call Q 12 #[] K w:=by
 refine ao (goK func12) (zba (cE (vs:=.slice none 0 0::(List.replicate 36 false).map .bool) kr (bU λb a c d=>?_)));have a:=cZ a
 exact h b ⟨a,World.ownsRow_nil _ _ _ _,by simp,by simp,rfl⟩ c
def zbS(af:GD w)(hg:∀g∈GT,g<B0)(aj:B0<=w.heap.size)(h1:1<=n)(h6:n<=6)(hK:∀w' c,CM w' B0 n 0 [] c->Below w.heap.size w w'->c.M=[]->c.cut=List.replicate 36 false->c.now=0->c.T=T00->(∀i,i<6->zfk n (c.X i))->K (.tuple #[pB c.p,ci 0]) w'):call Q 6 #[iv (n:Nat)] K w:=by
 refine ao (goK func6) (UY (aW (dL oo (dE (bG oo (aB oo ?_))))));refine zif (T:=T00) λI n1 b1=>cE (vs:=pcC n w.heap.size (λ_=>.dn 0 0 [] []) 0) kr (bU λw2 V b2 s2=>?_);have V:=cZ V
 have N:=b1.trans (b2.mono b1.size);have l1:=n1.b.lt;refine Rs (Inv:=λu a=>∃(q:Nat) (X:Nat->SX),u=ci (q:Nat)/\q<=6/\PC a w2.heap.size n I.heap.size w.heap.size q X/\Below w.heap.size w a/\w2.heap.size<=a.heap.size) (μ:=λu _=>6-(intOf u).toNat)
  ⟨0,_,rfl,qG _,⟨V,n1.below b2,λi m=>by omega,λi j m=>by omega,λi m=>by omega,λi m=>by omega,af.below N⟩,N,Nat.le_refl _⟩ ?_
 rintro _ dd G mu ⟨q,X,rfl,hq,l,W,s3⟩ ag;have l2:=V.lt;refine aW ?_;by_cases y:q<6
 .refine aG oo (zju λw4 d4 Z=>aY oo oo ?_);have D:∀g∈GT,g<w.heap.size:=λg x=>by have:=hg g x;omega
  have ah:G.heap.size≠1:=λe=>by have:=D 1 (by simp[GT]);omega
  refine ZX (n:=n) (i:=q) (A:=[]) (l.kd.below Z).kd h1 h6 y d4 dc rfl ah oB trivial oB λw5 Y ab ac ai W5 c5 f5 aa=>?_;have O:Ch [G.heap.size] G w5:=((Ch.of_below Z).trans c5 λ_ h=>.inl h)
  have ak:=O.size;have s4:=Z.size;have r:Below G.heap.size G w5:=O.below (λk a=>by rw[mS a];exact Nat.le_refl _) oA;have hx:SxM w5 n q T00 (.up Y ⟨pl0 n,[],gp0⟩ (-1)):=⟨ac,by rw[W5];exact zk0 y⟩
  have J:=ae r l.cb l.cb.lt;refine bK (bJ (bo (aB dc (cE (vs:=uh (.up Y ⟨pl0 n,[],gp0⟩ (-1))) (by unfold uh;rw[show (SX.up Y ⟨pl0 n,[],gp0⟩ (-1)).p=G.heap.size from ab];kernel_rfl) (au (DB (fB underlying70 (s:=2) kf oo oo ?_)))))));rw[oQ]
  refine fY (n:=2) (vs:=uh (.up Y ⟨pl0 n,[],gp0⟩ (-1))) kr rfl J (by rw[ziu y];omega) (λv a=>by simp only[uh,oO,oR,or_false]at a;rcases a with rfl|rfl<;>rfl) λw6 z6 o6=>?_;rw[oK,ziv y]at z6;have U:Ch [I.heap.size] w5 w6:=Ch.of_oth o6 oB;have l6:w6.heap.size=w5.heap.size:=o6.size
  have S:noBy w5 [I.heap.size]:=noBy.of J dc;have C:∀k∈GT,k<w.heap.size:=D;have P:∀{j},j=q->eR X q (.up Y ⟨pl0 n,[],gp0⟩ (-1)) j=.up Y ⟨pl0 n,[],gp0⟩ (-1):=λe=>oJ e;have L:∀{j},j≠q->eR X q (.up Y ⟨pl0 n,[],gp0⟩ (-1)) j=X j:=λe=>oI e;have z:∀k∈(SX.up Y ⟨pl0 n,[],gp0⟩ (-1)).B,k∈GT\/G.heap.size<=k:=λk a=>by
   rcases aa k a with e|e|e
   .exact .inl (by rw[e];simp[GT])
   .exact .inr oo
   .exact .inr oo
  have H:∀k∈(SX.up Y ⟨pl0 n,[],gp0⟩ (-1)).F,G.heap.size<=k:=λk a=>(f5 k a).elim (λe=>by omega) λe=>by omega
  refine aY oo oo ⟨⟨q+1,_,qH ci (by push_cast;rfl),y,⟨z6,?_,λi m=>?_,λi j m hj ad k a=>?_,λi m k a=>?_,λi m k a=>?_,?_⟩,?_,by omega⟩,by rw[ag];show 6-((q:Int)+1).toNat<6-(q:Int).toNat;omega⟩
  .refine(l.nm.below r).ch U (λk E b a c o=>a.ne J (by simp only[oO,oR,or_false]at c;rcases c with rfl|rfl|rfl<;>decide) (mS o)) λ_=>Int.le_refl _
  .by_cases d:i=q
   .rw[P d,d];refine⟨hx.ch U S λk a o=>?_,Y,rfl,ai,W5⟩;rw[mS o]at a;rcases z _ a with e|e
    .have:=C _ e;omega
    .omega
   .rw[L d];obtain⟨i1,i2⟩:=l.st i oo;refine⟨(i1.below r).ch U S λk a o=>?_,i2⟩;rw[mS o]at a;rcases l.b i oo _ a with e|e
    .have:=C _ e;omega
    .omega
  .by_cases d:i=q
   .rw[P d]at a;rw[L oo];intro o;have h7:=(l.st j oo).1.lt k (SX.FB k o);have h8:=l.f j oo k o;rcases z _ a with e|e
    .have:=C _ e;omega
    .omega
   .rw[L d]at a;by_cases R:j=q
    .rw[P R];exact λo=>by have:=H k o;have:=(l.st i oo).1.lt k a;omega
    .rw[L R];exact l.sep i j oo oo ad k a
  .by_cases d:i=q
   .rw[P d]at a;exact(z k a).imp id λe=>by omega
   .rw[L d]at a;exact l.b i oo k a
  .by_cases d:i=q
   .rw[P d]at a
    have:=H k a;omega
   .rw[L d]at a;exact l.f i oo k a
  .exact(l.kd.below r).ch U λg x o=>by have:=C g x;rw[mS o]at this;omega
  .exact aK (W.trans (r.mono W.size)) o6 oo
 .obtain rfl:q=6:=by omega
  refine aB oo (Rt ?_);have D:∀g∈GT,g<w.heap.size:=λg x=>by have:=hg g x;omega
  refine hK G ⟨I.heap.size,w.heap.size,X,T00,[],none,0,List.replicate 36 false,0⟩ ⟨l.cb,l.nm,λi m=>(l.st i m).1,l.sep,λi m k a=>?_,λk a=>?_,λi m k a=>?_,hg,l.kd,(λt a=>by cases a),h1,h6,(by show (0:Int)<=0/\(0:Int)<=1099511627776;decide),λi m=>?_,(by show (0:Int)<T00 6;decide)⟩ W rfl rfl rfl rfl λi m=>(l.st i m).2
  .rcases l.b i m k a with e|e
   .have:=D k e
    exact⟨λe=>by have e:k=I.heap.size:=e;omega,λo=>by have e:=mS (show k∈[w.heap.size]from o);omega⟩
   .exact⟨λe=>by have e:k=I.heap.size:=e;omega,λo=>by have e:=mS (show k∈[w.heap.size]from o);omega⟩
  .have a:k∈[I.heap.size,w.heap.size]:=a;simp only[oO,oR,or_false]at a;rcases a with rfl|rfl<;>omega
  .have:=l.f i m k a;omega
  .obtain⟨Y,e,_⟩:=(l.st i m).2;show (X i).n<=0;rw[e];exact Nat.le_refl _
def zhB(h:CM w B0 n b Z c)(a:K (iv (c.M.length:Nat)) w):call Q 11 #[pB c.p] K w :=
 ao (goK func11) (JY (Dx (aD (au (Bu (CM.ldn h.cb (zie h.nm a)))))))
def SO.base{B:Nat}{l:PL}{t:STA}(h:SO w B l t a gc)(b:B'<=B):SO w B' l t a gc:={h with nd:=wI h.nd b,gr:=wI h.gr b}
theorem HA (h:CM w B0 n b Z c)(hb:b<=20000)(hw:FE x)(dn:∀w',Below w.heap.size w w'->(∀i:Nat,i<6->x=(i:Int)+1->(c.X i).on=false)->K (.tuple #[.agg (saC stZ).toArray,cF]) w')(up:∀w' (i:Nat) Y (r:RS) fu t ga gc,i<6->x=(i:Int)+1->c.X i=.up Y r fu->SO w' w.heap.size r.l t ga gc->Below w.heap.size w w'->K (.tuple #[.agg (saC t).toArray,cT]) w'):call Q 7 #[pB c.p,iv x] K w:=by
 refine ao (goK func7) (Hx (cD (z:=.agg (saC stZ).toArray) kr λw1 O b1 s1=>?_));have O:=cZ O
 have h1:=h.below b1;have J:∀v∈saC stZ,v.oneCell'=true:=by decide
 have C:∀{y:World},Below w1.heap.size w1 y->(∀i:Nat,i<6->x=(i:Int)+1->(c.X i).on=false)->bld Q 38 #[] (λt23=>sto Q 38 (pB w.heap.size) t23 λ_=>bA Q [(some 38,pB w.heap.size),(none,cF)] K) y:=λ{y} U hn=>by
  refine cE (vs:=saC stZ) kr (fY (n:=20) (vs:=saC stZ) kr rfl (ae U O O.lt) dc J λw2 z2 o2=>?_);exact yS (v:=.agg (saC stZ).toArray) (λ_ I=>ldA (n:=20) (vs:=saC stZ) underlying38 rfl kr z2 rfl rfl I) (dn w2 (aK (b1.trans (U.mono b1.size)) o2 oA) hn)
 refine Dx (eK (Ox (bH (cA ?_))));cases hr:bO x with
 | false=>exact iQ (dD (bc (C (Below.refl _ _) λi hi e=>by
   have:bO x=true:=by rw[e];simp only[bO,Bool.and_eq_true,decide_eq_true_eq];omega
   rw[hr]at this;cases this)))
 | true =>
  simp only[bO,Bool.and_eq_true,decide_eq_true_eq]at hr;obtain⟨i,rfl⟩:∃i:Nat,x=(i:Int)+1:=⟨(x-1).toNat,by omega⟩
  have hi:i<6:=by omega
  have go:∀{K:KV} {y:World},K (pA c.p (1+i*2)) y->bv Q 70 (pA c.p 1) (iv (i:Nat)) K y:=λI=>fB underlying70 (s:=2) kf oo oo I;have sb:∀{K:KV} {y:World},K (iv (i:Nat)) y->bT .sub 3 (iv ((i:Int)+1)) (ci 1) K y:=λI=>co oo oo (by rw[show (i:Int)+1-1=(i:Nat)by omega];exact I)
  refine eK (sb (au (DB (go (zbE h1 hi (bH (cA ?_)))))));cases hX:c.X i with
  | dn p u A L=>exact bc (C (Below.refl _ _) λj hj e=>by rw[show j=i by omega,hX];rfl)
  | up Y r fu =>
   have hs:=h1.st i hi;have sz:=h1.sz i hi;rw[hX]at hs sz;have sz:r.A.length<=b:=sz;have hG:=hs.2.G;refine aD (sb (au (DB (go (DM (lK (v:=pB Y.u) h1.cb (by have:=(Cd (n:=n) (np:=c.np) (X:=c.X) (now:=c.now) hi).2;rw[hX]at this;exact this) ?_))))));refine zdI hs.1 hs.2.d.pi oo λw2 t ga gc so b2=>?_;have pi:=hs.2.d.pi
   have tl:(saC t).length=20:=ss (by rw[so.eI];exact pi.i6) (by rw[so.eL];exact pi.l6) (by rw[so.eV];exact pi.v6);have J:∀v∈saC t,v.oneCell'=true:=by
    intro v hv;unfold saC at hv;rw[so.gv]at hv;simp only[List.mem_append,List.mem_map,List.mem_cons,List.not_mem_nil,or_false]at hv;rcases hv with((⟨_,_,rfl⟩|⟨_,_,rfl⟩)|⟨_,_,rfl⟩)|(rfl|rfl)<;>rfl
   have aa:=ae b2 O O.lt;refine fY (n:=20) (vs:=saC t) kr tl aa dc J λw3 z3 o3=>?_;rw[List.take_zero,List.nil_append,List.drop_of_length_le dc,List.append_nil]at z3;have ab:=b1.size;refine yS (v:=.agg (saC t).toArray) (λ_ I=>ldA (n:=20) (vs:=saC t) underlying38 rfl kr z3 (by rw[List.drop_zero,tL oo]) tl I) ?_
   exact up w3 i Y r fu t ga gc hi rfl hX ((so.oth o3 (by have:=O.lt;omega)).base oo) (aK (b1.trans (b2.mono b1.size)) o3 oA)
end
def zdP{K:KV}(h:K (pA b (o+0)) w):aq Q 81 (pA b o) 0 K w:=aQ kr h
def Ya{K:KV}(h:K (pA b (o+1)) w):aq Q 81 (pA b o) 1 K w:=aQ kr h
def ldC{K:KV}{n:Nat}{d:TypeDesc}(f:P.underlying t=some d)(c:d.isRow=true)(hi:(P.info? t).map (·.size)=some n)(a:∀(j:Nat) v,vs[j]? = some v->w.cell? ⟨b,o+j,none⟩=some v)(e:vs.length=n)(h:K (.agg vs.toArray) w):ld P t (pA b o) K w :=
 Ua (run_loadVar_mid w b o t vs d a f c (by rw[e];exact hi)) h
section
variable  {K:KV}{B0 n t:Nat}{Z:List Nat}{c:CX}{s:STP}{v:oF}
def tN{f:FuncId}{b':Nat}{R:CX->EV->Int->Prop}(h:CM w B0 n b Z c)(hd:s.d=(d:Nat))(h1:1<=d)(W:d<13)(hf:doingsV[d*2]? = some (.func (.func f) #[] #[]))(H:doingsV[d*2+1]? = some (.bool cx))(hr:cx=false->bO s.who=true)(V:∀{w2:oG} {Z2:List Nat} {K2:KV},CM w2 B0 n b Z2 c->Below w.heap.size w w2->(∀w' c' e y,R c' e y->CM w' B0 n b' Z2 c'->CS w2 w' B0 Z2->K2 (anV e y) w')->call Q f #[pB c.p,.agg (stC s v).toArray] K2 w2)(B:∀w' c' e y,R c' e y->CM w' B0 n b' Z c'->CS w w' B0 Z->K (anV e y) w'):call Q 9 #[pB c.p,.agg (stC s v).toArray] K w:=by
 refine ao (goK func9) (vD (bU λx y0 A l0=>cD (z:=anV evZ 0) kr λr y1 l l1=>?_));have a:blk x w.heap.size 44 (stC s v):=by simpa[Value.cells]using y0
 have N:blk r x.heap.size 51 (anC evZ 0):=by simpa[Value.cells]using y1
 have k:=A.trans (l.mono A.size);have o:=(h.new A oA a.lt).new l oA N.lt;have s1:=h.csb k;have n4:x.heap.size∉w.heap.size::Z:=λD=>(oO.1 D).elim (λe=>by omega) λD=>by have:=(h.own _ D).1;omega
 have a:=ae l a a.lt;have q:∀{y:oG} {K:KV},blk y w.heap.size 44 (stC s v)->K (.int .u8 (d:Nat)) y->ld Q 5 (pA w.heap.size 0) K y:=λhy B=>lK (v:=.int .u8 (d:Nat)) hy (by rw[<-hd];rfl) B;refine Dx (aD (uY (q a (aU (dL oo (uY (q a (dP underlying5 underlying3 ?_))))))));rw[eY oo oo];refine cJ (bG oo (aB oo (uY (q a ?_))))
 refine fB underlying82 (s:=2) kf oo oo ?_;rw[oQ,oK];obtain⟨E,fr,C⟩:=o.kd.cd;have m:∀(j:Nat) u,[.func (.func f) #[] #[],.bool cx][j]? = some u->r.cell? ⟨0,d*2+j,none⟩=some u:=λj u P=>by
  unfold World.cell?;rw[C]
  have:doingsV[d*2+j]? = some u:=by
   match j with
   | 0=>rw[<-P];exact hf
   | 1=>rw[<-P];exact H
  simpa using this
 refine ldC (n:=2) (vs:=[.func (.func f) #[] #[],.bool cx]) underlying81 rfl kr m rfl ?_;refine cD (z:=.agg #[.nilFunc,.bool false]) kr λw2 y2 U l2=>?_;have z2:blk w2 r.heap.size 81 [.nilFunc,.bool false]:=by simpa[Value.cells]using y2
 refine fY (n:=2) (vs:=[.func (.func f) #[] #[],.bool cx]) kr rfl z2 dc (λu S=>by simp only[oO,oR,or_false]at S;rcases S with rfl|rfl<;>rfl) λw3 i o3=>?_;have i:blk w3 r.heap.size 81 [.func (.func f) #[] #[],.bool cx]:=i;have g:Below r.heap.size r w3:=aK U o3 oA;have F:=o.below g;have O:=ae g N N.lt
 have a:=ae g a a.lt;have s3:=s1.trans ((o.csb g).sub sub2);refine Ya (lK (v:=.bool cx) i rfl (bH ?_));have t:aq Q 81 (pB r.heap.size) 0 (λI=>ld Q 79 I λJ=>ld Q 44 (pB w.heap.size) λL=>bS Q J #[pB c.p,L] λM=>sto Q 51 (pB x.heap.size) M λ_=>bA Q [(some 51,pB x.heap.size)] K) w3:=by
  refine zdP (lK (v:=.func (.func f) #[] #[]) i rfl (Kt a (cB rfl (V F (k.trans (g.mono k.size)) λw4 c' e y G X T=>?_))));exact X.fin' (T.blk oL O) rfl n4 λw5 Y s5=>B w5 c' e y G (Y.sub λ_ h=>oH _ h) ((s3.trans (T.sub sub2)).trans (s5.sub λ_ h=>oH _ h))
 cases cx with
 | true=>exact js (cA (aD t))
 | false =>
  refine my (DN (lK (v:=iv s.who) a rfl (Ox (bH (dD ?_)))));rw[hr rfl];exact aD t
def zhr(h:CM w B0 n b Z c)(l:STW s)(y:s.d=0\/13<=s.d)(k:∀S,CM S B0 n b Z c->CS w S B0 Z->K (anV evZ 1) S):call Q 9 #[pB c.p,.agg (stC s v).toArray] K w:=by
 refine ao (goK func9) (vD (h.pro λB z A i r o q g x=>Dx (aD (uY (lK (v:=.int .u8 s.d) g rfl (aU ?_))))));have a:=i.fin (K:=K) (e:=1) x rfl o q λu j t=>k u j (r.trans t);by_cases f:s.d=0
 .exact kW f (bR f (bc a))
 have m:=l.d;refine dL f (uY (lK (v:=.int .u8 s.d) g rfl (dP underlying5 underlying3 ?_)));rw[eY oo oo];exact cJ (bG f (aG oo a))
def zhy{f:FuncId}(h:CM w B0 n b Z c)(G:s.d=(d:Nat))(W:1<=d)(D:d<13)(H:doingsV[d*2]? = some (.func (.func f) #[] #[]))(r:doingsV[d*2+1]? = some (.bool false))(I:bO s.who=false)(o:∀w',CM w' B0 n b Z c->CS w w' B0 Z->K (anV evZ 10) w'):call Q 9 #[pB c.p,.agg (stC s v).toArray] K w:=by
 refine ao (goK func9) (vD (h.pro λl A Y g O L M m B=>?_));have i:∀{y:oG} {K:KV},blk y A 44 (stC s v)->K (.int .u8 (d:Nat)) y->ld Q 5 (pA A 0) K y:=λJ o=>lK (v:=.int .u8 (d:Nat)) J (by rw[<-G];rfl) o;refine Dx (aD (uY (i m (aU (dL oo (uY (i m (dP underlying5 underlying3 ?_))))))));rw[eY oo oo]
 refine cJ (bG oo (aB oo (uY (i m ?_))));refine fB underlying82 (s:=2) kf oo oo ?_;rw[oQ,oK];obtain⟨E,V,q⟩:=g.kd.cd;have e:∀(j:Nat) u,[.func (.func f) #[] #[],.bool false][j]? = some u->l.cell? ⟨0,d*2+j,none⟩=some u:=λj u t=>by
  unfold World.cell?;rw[q]
  have:doingsV[d*2+j]? = some u:=by
   match j with
   | 0=>rw[<-t];exact H
   | 1=>rw[<-t];exact r
  simpa using this
 refine ldC (n:=2) (vs:=[.func (.func f) #[] #[],.bool false]) underlying81 rfl kr e rfl ?_;refine cD (z:=.agg #[.nilFunc,.bool false]) kr λR T C X=>?_;have U:blk R l.heap.size 81 [.nilFunc,.bool false]:=by simpa[Value.cells]using T
 refine fY (n:=2) (vs:=[.func (.func f) #[] #[],.bool false]) kr rfl U dc (λu x=>by simp only[oO,oR,or_false]at x;rcases x with rfl|rfl<;>rfl) λw3 k N=>?_;have k:blk w3 l.heap.size 81 [.func (.func f) #[] #[],.bool false]:=k;have a:Below l.heap.size l w3:=aK C N oA
 refine Ya (lK (v:=.bool false) k rfl (bH (my (DN (lK (v:=iv s.who) (ae a m m.lt) rfl (Ox (bH (dD ?_))))))));rw[I];exact bc ((g.below a).fin (ae a B B.lt) rfl L M λS F P=>o S F ((O.trans ((g.csb a).sub sub2)).trans P))
def ZT(h:CM w B0 n b Z c)(G:b<=20000)(C:STW s)(hi:STI s)(D:RIn w a s.picks.length pc s.picks)(hq:s.kind≠7/\s.req<c.T 6)(H:s.d≠12)(I:∀w' c' e y,CM w' B0 n (b+64) Z c'->CS w w' B0 Z->SP c c'->K (anV e y) w'):call Q 9 #[pB c.p,.agg (stC s (.slice a s.picks.length pc)).toArray] K w:=by
 have hd:=C.d;have hx:Ak s.ak:=⟨⟨C.node.1,by have:=C.node.2;show s.node<18446744073709551616;omega⟩,⟨C.req.1,by have:=C.req.2;show s.req<18446744073709551616;omega⟩,⟨C.of_.1,by have:=C.of_.2;show s.of_<18446744073709551616;omega⟩⟩
 by_cases F:s.d=0\/13<=s.d
 .exact zhr h C F λw' g j => I w' c _ _ (g.le oo) j .refl
 obtain⟨d,e⟩:∃d:Nat,s.d=(d:Nat):=⟨s.d.toNat,by omega⟩
 have z:bO s.who=true->∃i:Nat,i<6/\s.who=(i:Int)+1:=λD=>by
  simp only[bO,oM,oP]at D;exact⟨(s.who-1).toNat,by omega,by omega⟩
 have o:∀w' c' e y,SP c c'->CM w' B0 n (b+64) Z c'->CS w w' B0 Z->K (anV e y) w':=λw' c' e y u g j => I w' c' e y g j u
 have E:∀{d:Nat} {f:FuncId},s.d=(d:Nat)->1<=d->d<13->doingsV[d*2]? = some (.func (.func f) #[] #[])->doingsV[d*2+1]? = some (.bool false)->(bO s.who=true->call Q 9 #[pB c.p,.agg (stC s (.slice a s.picks.length pc)).toArray] K w)->call Q 9 #[pB c.p,.agg (stC s (.slice a s.picks.length pc)).toArray] K w:=λS U q X M P=>by
  cases D:bO s.who with
  | true=>exact P D
  | false=>exact zhy h S U q X M D λw' g j => I w' c _ _ (g.le oo) j .refl
 match d,e with
 | 0,e=>omega
 | 1,e =>
  refine E e oo oo rfl rfl λk=>?_;obtain⟨i,t,A⟩:=z k;refine tN (R:=λa _ _=>SP c a) (b':=b+64) h e oo oo rfl rfl (λ_=>k) (λq v l=>XJ q G A t hx hq (λa _ g j => l a c _ _ .refl (g.le oo) j) λa b e y L g j => l a b e y (L.sp t) (g.le oo) j) o
 | 2,e =>
  refine E e oo oo rfl rfl λk=>?_;obtain⟨i,t,A⟩:=z k;refine tN (R:=λa _ _=>SP c a) (b':=b+64) h e oo oo rfl rfl (λ_=>k) (λq v l=>ZU q G A t (λa _ g j => l a c _ _ .refl (g.le oo) j) λa b L g j => l a b _ _ L.sp (g.le oo) j) o
 | 3,e=>exact tN (R:=λa _ _=>SP c a) (b':=b+64) h e oo oo rfl rfl (λB=>by cases B) (λq v l=>zfI q λa b _ g j u=>l a b _ _ u (g.le oo) j) o
 | 4,e =>
  refine tN (R:=λa _ _=>SP c a) (b':=b+64) h e oo oo rfl rfl (λB=>by cases B) (λq v l=>zbR (b':=b+64) (R:=λ_ N a _=>SP N a) q (λ{w3 Z3 c3 x Y r fu K3} _ O V W m tk kk J=>?_) (λa _ g j => l a c _ _ .refl (g.le oo) j) (λa x _ _ g j => l a _ _ _ (by exact⟨rfl,rfl⟩) (g.le oo) j) λa b x e _ u g j => l a b _ _ ⟨u.p,u.r⟩ g j) o
  subst O;exact V.hear (x:=x) G W m tk kk (K:=K3) λw' c' e g j u=>J w' c' e u g j
 | 5,e=>exact tN (R:=λa _ _=>SP c a) (b':=b+64) h e oo oo rfl rfl (λB=>by cases B) (λq v l=>zfG q λa b _ g j u=>l a b _ _ u (g.le oo) j) o
 | 6,e=>exact tN (R:=λa _ _=>SP c a) (b':=b+64) h e oo oo rfl rfl (λB=>by cases B) (λq v l=>zdG q λa b _ g j u=>l a b _ _ u (g.le oo) j) o
 | 7,e =>
  refine E e oo oo rfl rfl λk=>?_;exact tN (R:=λa _ _=>SP c a) (b':=b+64) h e oo oo rfl rfl (λ_=>k) (λq v l=>zhs q λa b _ g j u=>l a b _ _ u (g.le oo) j) o
 | 8,e=>exact tN (R:=λa _ _=>SP c a) (b':=b+64) h e oo oo rfl rfl (λB=>by cases B) (λq v l=>zfH q λa b _ g j u=>l a b _ _ u (g.le oo) j) o
 | 9,e =>
  refine E e oo oo rfl rfl λk=>?_;obtain⟨i,t,A⟩:=z k;exact tN (R:=λa _ _=>SP c a) (b':=b+64) h e oo oo rfl rfl (λ_=>k) (λq v l=>ZR q A t hi.n λa g j => l a _ _ _ (by exact⟨rfl,rfl⟩) (g.le oo) j) o
 | 10,e =>
  refine E e oo oo rfl rfl λk=>?_;obtain⟨i,t,A⟩:=z k;exact tN (R:=λa _ _=>SP c a) (b':=b+64) h e oo oo rfl rfl (λ_=>k) (λq v l=>zbT q A t λa g j => l a _ _ _ (by exact⟨rfl,rfl⟩) (g.le oo) j) o
 | 11,e =>
  refine E e oo oo rfl rfl λk=>?_;obtain⟨i,t,A⟩:=z k;exact tN (R:=λa _ _=>SP c a) (b':=b+64) h e oo oo rfl rfl (λ_=>k) (λq v l=>zf8 q G A t (D.below v oA) λa b _ c g j => l a b _ _ (c.sp t) (g.le oo) j) o
 | 12,e=>exact qI e H
 | d+13,e=>omega
end
end
def ox(l1 dA cz bB bX bf fm c16 e17:oF)(zf:oD):=zf 0::l1::dA::cz::bB::bX::bf::zT zf 7 8 (fm::c16::e17::zT zf 18 284 ([]))
def xX(n0 l1 dA cz bB bX bf:oF)(zf:oD):=n0::l1::dA::cz::bB::bX::bf::zT zf 7 295 ([])
def bL(l1 dA cz bB bX bf fm c16 i18:oF)(zf:oD):=zf 0::l1::dA::cz::bB::bX::bf::zT zf 7 8 (fm::c16::zf 17::i18::zT zf 19 283 ([]))
def iT(dA cz bB bX bf fm c16:oF)(zf:oD):=zf 0::zf 1::dA::cz::bB::bX::bf::zT zf 7 8 (fm::c16::zT zf 17 285 ([]))
def lI(cz bB bX bf c16 i22 s23 DT:oF)(zf:oD):=zT zf 0 3 (cz::bB::bX::bf::zT zf 7 9 (c16::zT zf 17 5 (i22::s23::DT::zT zf 25 277 ([]))))
def lJ(bX bf c16 i22 a25:oF)(zf:oD):=zT zf 0 5 (bX::bf::zT zf 7 9 (c16::zT zf 17 5 (i22::zf 23::zf 24::a25::zT zf 26 276 ([]))))
def iU(bf c16 i22 a25 x26:oF)(zf:oD):=zT zf 0 6 (bf::zT zf 7 9 (c16::zT zf 17 5 (i22::zf 23::zf 24::a25::x26::zT zf 27 275 ([]))))
def lL(c16 i22 a25 x26 y27 t28:oF)(zf:oD):=zT zf 0 16 (c16::zT zf 17 5 (i22::zf 23::zf 24::a25::x26::y27::t28::zT zf 29 273 ([])))
def oy(i22 x26 y27 iC cP:oF)(zf:oD):=zT zf 0 22 (i22::zT zf 23 3 (x26::y27::zT zf 28 3 (iC::zf 32::cP::zT zf 34 268 ([]))))
def bQ(i22 x26 y27 iC cP j34:oF)(zf:oD):=zT zf 0 22 (i22::zT zf 23 3 (x26::y27::zT zf 28 3 (iC::zf 32::cP::j34::zT zf 35 267 ([]))))
def iD(x26 y27 cP:oF)(zf:oD):=zT zf 0 26 (x26::y27::zT zf 28 5 (cP::zT zf 34 268 ([])))
def ot(K:KV):KE:=aj Q (cd f3 [1,1,1,1]) (rk f3 K) xf (rk f3 K)
def cq(K:KV):KE:=kZ f3 (b1 127) K
def oz(K:KV):KE:=aj Q (cd f3 (b1 506)) (cq K) (xx xf (cq K) 0) (rk f3 K)
def fp(K:KV)(B1:KE):KE:=kY f3 (b1 4051) B1 (xx xf (cq K) 0) K
def ou(K:KV)(B1:KE):KE:=aj Q (cd f3 (b1 4050)) (fp K B1) (xx xf (cq K) 0) (rk f3 K)
def lE(K:KV):KE:=aj Q (cd f3 (b1 2047)) (rk f3 K) xf (rk f3 K)
def lF(K:KV):KE:=aj Q (cd f3 (b1 16383)) (rk f3 K) xf (rk f3 K)
def iS(K:KV):KE:=aj Q (cd f3 (b1 262143)) (rk f3 K) xf (rk f3 K)
def lH(K:KV):KE:=aj Q (cd f3 (b1 4194303)) (rk f3 K) xf (rk f3 K)
def ov(K:KV):KE:=aj Q (cd f3 (b1 67108863)) (rk f3 K) xf (rk f3 K)
def cr(K:KV):KE:=kZ f3 (b1 134217727) K
def pb(K:KV):KE:=aj Q (cd f3 (b1 536870906)) (cr K) (xx xf (cr K) 2) (rk f3 K)
def fx(K:KV)(B1:KE):KE:=kY f3 (b1 4294967251) B1 (xx xf (cr K) 2) K
def ow(K:KV)(B1:KE):KE:=aj Q (cd f3 (b1 4294967250)) (fx K B1) (xx xf (cr K) 2) (rk f3 K)
abbrev yH(K:KV)(hA0:KE)(n0 l1 dA cz bB bX bf:oF)(w:oG):Prop :=
  call Q 4 #[l1] (λa=>un Q .not a λb w=>aT b false (λa=>lN 22 l1 (λb=>bT .gtr 3 b (ci 60) λc=>a [l1,b,c]) w) (λk=>k [uu,uu,uu] w) λc=>pick b cT (gd c 2) λd w=>aT d false (λa=>lN 24 bf (λb=>bT .gtr 3 b (ci 20) λc=>a [bf,b,c]) w) (λk=>k [uu,uu,uu] w) λe=>pick d cT (gd e 2) λf w=>cond f (call Q 5 #[] K w) (conv Q 5 3 n0 (λg=>bT .rem 3 g (ci 6) λh=>bin Q .add 3 true false (ci 1) h λi=>call Q 6 #[i] λj=>ext Q j 0 λk=>ext Q j 1 λl=>hA0 (ox l1 dA cz bB bX bf i k l (zV (zV (zV (zV zu 0 [n0]) 14 [cF]) 35 [l1,a,b,b,gd c 0,gd c 1,gd c 2,d,d,gd e 0,gd e 1,gd e 2,f]) 49 [n0,g,h,i,j,i,j,k,l]))) w)) w
section
variable {K:KV}{n0 l1 dA cz bB bX bf fm c16 e17 i18 i22 s23 DT a25 x26 y27 t28 iC cP j34:oF}  
def Ib{K:KV}(a:Code)(h:yH K (aj Q a (rk f3 K) (λ_ _ _=>False) (rk f3 K)) Z1 H Z U Y J C w):aj Q (rep [1,1,1,1] a (cd f3 [])) (rk f3 K) xf (rk f3 K) (xX Z1 H Z U Y J C zu) w:=Eq.mp kr h
def GA{K:KV}(h:yH K (ot K) Z1 H Z U Y J C w):Gives Q 3 #[Z1,H,Z,U,Y,J,C] w K:=aw func3 kr (Eq.mp (qH (λc=>aj Q c (rk f3 K) xf (rk f3 K) (xX Z1 H Z U Y J C zu) w) (by kernel_rfl:(rep [1,1,1,1] (cd f3 [1,1,1,1]) (cd f3 []))=(cd f3 []))) (Ib (cd f3 [1,1,1,1]) h))
abbrev wj(K:KV)(hA0:KE)(l1 dA cz bB bX bf fm c16 e17:oF)(zf:oD)(w:oG):Prop :=
  bT .neq 28 e17 (ci 0) (λa w=>aT a false (λa=>bT .eql 27 c16 (.pointer none) (λb=>a [c16,b]) w) (λk=>k [uu,uu] w) λb=>pick a cT (gd b 1) λc w=>cond c (K cF w) (hA0 (bL l1 dA cz bB bX bf fm c16 (ci 0) (zV (zV zf 17 [e17]) 58 [e17,a,a,gd b 0,gd b 1,c])) w)) w
def Ex{K:KV}(h:wj K (aj Q (cd f3 (b1 506)) (aj Q (cd f3 (b1 127)) (rk f3 K) (λ_ _ _=>False) (rk f3 K)) (λi=>@Bool.rec (λ_=>KE) ((λ_ _ _=>False) i) (aj Q (cd f3 (b1 127)) (rk f3 K) (λ_ _ _=>False) (rk f3 K)) (Nat.beq i 0)) (rk f3 K)) Z1 H Z U Y J C U2 V2 zf w):aj Q (cd f3 [1,1,1,1]) (rk f3 K) xf (rk f3 K) (ox Z1 H Z U Y J C U2 V2 zf) w:=Eq.mp kr h
def Ey{K:KV}(h:wj K (oz K) Z1 H Z U Y J C U2 V2 zf w):ot K (ox Z1 H Z U Y J C U2 V2 zf) w:=by delta ot;exact Eq.mp (qH (λc=>aj Q c (rk f3 K) xf (rk f3 K) (ox Z1 H Z U Y J C U2 V2 zf) w) (by kernel_rfl:(cd f3 [1,1,1,1])=(cd f3 [1,1,1,1]))) (Ex h)
def EO{K:KV}(B1:KE)(a:KE)(d:Code)(h:lN 22 Z (λb=>lS H b λc w=>cond c (aj Q d (aj Q (cd f3 (b1 4051)) B1 (λi=>@Bool.rec (λ_=>KE) ((λ_ _ _=>False) i) a (Nat.beq i 0)) (rk f3 K)) (λi=>@Bool.rec (λ_=>KE) ((λ_ _ _=>False) i) a (Nat.beq i 0)) (rk f3 K) (bL Z U Y J C R2 T2 U2 H (zV zf 64 [H,Z,b,c])) w) (a (iT U Y J C R2 T2 U2 (zV (zV (zV zf 1 [Z]) 18 [H]) 64 [H,Z,b,c])) w)) w):aj Q (rep [1,0] d (cd f3 (b1 1012))) B1 (xx xf a 0) (rk f3 K) (bL Z U Y J C R2 T2 U2 H zf) w:=Eq.mp kr h
def EQ{K:KV}(Inv:oF->oG->Prop)(μ:oF->oG->Nat)(g:Inv V2 w)(k:∀(a:oF) (f:oD) (w:oG) (m:Nat),Inv a w->m=μ a w ->
  lN 22 H (λc=>lS a c λd w=>cond d (ou K (λb S=>(Inv (gd b 18) S)/\((μ (gd b 18) S)<m)) (bL H Z U Y J C T2 U2 a (zV f 64 [a,H,c,d])) w) (cq K (iT Z U Y J C T2 U2 (zV (zV (zV f 1 [H]) 18 [a]) 64 [a,H,c,d])) w)) w):oz K (bL H Z U Y J C T2 U2 V2 zf) w:=by
 refine aZ (cd f3 (b1 1012)) (zr [(18,4),(64,41)]) kr (vP [18] Inv) (vQ [18] μ) g ?_;intro e O j;have h:=k _ (zM zf (gd e) (zr [(18,4),(64,41)])) O _ j rfl
 have i:aj Q (rep [1,0] (cd f3 (b1 4050)) (cd f3 (b1 1012))) (λb S=>Inv (gd b 18) S/\μ (gd b 18) S<μ (gd e 18) O) (xx xf (cq K) 0) (rk f3 K) (bL H Z U Y J C T2 U2 (gd e 18) (zM zf (gd e) (zr [(18,4),(64,41)]))) O:=EO (λb S=>Inv (gd b 18) S/\μ (gd b 18) S<μ (gd e 18) O) (cq K) (cd f3 (b1 4050)) (Eq.mp kr h);exact Eq.mp kr i
abbrev wk(K:KV)(B1:KE)(hA0:KE)(l1 dA cz bB bX bf fm c16 i18:oF)(zf:oD)(w:oG):Prop :=
  bv Q 22 l1 i18 (λa=>aq Q 46 a 0 λb=>aq Q 44 b 1 λc=>ld Q 3 c λd=>call Q 7 #[c16,d] λe=>ext Q e 0 λf=>ext Q e 1 λg=>alc Q 38 λh=>sto Q 38 h f λ_ w=>aL (λS w=>hI S 22 l1 i18 λi=>hL S 46 i λj=>hL S 38 h λk=>(call Q 8 #[j,k] (λl=>aL λ_=>alc Q 44 λm=>aL λ_=>sto Q 44 m l λ_=>aq Q 44 m 2 λn=>aq Q 42 n 4 λo=>ld Q 32 o λp=>bT .lss 32 p (cu 549755813888) λr w=>aT r true (λa=>aq Q 44 m 2 (λb=>aq Q 42 b 0 λc=>ld Q 5 c λd=>bT .neq 5 d (cb 7) λe=>a [b,c,d,e]) w) (λk=>k [uu,uu,uu,uu] w) λs=>pick r (gd s 3) cF λt w=>aT t true (λa=>aq Q 44 m 0 (λb=>ld Q 5 b λc=>bT .neq 5 c (cb 12) λd=>a [b,c,d]) w) (λk=>k [uu,uu,uu] w) λu=>pick t (gd u 2) cF λv w=>cond v (ld Q 44 m (λw=>call Q 9 #[c16,w] λx=>hA0 (bL l1 dA cz bB bX bf fm c16 i18 (zV (zV zf 19 [h,g,m]) 70 [e,c16,l1,i18,a,b,c,d,e,f,g,l1,i18,i,j,k,l,n,o,p,r,r,gd s 0,gd s 1,gd s 2,gd s 3,t,t,gd u 0,gd u 1,gd u 2,v,c16,w,x]))) w) (hA0 (bL l1 dA cz bB bX bf fm c16 i18 (zV (zV zf 19 [h,g,m]) 70 [e,c16,l1,i18,a,b,c,d,e,f,g,l1,i18,i,j,k,l,n,o,p,r,r,gd s 0,gd s 1,gd s 2,gd s 3,t,t,gd u 0,gd u 1,gd u 2,v])) w)) w)/\(alc Q 44 (λl=>bw S λ_=>call Q 8 #[j,k] λm=>aL λ_=>sto Q 44 l m λ_=>aq Q 44 l 2 λn=>aq Q 42 n 4 λo=>ld Q 32 o λp=>bT .lss 32 p (cu 549755813888) λr w=>aT r true (λa=>aq Q 44 l 2 (λb=>aq Q 42 b 0 λc=>ld Q 5 c λd=>bT .neq 5 d (cb 7) λe=>a [b,c,d,e]) w) (λk=>k [uu,uu,uu,uu] w) λs=>pick r (gd s 3) cF λt w=>aT t true (λa=>aq Q 44 l 0 (λb=>ld Q 5 b λc=>bT .neq 5 c (cb 12) λd=>a [b,c,d]) w) (λk=>k [uu,uu,uu] w) λu=>pick t (gd u 2) cF λv w=>cond v (ld Q 44 l (λw=>call Q 9 #[c16,w] λx=>hA0 (bL l1 dA cz bB bX bf fm c16 i18 (zV (zV zf 19 [h,g,l]) 70 [e,c16,l1,i18,a,b,c,d,e,f,g,l1,i18,i,j,k,m,n,o,p,r,r,gd s 0,gd s 1,gd s 2,gd s 3,t,t,gd u 0,gd u 1,gd u 2,v,c16,w,x]))) w) (hA0 (bL l1 dA cz bB bX bf fm c16 i18 (zV (zV zf 19 [h,g,l]) 70 [e,c16,l1,i18,a,b,c,d,e,f,g,l1,i18,i,j,k,m,n,o,p,r,r,gd s 0,gd s 1,gd s 2,gd s 3,t,t,gd u 0,gd u 1,gd u 2,v])) w)) w)) w.drew) w
def Ez{K:KV}(B1:KE)(a:KE)(b:KE)(h:wk K B1 a Z1 H Z U Y J C U2 V2 zf w):aj Q (cd f3 (b1 4050)) a (xx xf b 0) (rk f3 K) (bL Z1 H Z U Y J C U2 V2 zf) w:=Eq.mp kr h
def EA{K:KV}(h:wk K B1 (fp K B1) Z1 H Z U Y J C U2 V2 zf w):ou K B1 (bL Z1 H Z U Y J C U2 V2 zf) w:=by delta ou;exact Eq.mp (qH (λc=>aj Q c (fp K B1) (xx xf (cq K) 0) (rk f3 K) (bL Z1 H Z U Y J C U2 V2 zf) w) (by kernel_rfl:(cd f3 (b1 4050))=(cd f3 (b1 4050)))) (Ez B1 (fp K B1) (cq K) h)
abbrev wy(K:KV)(hA0:KE)(dA cz bB bX bf fm c16:oF)(zf:oD)(w:oG):Prop :=
  conv Q 5 3 dA (λa=>bF .rem 3 a fm λb=>bin Q .add 3 true false (ci 1) b λc=>bld Q 44 #[(0,cb 10),(1,c)] λd=>call Q 9 #[c16,d] λe=>bld Q 44 #[(0,cb 11),(1,c)] λf=>call Q 9 #[c16,f] λg=>fld Q 51 g 1 λh=>bT .neq 28 h (ci 0) λi w=>cond i (K cF w) (call Q 7 #[c16,c] (λj=>ext Q j 0 λk=>ext Q j 1 λl=>alc Q 38 λm=>sto Q 38 m k λ_=>hA0 (lI cz bB bX bf c16 c m l (zV (zV (zV zf 2 [dA]) 15 [fm]) 105 [dA,a,fm,b,c,c16,c,d,e,c16,c,f,g,h,i,j,c16,c,j,k,l]))) w)) w
def EU{K:KV}(a:Code)(h:wy K (aj Q a (rk f3 K) (λ_ _ _=>False) (rk f3 K)) Z1 H Z U Y J C zf w):aj Q (rep [1,1,1,1] a (cd f3 (b1 127))) (rk f3 K) xf (rk f3 K) (iT Z1 H Z U Y J C zf) w:=Eq.mp kr h
def EW{K:KV}(h:wy K (lE K) Z1 H Z U Y J C zf w):cq K (iT Z1 H Z U Y J C zf) w:=by delta cq;exact Eq.mp (qH (λc=>aj Q c (rk f3 K) xf (rk f3 K) (iT Z1 H Z U Y J C zf) w) (by kernel_rfl:(rep [1,1,1,1] (cd f3 (b1 2047)) (cd f3 (b1 127)))=(cd f3 (b1 127)))) (EU (cd f3 (b1 2047)) h)
abbrev wA(K:KV)(B1:KE)(l1 dA cz bB bX bf fm c16 i18:oF)(zf:oD)(w:oG):Prop :=
  nC i18 (λa=>B1 (bL l1 dA cz bB bX bf fm c16 a (zV zf 68 [i18,a]))) w
def EX{K:KV}(B1:KE)(a:KE)(h:wA K B1 Z1 H Z U Y J C U2 V2 zf w):aj Q (cd f3 (b1 4051)) B1 (xx xf a 0) (rk f3 K) (bL Z1 H Z U Y J C U2 V2 zf) w:=Eq.mp kr h
def EY{K:KV}(h:wA K B1 Z1 H Z U Y J C U2 V2 zf w):fp K B1 (bL Z1 H Z U Y J C U2 V2 zf) w:=by delta fp;exact Eq.mp (qH (λc=>aj Q c B1 (xx xf (cq K) 0) (rk f3 K) (bL Z1 H Z U Y J C U2 V2 zf) w) (by kernel_rfl:(cd f3 (b1 4051))=(cd f3 (b1 4051)))) (EX B1 (cq K) h)
abbrev wm(K:KV)(hA0:KE)(cz bB bX bf c16 i22 s23 DT:oF)(zf:oD)(w:oG):Prop :=
  un Q .not DT (λa w=>cond a (K cF w) (aq Q 38 s23 3 (λb=>ld Q 35 b λc=>lN 35 c λd=>bT .eql 3 d (ci 0) λe w=>cond e (call Q 5 #[] K w) (aL (λS w=>hF S 38 s23 3 λf=>hL S 35 f λg=>hld S (conv Q 5 3 cz) λh=>hF S 38 s23 3 λi=>hL S 35 i λj=>hld S (blt Q .len #[35] 3 #[false] #[j]) λk=>hld S (bF .rem 3 h k) λl=>hI S 35 g l λm=>hF S 58 m 0 λn=>hL S 32 n λo=>hld S (conv Q 23 2 bB) λp=>hld (λ_=>True) (bin Q .add 2 true false (ci 1) p) λr=>hld S (bld Q 42 #[(0,cb 3),(1,o),(3,r),(4,cu 549755813888)]) λs=>alc Q 42 (λt=>bw S λ_=>sto Q 42 t s λ_=>hA0 (lJ bX bf c16 i22 t (zV (zV (zV (zV zf 3 [cz,bB]) 23 [s23,DT]) 126 [DT,a,b,c,d,e]) 133 [f,g,cz,h,i,j,k,l,m,n,o,bB,p,r,s]))) w) w.drew)) w)) w
def EB{K:KV}(a:Code)(h:wm K (aj Q a (rk f3 K) (λ_ _ _=>False) (rk f3 K)) Z1 H Z U Y J C U2 zf w):aj Q (rep [1,1,1] a (cd f3 (b1 2047))) (rk f3 K) xf (rk f3 K) (lI Z1 H Z U Y J C U2 zf) w:=Eq.mp kr h
def EC{K:KV}(h:wm K (lF K) Z1 H Z U Y J C U2 zf w):lE K (lI Z1 H Z U Y J C U2 zf) w:=by delta lE;exact Eq.mp (qH (λc=>aj Q c (rk f3 K) xf (rk f3 K) (lI Z1 H Z U Y J C U2 zf) w) (by kernel_rfl:(rep [1,1,1] (cd f3 (b1 16383)) (cd f3 (b1 2047)))=(cd f3 (b1 2047)))) (EB (cd f3 (b1 16383)) h)
abbrev wn(K:KV)(hA0:KE)(bX bf c16 i22 a25:oF)(zf:oD)(w:oG):Prop :=
  bT .rem 5 bX (cb 30) (λa=>conv Q 5 3 a λb=>bld Q 44 #[(0,cb 9),(1,i22),(5,b)] λc=>call Q 9 #[c16,c] λd=>ld Q 42 a25 λe=>bld Q 44 #[(0,cb 1),(1,i22),(2,e)] λf=>call Q 9 #[c16,f] λg=>alc Q 51 λh=>sto Q 51 h g λ_=>aq Q 51 h 1 λi=>ld Q 28 i λj=>bT .neq 28 j (ci 0) λk w=>aT k true (λa=>aq Q 51 h 1 (λb=>ld Q 28 b λc=>bT .neq 28 c (ci 8) λd=>a [b,c,d]) w) (λk=>k [uu,uu,uu] w) λl=>pick k (gd l 2) cF λm w=>aT m true (λa=>aq Q 51 h 1 (λb=>ld Q 28 b λc=>bT .neq 28 c (ci 11) λd=>a [b,c,d]) w) (λk=>k [uu,uu,uu] w) λn=>pick m (gd n 2) cF λo w=>aT o true (λa=>aq Q 51 h 1 (λb=>ld Q 28 b λc=>bT .neq 28 c (ci 6) λd=>a [b,c,d]) w) (λk=>k [uu,uu,uu] w) λp=>pick o (gd p 2) cF λr w=>cond r (K cF w) (bld Q 44 #[(0,cb 9),(1,i22),(5,ci (-1))] (λs=>call Q 9 #[c16,s] λt=>hA0 (iU bf c16 i22 a25 h (zV (zV zf 5 [bX]) 148 [c16,i22,bX,a,b,c,d,c16,i22,e,f,g,i,j,k,k,gd l 0,gd l 1,gd l 2,m,m,gd n 0,gd n 1,gd n 2,o,o,gd p 0,gd p 1,gd p 2,r,c16,i22,s,t]))) w)) w
def ED{K:KV}(a:Code)(h:wn K (aj Q a (rk f3 K) (λ_ _ _=>False) (rk f3 K)) J H Z U Y zf w):aj Q (rep [1,1,1,1] a (cd f3 (b1 16383))) (rk f3 K) xf (rk f3 K) (lJ J H Z U Y zf) w:=Eq.mp kr h
def EE{K:KV}(h:wn K (iS K) J H Z U Y zf w):lF K (lJ J H Z U Y zf) w:=by delta lF;exact Eq.mp (qH (λc=>aj Q c (rk f3 K) xf (rk f3 K) (lJ J H Z U Y zf) w) (by kernel_rfl:(rep [1,1,1,1] (cd f3 (b1 262143)) (cd f3 (b1 16383)))=(cd f3 (b1 16383)))) (ED (cd f3 (b1 262143)) h)
abbrev wo(K:KV)(hA0:KE)(bf c16 i22 a25 x26:oF)(zf:oD)(w:oG):Prop :=
  bld Q 44 #[(0,cb 10),(1,i22)] (λa=>call Q 9 #[c16,a] λb=>bld Q 44 #[(0,cb 11),(1,i22),(6,bf)] λc=>call Q 9 #[c16,c] λd=>fld Q 51 d 1 λe=>bT .neq 28 e (ci 0) λf w=>cond f (K cF w) (ld Q 42 a25 (λg=>bld Q 44 #[(0,cb 1),(1,i22),(2,g)] λh=>call Q 9 #[c16,h] λi=>alc Q 51 λj=>sto Q 51 j i λ_=>call Q 7 #[c16,i22] λk=>ext Q k 0 λl=>ext Q k 1 λm=>alc Q 38 λn=>sto Q 38 n l λ_=>hA0 (lL c16 i22 a25 x26 j n (zV (zV (zV zf 6 [bf]) 29 [m]) 182 [c16,i22,a,b,c16,i22,bf,c,d,e,f,c16,i22,g,h,i,k,c16,i22,k,l,m]))) w)) w
def EF{K:KV}(a:Code)(h:wo K (aj Q a (rk f3 K) (λ_ _ _=>False) (rk f3 K)) J H Z U Y zf w):aj Q (rep [1,1,1,1] a (cd f3 (b1 262143))) (rk f3 K) xf (rk f3 K) (iU J H Z U Y zf) w:=Eq.mp kr h
def EG{K:KV}(h:wo K (lH K) J H Z U Y zf w):iS K (iU J H Z U Y zf) w:=by delta iS;exact Eq.mp (qH (λc=>aj Q c (rk f3 K) xf (rk f3 K) (iU J H Z U Y zf) w) (by kernel_rfl:(rep [1,1,1,1] (cd f3 (b1 4194303)) (cd f3 (b1 262143)))=(cd f3 (b1 262143)))) (EF (cd f3 (b1 4194303)) h)
abbrev wu(K:KV)(hA0:KE)(c16 i22 a25 x26 y27 t28:oF)(zf:oD)(w:oG):Prop :=
  ld Q 42 a25 (λa=>bld Q 44 #[(0,cb 1),(1,i22),(2,a)] λb=>call Q 9 #[c16,b] λc=>alc Q 51 λd=>sto Q 51 d c λ_=>call Q 7 #[c16,i22] λe=>ext Q e 0 λf=>ext Q e 1 λg=>alc Q 38 λh=>sto Q 38 h f λ_=>un Q .not g λi w=>aT i false (λa=>aq Q 51 d 1 (λb=>ld Q 28 b λc=>aq Q 51 y27 1 λd=>ld Q 28 d λe=>bF .neq 28 c e λf=>a [b,c,d,e,f]) w) (λk=>k [uu,uu,uu,uu,uu] w) λj=>pick i cT (gd j 4) λk w=>aT k false (λa=>ld Q 38 t28 (λb=>ld Q 38 h λc=>call Q 10 #[b,c] λd=>un Q .not d λe=>a [b,c,d,e]) w) (λk=>k [uu,uu,uu,uu] w) λl=>pick k cT (gd l 3) λm w=>cond m (K cF w) (hA0 (oy i22 x26 y27 h (ci 0) (zV (zV (zV (zV (zV (zV zf 16 [c16]) 25 [a25]) 28 [t28]) 30 [d]) 32 [g]) 204 [c16,i22,a,b,c,e,c16,i22,e,f,g,g,i,i,gd j 0,gd j 1,gd j 2,gd j 3,gd j 4,k,k,gd l 0,gd l 1,gd l 2,gd l 3,m])) w)) w
def EH{K:KV}(a:Code)(h:wu K (aj Q a (rk f3 K) (λ_ _ _=>False) (rk f3 K)) C H Z U Y J zf w):aj Q (rep [1,1,1,1] a (cd f3 (b1 4194303))) (rk f3 K) xf (rk f3 K) (lL C H Z U Y J zf) w:=Eq.mp kr h
def EI{K:KV}(h:wu K (ov K) C H Z U Y J zf w):lH K (lL C H Z U Y J zf) w:=by delta lH;exact Eq.mp (qH (λc=>aj Q c (rk f3 K) xf (rk f3 K) (lL C H Z U Y J zf) w) (by kernel_rfl:(rep [1,1,1,1] (cd f3 (b1 67108863)) (cd f3 (b1 4194303)))=(cd f3 (b1 4194303)))) (EH (cd f3 (b1 67108863)) h)
abbrev ww(K:KV)(hA0:KE)(i22 x26 y27 iC cP:oF)(zf:oD)(w:oG):Prop :=
  hA0 (bQ i22 x26 y27 iC cP (ci 0) zf) w
def EJ{K:KV}(h:ww K (aj Q (cd f3 (b1 536870906)) (aj Q (cd f3 (b1 134217727)) (rk f3 K) (λ_ _ _=>False) (rk f3 K)) (λi=>@Bool.rec (λ_=>KE) ((λ_ _ _=>False) i) (aj Q (cd f3 (b1 134217727)) (rk f3 K) (λ_ _ _=>False) (rk f3 K)) (Nat.beq i 2)) (rk f3 K)) J H Z U Y zf w):aj Q (cd f3 (b1 67108863)) (rk f3 K) xf (rk f3 K) (oy J H Z U Y zf) w:=Eq.mp kr h
def EK(h:ww K (pb K) i22 x26 y27 iC cP zf w):ov K (oy i22 x26 y27 iC cP zf) w:=by delta ov;exact Eq.mp (qH (λc=>aj Q c (rk f3 K) xf (rk f3 K) (oy i22 x26 y27 iC cP zf) w) (by kernel_rfl:(cd f3 (b1 67108863))=(cd f3 (b1 67108863)))) (EJ h)
def ER{K:KV}(B1:KE)(e:KE)(f:Code)(h:aq Q 38 Z 4 (λa=>ld Q 36 a λb=>lN 36 b λc=>lS H c λd w=>cond d (aj Q f (aj Q (cd f3 (b1 4294967251)) B1 (λi=>@Bool.rec (λ_=>KE) ((λ_ _ _=>False) i) e (Nat.beq i 2)) (rk f3 K)) (λi=>@Bool.rec (λ_=>KE) ((λ_ _ _=>False) i) e (Nat.beq i 2)) (rk f3 K) (bQ C U Y Z J H (zV zf 230 [H,a,b,c,d])) w) (e (iD U Y J (zV (zV (zV (zV zf 22 [C]) 31 [Z]) 34 [H]) 230 [H,a,b,c,d])) w)) w):aj Q (rep [1,0] f (cd f3 (b1 1073741812))) B1 (xx xf e 2) (rk f3 K) (bQ C U Y Z J H zf) w:=Eq.mp kr h
def ES(Inv:oF->oF->oG->Prop)(μ:oF->oF->oG->Nat)(k:Inv cP j34 w)(o:∀(a b:oF) (j:oD) (w:oG) (m:Nat),Inv a b w->m=μ a b w ->
  aq Q 38 iC 4 (λd=>ld Q 36 d λe=>lN 36 e λf=>lS b f λg w=>cond g (ow K (λc S=>(Inv (gd c 33) (gd c 34) S)/\((μ (gd c 33) (gd c 34) S)<m)) (bQ i22 x26 y27 iC a b (zV j 230 [b,d,e,f,g])) w) (cr K (iD x26 y27 a (zV (zV (zV (zV j 22 [i22]) 31 [iC]) 34 [b]) 230 [b,d,e,f,g])) w)) w):pb K (bQ i22 x26 y27 iC cP j34 zf) w:=by
 refine aZ (cd f3 (b1 1073741812)) (zr [(33,2),(230,26)]) kr (vP [33,34] Inv) (vQ [33,34] μ) k ?_;intro i O n;have h:=o _ _ (zM zf (gd i) (zr [(33,2),(230,26)])) O _ n rfl
 have l:aj Q (rep [1,0] (cd f3 (b1 4294967250)) (cd f3 (b1 1073741812))) (λc S=>Inv (gd c 33) (gd c 34) S/\μ (gd c 33) (gd c 34) S<μ (gd i 33) (gd i 34) O) (xx xf (cr K) 2) (rk f3 K) (bQ i22 x26 y27 iC (gd i 33) (gd i 34) (zM zf (gd i) (zr [(33,2),(230,26)]))) O:=ER (λc S=>Inv (gd c 33) (gd c 34) S/\μ (gd c 33) (gd c 34) S<μ (gd i 33) (gd i 34) O) (cr K) (cd f3 (b1 4294967250)) (Eq.mp kr h)
 exact Eq.mp kr l
abbrev wx(K:KV)(B1:KE)(hA0:KE)(i22 x26 y27 iC cP j34:oF)(zf:oD)(w:oG):Prop :=
  aq Q 38 iC 4 (λa=>ld Q 36 a λb=>bv Q 36 b j34 λc=>aq Q 61 c 0 λd=>ld Q 3 d λe=>bF .eql 3 e i22 λf w=>aT f true (λa=>aq Q 38 iC 4 (λb=>ld Q 36 b λc=>bv Q 36 c j34 λd=>aq Q 61 d 1 λe=>ld Q 32 e λf=>bT .eql 32 f (cu 549755813888) λg=>a [b,c,j34,d,e,f,g]) w) (λk=>k [uu,uu,uu,uu,uu,uu,uu] w) λg=>pick f (gd g 6) cF λh w=>cond h (nC cP (λi=>hA0 (bQ i22 x26 y27 iC i j34 (zV zf 237 [a,b,j34,c,d,e,i22,f,f,gd g 0,gd g 1,gd g 2,gd g 3,gd g 4,gd g 5,gd g 6,h,cP,i]))) w) (hA0 (bQ i22 x26 y27 iC cP j34 (zV zf 237 [a,b,j34,c,d,e,i22,f,f,gd g 0,gd g 1,gd g 2,gd g 3,gd g 4,gd g 5,gd g 6,h])) w)) w
def EL{K:KV}(B1:KE)(a:KE)(b:KE)(h:wx K B1 a C H Z U Y J zf w):aj Q (cd f3 (b1 4294967250)) a (xx xf b 2) (rk f3 K) (bQ C H Z U Y J zf) w:=Eq.mp kr h
def EM(h:wx K B1 (fx K B1) i22 x26 y27 iC cP j34 zf w):ow K B1 (bQ i22 x26 y27 iC cP j34 zf) w:=by delta ow;exact Eq.mp (qH (λc=>aj Q c (fx K B1) (xx xf (cr K) 2) (rk f3 K) (bQ i22 x26 y27 iC cP j34 zf) w) (by kernel_rfl:(cd f3 (b1 4294967250))=(cd f3 (b1 4294967250)))) (EL B1 (fx K B1) (cr K) h)
abbrev wC(K:KV)(x26 y27 cP:oF)(zf:oD)(w:oG):Prop :=
  aq Q 51 x26 1 (λa=>ld Q 28 a λa=>bT .eql 28 a (ci 0) λa w=>aT a true (λa=>aq Q 51 y27 1 (λb=>ld Q 28 b λc=>bT .neq 28 c (ci 0) λd=>a [b,c,d]) w) (λk=>k [uu,uu,uu] w) λb=>pick a (gd b 2) cF λa w=>aT a false (λa=>aq Q 51 y27 1 (λb=>ld Q 28 b λc=>bT .eql 28 c (ci 0) λd=>bT .eql 3 cP (ci 1) λe=>bF .neq 4 d e λf=>a [b,c,d,cP,e,f]) w) (λk=>k [uu,uu,uu,uu,uu,uu] w) λb=>pick a cT (gd b 5) λa w=>aT a false (λa=>bT .gtr 3 cP (ci 1) (λb=>a [cP,b]) w) (λk=>k [uu,uu] w) λb=>pick a cT (gd b 1) λa w=>cond a (K cF w) (aq Q 51 x26 1 (λa=>ld Q 28 a λa=>bT .eql 28 a (ci 8) λa w=>aT a true (λa=>aq Q 51 y27 1 (λb=>ld Q 28 b λc=>bT .neq 28 c (ci 0) λd=>a [b,c,d]) w) (λk=>k [uu,uu,uu] w) λb=>pick a (gd b 2) cF λa w=>cond a (K cF w) (aq Q 51 x26 1 (λa=>ld Q 28 a λa=>bT .eql 28 a (ci 0) λa w=>aT a false (λa=>aq Q 51 x26 1 (λb=>ld Q 28 b λc=>bT .eql 28 c (ci 8) λd=>a [b,c,d]) w) (λk=>k [uu,uu,uu] w) λb=>pick a cT (gd b 2) λa w=>aT a false (λa=>aq Q 51 y27 1 (λb=>ld Q 28 b λc=>aq Q 51 x26 1 λd=>ld Q 28 d λe=>bF .eql 28 c e λf=>a [b,c,d,e,f]) w) (λk=>k [uu,uu,uu,uu,uu] w) λb=>pick a cT (gd b 4) λa w=>aT a true (λa=>call Q 5 #[] (λb=>a [b]) w) (λk=>k [uu] w) λb=>pick a (gd b 0) cF K) w)) w)) w
def EZ{K:KV}(h:wC K U H Z zf w):aj Q (cd f3 (b1 134217727)) (rk f3 K) xf (rk f3 K) (iD U H Z zf) w:=Eq.mp kr h
def Fa(h:wC K x26 y27 cP zf w):cr K (iD x26 y27 cP zf) w:=by delta cr;exact Eq.mp (qH (λc=>aj Q c (rk f3 K) xf (rk f3 K) (iD x26 y27 cP zf) w) (by kernel_rfl:(cd f3 (b1 134217727))=(cd f3 (b1 134217727)))) (EZ h)
abbrev wD(K:KV)(B1:KE)(i22 x26 y27 iC cP j34:oF)(zf:oD)(w:oG):Prop :=
  nC j34 (λa=>B1 (bQ i22 x26 y27 iC cP a (zV zf 235 [j34,a]))) w
def Fb{K:KV}(B1:KE)(a:KE)(h:wD K B1 C H Z U Y J zf w):aj Q (cd f3 (b1 4294967251)) B1 (xx xf a 2) (rk f3 K) (bQ C H Z U Y J zf) w:=Eq.mp kr h
def Fc(h:wD K B1 i22 x26 y27 iC cP j34 zf w):fx K B1 (bQ i22 x26 y27 iC cP j34 zf) w:=by delta fx;exact Eq.mp (qH (λc=>aj Q c B1 (xx xf (cr K) 2) (rk f3 K) (bQ i22 x26 y27 iC cP j34 zf) w) (by kernel_rfl:(cd f3 (b1 4294967251))=(cd f3 (b1 4294967251)))) (Fb B1 (cr K) h)
end
attribute [irreducible] ot cq oz fp ou lE lF iS lH ov cr pb fx ow
def Fd(c1 a3 b4:oF)(zf:oD):=zf 0::c1::zf 2::a3::b4::zT zf 5 61 ([])
def Fe(zf:oD):=zT zf 0 66 ([])
def uG(K:KV):KE:=aj Q (cd f5 (b1 63)) (rk f5 K) xf (rk f5 K)
abbrev Gg(K:KV)(hA0:KE)(w:oG):Prop :=
  call Q 6 #[ci 2] (λa=>ext Q a 0 λb=>ext Q a 1 λc=>bT .neq 28 c (ci 0) λd w=>aT d false (λa=>bT .eql 27 b (.pointer none) (λc=>a [b,c]) w) (λk=>k [uu,uu] w) λe=>pick d cT (gd e 1) λf w=>cond f (K cF w) (bld Q 42 #[(0,cb 1),(3,ci 10)] (λg=>bld Q 44 #[(0,cb 1),(1,ci 1),(2,g)] λh=>call Q 9 #[b,h] λi=>alc Q 51 λj=>sto Q 51 j i λ_=>bld Q 44 #[(0,cb 2),(1,ci 1)] λk=>call Q 9 #[b,k] λl=>alc Q 51 λm=>sto Q 51 m l λ_=>hA0 (Fd b j m (zV (zV (zV zu 0 [cF]) 2 [c]) 8 [a,a,b,c,c,d,d,gd e 0,gd e 1,f,b,g,h,i,b,k,l]))) w)) w
section
variable {K:KV}{c1 a3 b4:oF}  
def QP{K:KV}(a:Code)(h:Gg K (aj Q a (rk f5 K) (λ_ _ _=>False) (rk f5 K)) w):aj Q (rep (b1 63) a (cd f5 [])) (rk f5 K) xf (rk f5 K) (Fe zu) w:=Eq.mp kr h
def Pk{K:KV}(h:Gg K (uG K) w):Gives Q 5 #[] w K:=aw func5 kr (Eq.mp (qH (λc=>aj Q c (rk f5 K) xf (rk f5 K) (Fe zu) w) (by kernel_rfl:(rep (b1 63) (cd f5 (b1 63)) (cd f5 []))=(cd f5 []))) (QP (cd f5 (b1 63)) h))
def MN(h:bld Q 44 #[(0,cb 4)] (λa=>call Q 9 #[c1,a] λa=>alc Q 51 λC=>sto Q 51 C a λ_=>call Q 7 #[c1,ci 2] λa=>ext Q a 0 λy=>ext Q a 1 λa=>alc Q 38 λD=>sto Q 38 D y λ_=>aq Q 51 a3 1 λb=>ld Q 28 b λb=>bT .eql 28 b (ci 0) λb w=>aT b true (λr=>aq Q 51 a3 0 (λb=>aq Q 49 b 1 λc=>ld Q 32 c λa=>bT .eql 32 a (cu 1) λd=>r [b,c,a,d]) w) (λk=>k [uu,uu,uu,uu] w) λl=>pick b (gd l 3) cF λb w=>aT b true (λs=>aq Q 51 b4 1 (λa=>ld Q 28 a λb=>bT .eql 28 b (ci 0) λz=>s [a,b,z]) w) (λk=>k [uu,uu,uu] w) λm=>pick b (gd m 2) cF λc w=>aT c true (λt=>aq Q 51 C 1 (λd=>ld Q 28 d λe=>bT .eql 28 e (ci 0) λa=>t [d,e,a]) w) (λk=>k [uu,uu,uu] w) λn=>pick c (gd n 2) cF λf w=>aT f true (λu=>u [a] w) (λk=>k [uu] w) λo=>pick f (gd o 0) cF λa w=>aT a true (λv=>aq Q 38 D 3 (λg=>ld Q 35 g λa=>lN 35 a λb=>bT .eql 3 b (ci 1) λA=>v [g,a,b,A]) w) (λk=>k [uu,uu,uu,uu] w) λp=>pick a (gd p 3) cF λi w=>aT i true (λx=>call Q 11 #[c1] (λj=>bT .eql 3 j (ci 0) λB=>x [c1,j,B]) w) (λk=>k [uu,uu,uu] w) λq=>pick i (gd q 2) cF K) w):uG K (Fd c1 a3 b4 zf) w:=mpK h
end
attribute [irreducible] uG
def Ic(l0 i3:oF)(zf:oD):=l0::zf 1::zf 2::i3::zT zf 4 17 ([])
def Id(zf:oD):=zT zf 0 21 ([])
def lV(K:KV):KE:=kZ f4 [1,1,1] K
def wW(K:KV):KE:=aj Q (cd f4 (b1 58)) (lV K) (xx xf (lV K) 0) (rk f4 K)
section
variable {K:KV}{l0 i3:oF}  
def Sf{K:KV}(h:lN 22 H (λa=>bT .gtr 3 a (ci 100) λb w=>cond b (K cF w) (wW K (Ic H (ci 0) (zV (zV zu 2 [cF]) 4 [H,a,b])) w)) w):Gives Q 4 #[H] w K:=aw func4 kr (mpK h)
def Pi(Inv:oF->oG->Prop)(μ:oF->oG->Nat)(f:Inv i3 w)(i:∀(a:oF) (e:oD) (w:oG) (m:Nat),Inv a w->m=μ a w ->
  lN 22 l0 (λb=>lS a b λc w=>cond c (bv Q 22 l0 a (λb=>aq Q 46 b 0 λb=>aq Q 44 b 6 λb=>ld Q 24 b λb=>lN 24 b λb=>bT .gtr 3 b (ci 20) λb w=>cond b (K cF w) (nC a (λa w=>(Inv a w)/\((μ a w)<m)) w)) w) (lV K (Id (zV (zV (zV e 0 [l0]) 3 [a]) 7 [a,l0,b,c])) w)) w):wW K (Ic l0 i3 zf) w:=by refine aZ (cd f4 (b1 116)) (zr [(2,2),(7,14)]) kr (vP [3] Inv) (vQ [3] μ) f ?_;intro d j g;have h:=i _ (zM zf (gd d) (zr [(2,2),(7,14)])) j _ g rfl;revert h;generalize (lV K)=qc0;exact mpF
def Pj(h:K cT w):lV K (Id zf) w:=mpK h
end
attribute [irreducible] lV wW
def AA(x2 s3 t4 y5 t15:oF)(zf:oD):=zf 0::zf 1::x2::s3::t4::y5::zT zf 6 9 (t15::zT zf 16 15 ([]))
def rr(t4 y5:oF)(zf:oD):=zT zf 0 4 (t4::y5::zT zf 6 25 ([]))
def fH(K:KV):KE:=kZ f8 [1,1,1] K
def mV(K:KV):KE:=aj Q (cd f8 [1,1,0,1]) (fH K) xf (rk f8 K)
section
variable {K:KV}{x2 s3 t4 y5 t15:oF}  
def Ku{K:KV}(h:box Q 46 Z (λb=>box Q 38 H λc=>alc Q 44 λd=>aq Q 46 b 0 λe=>ld Q 44 e λf=>alc Q 44 λg=>sto Q 44 g f λ_=>aq Q 46 b 1 λh=>ld Q 4 h λi w=>aT i true (λb=>aq Q 38 c 3 (λa=>ld Q 35 a λc=>lN 35 c λd=>bT .gtr 3 d (ci 0) λe=>b [a,c,d,e]) w) (λk=>k [uu,uu,uu,uu] w) λa=>pick i (gd a 3) cF λj=>mV K (AA b c d g j (zV (zV zu 0 [Z,H]) 6 [e,f,h,i,i,gd a 0,gd a 1,gd a 2,gd a 3]))) w):Gives Q 8 #[Z,H] w K:=by refine aw func8 kr <|Eq.mp (qH (λc=>aj Q c _ _ _ _ w) (by kernel_rfl:(rep [1,1,0,1] (cd f8 [1,1,0,1]) (cd f8 []))=(cd f8 []))) ?_;revert h;delta mV fH;generalize (cd f8 [1,1,0,1])=xc0;exact mpF
def yI(h:cond t15 (sF 38 s3 3 (λb=>sL 35 b λc=>sF 46 x2 2 λd=>sL 5 d λe=>sti (conv Q 5 3 e) λf=>sF 38 s3 3 λg=>sL 35 g λa=>sti (blt Q .len #[35] 3 #[false] #[a]) λh=>sti (bF .rem 3 f h) λi=>sI 35 c i λj=>sF 58 j 0 λk=>sL 32 k λl=>sF 44 y5 2 λm=>sF 42 m 1 λn=>sto Q 32 n l λ_=>fH K (rr t4 y5 (zV (zV zf 2 [x2,s3]) 15 [t15,b,c,d,e,f,g,a,h,i,j,k,l,m,n]))) w.drew) (fH K (rr t4 y5 (zV (zV zf 2 [x2,s3]) 15 [t15])) w)):mV K (AA x2 s3 t4 y5 t15 zf) w:=by delta mV;revert h;generalize (fH K)=qc0;exact mpF
def Ie(h:ld Q 44 y5 (λa=>sto Q 44 t4 a λ_=>bA Q [(some 44,t4)] K) w):fH K (rr t4 y5 zf) w:=mpK h
end
attribute [irreducible] fH mV
section
open Go.ChangeMaps
def zdM{K:KV}(h:K (pA b (o+0)) w):aq Q 51 (pA b o) 0 K w:=aQ kr h
def kx{K:KV}(h:K (pA b (o+14)) w):aq Q 51 (pA b o) 1 K w:=aQ kr h
section
variable  {B0 n b' t:Nat}{Z Z':List Nat}{c:CX}
theorem CM.newL (h : CM w B0 n b Z c) (hb : Below w.heap.size w w') (hz : ∀ t ∈ Z', t ∈ Z ∨ (w.heap.size ≤ t ∧ t < w'.heap.size)) : CM w' B0 n b Z' c :=
  have b0 := h.b0
  have key : ∀ x ∈ Z', x < w'.heap.size ∧ B0 ≤ x ∧ x ≠ c.p ∧ x ∉ c.np :: rwB c.ra ∧ ∀ i, i < 6 → x ∉ (c.X i).B := fun x hx => by
    rcases hz x hx with hx | ⟨h1, h2⟩
    · exact (h.below hb).own x hx
    · exact ⟨h2, by omega, fun e => by have := h.cb.lt; omega, fun hm => by have := h.nm.lt x hm; omega, fun i hi hm => by have := (h.st i hi).lt x hm; omega⟩
  { h.below hb with own := key }
def SO.cs{B:Nat}{l:PL}{t:STA}(h:SO w B l t a gc)(s:CS w S B0 Z)(c:∀k∈rwB t.na++rwB a,k∈Z):SO S B l t a gc :=
 {h with
  nd:=dl h.nd λk b=>s.z k (c k (List.mem_append_left _ (Eb b)))
  gr:=dl h.gr λk b=>s.z k (c k (List.mem_append_right _ (Eb b)))}
def SO.rw{B:Nat}{l:PL}{t:STA}(h:SO w B l t a gc):∀k∈rwB t.na++rwB a,B<=k/\k<w.heap.size:=λk b =>
 (oU.1 b).elim (λb=>jS h.nd k (LJ b h.nd)) λb=>jS h.gr k (LJ b h.gr)
end
section
variable  {K:KV}{B0 n t:Nat}{Z:List Nat}{c:CX}{l:PL}{y nd a:Int}
theorem zds {zf : Nat → Value} {bx by_ g : Nat} {ex ey : EV} (hx : blk w bx 51 (anC ex x)) (hy : blk w by_ 51 (anC ey y)) (hf : zdi x y g) (hW : ∀ K' : KV, (∀ w', Below w.heap.size w w' → K' cT w') → call Tryz.prog 5 #[] K' w) (hK : ∀ w', Below w.heap.size w w' → K cT w') :
    cr K (iD (pB bx) (pB by_) (ci (g : Nat)) zf) w := by
  refine Fa ?_
  have lx : ∀ {K : KV}, K (ci x) w → ld Tryz.prog 28 (.pointer (some ⟨bx, 0 + 14, none⟩)) K w := fun hK => ld1 (v := ci x) (fun _ => by kernel_rfl) hx rfl hK
  have ly : ∀ {K : KV}, K (ci y) w → ld Tryz.prog 28 (.pointer (some ⟨by_, 0 + 14, none⟩)) K w := fun hK => ld1 (v := ci y) (fun _ => by kernel_rfl) hy rfl hK
  rcases hf with ⟨rfl | rfl, rfl, rfl⟩ | ⟨rfl | rfl, rfl, rfl⟩
  · refine kx (lx (aU (ck (by decide) (kx (ly (bo (bR (by decide) ?_)))))))
    refine dL (by decide) (kx (ly (aU (aU (Oo Tryz.underlying4 (by decide) ?_)))))
    refine bG (by decide) (eK (dE (cA (aB (by decide) ?_))))
    refine kx (lx (aU (dt (by decide) (bG (by decide) (aD ?_)))))
    refine kx (lx (aU (kW (by decide) (bR (by decide) (iQ (dD ?_))))))
    exact my (hW _ fun w' b' => dD (hK w' b'))
  · refine kx (lx (aU (dt (by decide) (bG (by decide) ?_))))
    refine eK (kx (ly (aU (aU (Oo Tryz.underlying4 (by decide) ?_)))))
    refine cA (eK (dE (cA (aB (by decide) ?_))))
    refine kx (lx (aU (ck (by decide) (kx (ly (bo (bR (by decide) (aB (by decide) ?_))))))))
    refine kx (lx (aU (dL (by decide) (kx (lx (aU (bG (by decide) ?_)))))))
    refine kW (by decide) (bR (by decide) ?_)
    exact my (hW _ fun w' b' => dD (hK w' b'))
  all_goals
    refine kx (lx (aU (dt (by decide) (bG (by decide) ?_))))
    refine eK (kx (ly (aU (aU (Oo Tryz.underlying4 (by decide) ?_)))))
    refine cA (eK (dE (cA (aB (by decide) ?_))))
    refine kx (lx (aU (dt (by decide) (bG (by decide) (aD ?_)))))
    refine kx (lx (aU (dL (by decide) (kx (lx (aU (bG (by decide) ?_)))))))
    refine dL (by decide) (kx (ly (kx (lx (aU (bG (by decide) ?_))))))
    exact ck (by decide) (hW _ fun w' b' => bR (by decide) (hK w' b'))
end
def AskR.post{n:Nat}{c c':CX}{Y:DuX}{s:RS}{l:PL}{nd a y z:Int}{e:EV}(h:AskR i (tkX nd a) c c' e z)(b:c.X i=.up Y s (-1))(d:PostY l i (tkX nd a) x y s.l)(g:AgS l i):z=y/\∃Y',c'.X i=.up Y' s (-1):=by
 cases h with
 | no hX' hn =>
  rename_i Y1 Y' j f;rw[b]at hX';cases hX';exact⟨d.no g hn,Y',updX_eq⟩
 | yes hX' h0 hna hf hw =>
  rw[b]at hX';cases hX';exact(d.yes g h0 hna).elim
 | off hX' h0 hna hf =>
  rw[b]at hX';cases hX';exact qI rfl hf
section
variable  {K:KV}{B0 n t:Nat}{Z:List Nat}{c:CX}{l:PL}{y nd a:Int}
def CM.alcAn{e:EV}{K2:oF->KV}(h:CM w B0 n b Z c)(i:∀S q,CM S B0 n b (q::Z) c->CS w S B0 Z->q∉Z->blk S q 51 (anC e x)->K2 (pB q) undef S):alc Q 51 (λp=>sto Q 51 p (anV e x) (K2 p)) w:=by
 refine cD (z:=anV evZ 0) kr λl d g m=>?_;have d:=cZ d
 refine fY (n:=15) (vs:=anC e x) kr rfl d dc UQ λO a k=>?_;have a:blk O w.heap.size 51 (anC e x):=a;have f:Below w.heap.size w O:=aK g k oA;exact i O _ (h.new f oA a.lt) (h.csb f) (λj=>by have:=(h.own _ j).1;omega) a
theorem CM.alcSt {w0 : World} {r : RS} {K2 : Value → KV} {ga : Option Addr} {gc : Nat} {st : STA} (h : CM w0 B0 n b Z c) (hb : Below w0.heap.size w0 w) (so : SO w w0.heap.size r.l st ga gc) (hp : PI r.l) (hK : ∀ w' q, CM w' B0 n b (q :: (rwB st.na ++ rwB ga) ++ Z) c → CS w0 w' B0 Z → SO w' w0.heap.size r.l st ga gc → blk w' q 38 (saC st) → K2 (pB q) undef w') :
    alc Tryz.prog 38 (fun p => sto Tryz.prog 38 p (.agg (saC st).toArray) (K2 p)) w := by
  have tl20 : (saC st).length = 20 := ss (by rw [so.eI]; exact hp.i6) (by rw [so.eL]; exact hp.l6) (by rw [so.eV]; exact hp.v6)
  refine cD (z := .agg (saC stZ).toArray) (by kernel_rfl) fun w2 z2 b2 s2 => ?_
  have z2 : blk w2 w.heap.size 38 (saC stZ) := by simpa [Value.cells] using z2
  have one : ∀ v ∈ saC st, v.oneCell' = true := by
    intro v hv
    unfold saC at hv
    rw [so.gv] at hv
    simp only [List.mem_append, List.mem_map, List.mem_cons, List.not_mem_nil, or_false] at hv
    rcases hv with ((⟨_, _, rfl⟩ | ⟨_, _, rfl⟩) | ⟨_, _, rfl⟩) | (rfl | rfl) <;> rfl
  refine fY (n := 20) (vs := saC st) (by kernel_rfl) tl20 z2 (by decide) one fun w3 z3 o3 => ?_
  rw [List.take_zero, List.nil_append, List.drop_of_length_le (by decide), List.append_nil] at z3
  have b3 : Below w.heap.size w w3 := aK b2 o3 (Nat.le_refl _)
  have b03 := hb.trans (b3.mono hb.size)
  have s0 := hb.size
  have sz := b3.size
  refine hK w3 _ (h.newL b03 fun t ht => ?_) (h.csb b03) (so.fresh b3) z3
  rw [List.cons_append] at ht
  rcases List.mem_cons.1 ht with rfl | ht
  · exact .inr ⟨by omega, z3.lt⟩
  · rcases List.mem_append.1 ht with ht | ht
    · obtain ⟨h1, h2⟩ := so.rw t ht
      exact .inr ⟨h1, by omega⟩
    · exact .inl ht
def FG{q:Nat}{e:EV}{K2:oF->KV}(b:blk w q 51 (anC e x))(a:∀u,K2 u (ci x) w):aq Q 51 (pB q) 1 (λu=>ld Q 28 u (K2 u)) w:=kx (lK (v:=ci x) b rfl (a _))
theorem zi2 {w0 : World} {B q : Nat} {r : RS} {ga : Option Addr} {gc : Nat} {st : STA} (so : SO w0 B r.l st ga gc) (hp : PI r.l) (hb : blk w q 38 (saC st)) (hK : K (.agg (saC st).toArray) w) : ld Tryz.prog 38 (pB q) K w := by
  have tl20 : (saC st).length = 20 := ss (by rw [so.eI]; exact hp.i6) (by rw [so.eL]; exact hp.l6) (by rw [so.eV]; exact hp.v6)
  exact ldA (n := 20) (vs := saC st) Tryz.underlying38 rfl (by kernel_rfl) hb (by rw [List.drop_zero, List.take_of_length_le (by omega)]) tl20 hK
theorem zdq {zf : Nat → Value} {B bx by_ bu : Nat} {ex ey : EV} {ga : Option Addr} {gc : Nat} {st : STA} (so : SO w B l st ga gc) (hp : PI l) (hG : l.G.length ≤ 1000000) (hu : blk w bu 38 (saC st)) (hx : blk w bx 51 (anC ex x)) (hy : blk w by_ 51 (anC ey y)) (hf : zdi x y (nG l i)) (hi : i < 6)
    (hW : ∀ K' : KV, (∀ w', Below w.heap.size w w' → K' cT w') → call Tryz.prog 5 #[] K' w) (hK : ∀ w', Below w.heap.size w w' → K cT w') :
    pb K (bQ (iv ((i : Int) + 1)) (pB bx) (pB by_) (pB bu) (ci 0) (ci 0) zf) w := by
  have c19 := LM (t := st) (by rw [so.eI]; exact hp.i6) (by rw [so.eL]; exact hp.l6) (by rw [so.eV]; exact hp.v6)
  rw [so.gv] at c19
  refine ES (Inv := fun gr j wr => ∃ q : Nat, j = ci (q : Nat) ∧ gr = ci (((l.G.take q).countP fun g => decide (g.o = (i : Int) + 1) && decide (g.q = R39) : Nat)) ∧ q ≤ l.G.length ∧ w = wr) (μ := fun _ j _ => l.G.length - (intOf j).toNat) ⟨0, rfl, rfl, Nat.zero_le _, rfl⟩ ?_
  rintro _ _ dd _ mu ⟨q, rfl, rfl, hq, rfl⟩ hmu
  have lG : ∀ {K2 : Value → KV}, (∀ u, K2 u (.slice ga l.G.length gc) w) → aq Tryz.prog 38 (pB bu) 4 (fun u => ld Tryz.prog 36 u (K2 u)) w := fun hK => rY (ld1 (v := .slice ga l.G.length gc) (fun _ => by kernel_rfl) hu c19 (hK _))
  refine lG fun _ => bM Tryz.underlying36 (aW ?_)
  by_cases hlt : q < l.G.length
  · have hg : l.G[q]? = some l.G[q] := List.getElem?_eq_getElem hlt
    have htk : l.G.take (q + 1) = l.G.take q ++ [l.G[q]] := by rw [List.take_add_one, hg]; rfl
    generalize l.G[q] = g at hg htk
    have le : (l.G.take q).countP (fun g => decide (g.o = (i : Int) + 1) && decide (g.q = R39)) ≤ 1000000 := Nat.le_trans List.countP_le_length (by rw [List.length_take]; omega)
    have fin : ∀ {zf : Nat → Value} {m : Nat}, ((l.G.take (q + 1)).countP fun g => decide (g.o = (i : Int) + 1) && decide (g.q = R39)) = m → fx K (fun e2 w2 => (∃ q : Nat, gd e2 34 = ci (q : Nat) ∧ gd e2 33 = ci (((l.G.take q).countP fun g => decide (g.o = (i : Int) + 1) && decide (g.q = R39) : Nat)) ∧ q ≤ l.G.length ∧ w = w2) ∧ l.G.length - (intOf (gd e2 34)).toNat < mu) (bQ (iv ((i : Int) + 1)) (pB bx) (pB by_) (pB bu) (ci (m : Nat)) (ci (q : Nat)) zf) w := fun {zf m} hm => by
      refine Fc (aY (by omega) (by omega) ⟨⟨q + 1, congrArg ci (by push_cast; rfl), by rw [hm]; rfl, hlt, rfl⟩, by rw [hmu]; show l.G.length - ((q : Int) + 1).toNat < l.G.length - (q : Int).toNat; omega⟩)
    refine aG (by omega) (EM (lG fun _ => ?_))
    refine rd3 (enc := grC) (s := 5) (f' := 0) (v := iv g.o) Tryz.underlying36 (fun _ => by kernel_rfl) (fun _ => rfl) (fun _ => by kernel_rfl) (by kernel_rfl) (by omega) so.gr rfl hg rfl fun _ _ => aU ?_
    by_cases h1 : g.o = (i : Int) + 1
    · refine ck h1 (lG fun _ => ?_)
      refine rd3 (enc := grC) (s := 5) (f' := 1) (v := u6 g.q) Tryz.underlying36 (fun _ => by kernel_rfl) (fun _ => rfl) (fun _ => by kernel_rfl) (by kernel_rfl) (by omega) so.gr rfl hg rfl fun _ _ => aU (bR h1 ?_)
      by_cases h2 : g.q = 549755813888
      · refine aG h2 (aY (by omega) (by omega) ?_)
        rw [show (((l.G.take q).countP fun g => decide (g.o = (i : Int) + 1) && decide (g.q = R39) : Nat) : Int) + 1 = (((l.G.take q).countP fun g => decide (g.o = (i : Int) + 1) && decide (g.q = R39)) + 1 : Nat) by push_cast; rfl]
        exact fin (by rw [htk, List.countP_append, List.countP_singleton, decide_eq_true h1, show decide (g.q = R39) = true from decide_eq_true h2]; rfl)
      · exact aB h2 (fin (by rw [htk, List.countP_append, List.countP_singleton, decide_eq_true h1, show decide (g.q = R39) = false from decide_eq_false h2]; rfl))
    · exact dt h1 (bG h1 (aD (fin (by rw [htk, List.countP_append, List.countP_singleton, decide_eq_false h1]; rfl))))
  · obtain rfl : q = l.G.length := by omega
    rw [List.take_of_length_le (Nat.le_refl _)]
    exact aB (by omega) (zds hx hy hf hW hK)
abbrev stA(i:Nat)(nd a:Int):STP:=⟨1,(i:Int)+1,3,nd,0,a,R39,0,0,0,0,[]⟩
def CM.askA{Y:DuX}{r:RS}(h:CM w B0 n b Z c)(q:b<=20000)(hi:i<6)(m:c.X i=.up Y r fu)(t:Ak (tkX nd a))(l:R39<c.T 6)(k:∀S c' e z,AskR i (tkX nd a) c c' e z->CM S B0 n (b+1) Z c'->CS w S B0 Z->K (anV e z) S):call Q 9 #[pB c.p,.agg (stC (stA i nd a) (.slice none 0 0)).toArray] K w :=
 tN (d:=1) (R:=λb e z=>AskR i (tkX nd a) c b e z) h rfl oo oo rfl rfl (λ_=>by simp only[bO,oM,oP];omega) (λj _ u=>XJ (s:=stA i nd a) j q rfl hi t ⟨by show (3:Int)≠7;decide,l⟩ (λS f _ _=>by rw[m]at f;cases f) λS a e y o g v => u S a e y o g v) k
def zdo{B:Nat}{ex ey:EV}{Y:DuX}{r:RS}{st:STA}(h:CM w B0 n b Z c)(R:b<=10000)(hi:i<6)(hX:c.X i=.up Y r (-1))(hp:PostY l i (tkX nd a) x y r.l)(g:AgS l i)(hf:Ak (tkX nd a))(hT:R39<c.T 6)(P:ba∈Z/\o∈Z/\m∈Z/\s∈Z)(zr:∀k∈rwB st.na++rwB av,k∈Z)(za:blk w ba 42 (akC (tkX nd a)))(zx:blk w o 51 (anC ex x))(zy:blk w m 51 (anC ey y))(zt:blk w s 38 (saC st))(so:SO w B r.l st av gc)(hW:∀w' (K':KV),GD w'->Below B0 w w'->(∀J,Below w'.heap.size w' J->K' cT J)->call Q 5 #[] K' w')(hK:∀w',Below B0 w w'->K cT w'):lH K (lL (pB c.p) (iv ((i:Int)+1)) (pB ba) (pB o) (pB m) (pB s) zf) w:=by
 refine EI (Gs za (cE (vs:=stC (stA i nd a) (.slice none 0 0)) kr ?_));refine h.askA oo hi hX hf hT λw1 c1 e z hr h1 s1=>?_;obtain⟨rfl,Y1,u⟩:=hr.post (n:=n) hX hp g;have S:=(hr.sp hi).p;refine h1.alcAn λw2 bz N s2 nz zz=>?_;have V:=s1.trans s2;have ai:=u;rw[<-S]
 refine HA N oo (by constructor<;>omega) (λw3 b3 hn=>?_) λw3 U Y3 r3 af t3 ag ah aj e3 H aa b3=>?_
 .have:=hn i hi rfl
  rw[u]at this;cases this
 obtain rfl:U=i:=by omega
 rw[u]at H;cases H;have D:=N.st U hi;rw[u]at D;have t:=D.2.d.pi;have F:=N.sz U hi;rw[u]at F;have F:r.A.length<=b+1:=F;have hG:=D.2.G;refine bK (bJ (N.alcSt b3 aa t λw4 bu h4 s4 f zu=>?_));have ad:=s4.blk oL zz;have v:=V.trans (s4.sub λ_ h=>oH _ h);have ac:=v.blk P.2.1 zx;have L:=v.blk P.2.2.1 zy
 have ab:=v.blk P.2.2.2 zt;have j:=so.cs v zr;refine bH (eK (FG ad λ_=>FG L λ_=>bo (cA (dL oB ?_))));refine zi2 j t ab (zi2 f t zu ?_);refine ziC (G:=r.l.G) (j.sk t) (f.sk t) (by rw[f.eI,j.eI]) (by rw[f.eL,j.eL]) (by rw[f.eV,j.eV]) (by rw[f.eN,j.eN]) j.gv f.gv j.gr f.gr oo λw5 M=>?_;have W:=h4.csb M
 have z5:∀{q:Nat} {E:TypeId} {cs:oE},blk w4 q E cs->blk w5 q E cs:=λR=>ae M R R.lt;have C:Below B0 w w5:=v.bel.trans W.bel;have I:=hp.fin g;have h5:=h4.below M;refine bH (bG oB (aD (EK (zdq (f.fresh M) t oo (z5 zu) (z5 ac) (z5 L) I hi (λa O => hW w5 a h5.kd C O) λa b=>hK a (C.trans (b.mono h5.b0))))))
end
abbrev stO(d:Int)(i:Nat)(N:Int):STP:=⟨d,(i:Int)+1,0,0,0,0,0,0,0,0,N,[]⟩
section
variable {n:Nat}{c c':CX}{Y:DuX}{s:RS}{l:PL}{nd a y:Int}{e:EV}
def AskR.pre(f:AskR i (tkX nd a) c c' e y)(b:c.X i=.up Y s (-1))(d:PreY l i (tkX nd a) x s.l)(g:AgS l i):∃Y' s',c'.X i=.up Y' s' (-1)/\PostY l i (tkX nd a) x y s'.l:=by
 cases f with
 | no hX' hn =>
  rw[b]at hX';cases hX';exact⟨_,s,updX_eq,d.no g hn⟩
 | yes hX' h0 hna hf hw =>
  rw[b]at hX';cases hX';exact⟨_,_,by rw[hf rfl];exact updX_eq,d.yes g h0 hna⟩
 | off hX' h0 hna hf =>
  rw[b]at hX';cases hX';exact qI rfl hf
def AskR.preY(q:AskR i (tkX nd a) c c' e x)(k:c.X i=.up Y s fu)(d:s.l=je eff (pl0 n) s.A)(g:AgS s.l i)(v:eC (mkP i s.l (tkX nd a)) s.l=0\/eC (mkP i s.l (tkX nd a)) s.l=11\/eC (mkP i s.l (tkX nd a)) s.l=6):(x=0\/x=8\/x=11\/x=6)/\∀N p u A' L' (j:Nat),ue (fuX N (c'.X i))=.dn p u A' L'->PreY s.l i (tkX nd a) x (je eff (pl0 n) (A'++L'.take j)):=by
 cases q with
 | no hX' hn =>
  rename_i Y1 Y2 m f;rw[k]at hX';cases hX';obtain⟨o,t⟩:=g.nop hn;have r:x=11\/x=6:=by omega
  refine⟨by omega,λN p u A' L' j b=>?_⟩;have b:ue (fuX N (eR c.X i (.up Y2 s fu) i))=.dn p u A' L':=b;rw[updX_eq]at b;simp only[fuX,ue,SX.dn.injEq]at b;obtain⟨_,_,rfl,rfl⟩:=b;rw[List.take_nil,oW, <-d];exact .err o.symm r
 | yes hX' h0 hna hf hw =>
  rename_i Y1 Y2 m f h;rw[k]at hX';cases hX';refine⟨.inl rfl,λN p u A' L' j b=>?_⟩;have b:ue (fuX N (eR c.X i (.up Y2 ⟨eff (mkP i s.l (tkX nd a)) s.l,s.A++[mkP i s.l (tkX nd a)],s.P⟩ h) i))=.dn p u A' L':=b;rw[updX_eq]at b;simp only[fuX,ue,SX.dn.injEq]at b;obtain⟨_,_,rfl,rfl⟩:=b;rw[List.take_nil,oW,BI, <-d];exact .ok h0
 | off hX' h0 hna hf =>
  rename_i Y1 m f;rw[k]at hX';cases hX';refine⟨.inr (.inl rfl),λN p u A' L' j b=>?_⟩;have b:ue (fuX N (eR c.X i (.dn Y.p Y.u s.A [mkP i s.l (tkX nd a)]) i))=.dn p u A' L':=b;rw[updX_eq]at b;simp only[fuX,ue,SX.dn.injEq]at b;obtain⟨_,_,rfl,rfl⟩:=b;rw[BI, <-d];refine .pw h0 ?_;cases j with
  | zero=>exact .inl rfl
  | succ j=>rw[tL oB];exact .inr rfl
def zap(x:SX):∃p u A L,ue x=.dn p u A L:=by
 cases x with
 | up Y s fu=>exact⟨_,_,_,_,rfl⟩
 | dn p u A L=>exact⟨_,_,_,_,rfl⟩
end
section
variable  {K:KV}{B0 n t:Nat}{Z:List Nat}{c:CX}{l:PL}{y nd a:Int}
def zeL(hi:i<6){d:Int}:bO (stO d i N).who=true:=by simp only[bO,oM,oP];omega
def CM.offA(h:CM w B0 n b Z c)(hi:i<6)(k:∀S,CM S B0 n b Z {c with X:=eR c.X i (ue (c.X i))}->CS w S B0 Z->K (anV evZ 0) S):call Q 9 #[pB c.p,.agg (stC (stO 10 i 0) (.slice none 0 0)).toArray] K w :=
 tN (d:=10) (s:=stO 10 i 0) (R:=λg e z=>g={c with X:=eR c.X i (ue (c.X i))}/\e=evZ/\z=0) h rfl oo oo rfl rfl (λ_=>zeL (N:=0) hi) (λj _ m=>zbT (s:=stO 10 i 0) j rfl hi λS a f => m S _ _ _ ⟨rfl,rfl,rfl⟩ a f) λS g e z l a f => by
  obtain⟨rfl,rfl,rfl⟩:=l;exact k S a f
def CM.fuA(h:CM w B0 n b Z c)(hi:i<6)(hN:FE N)(k:∀S,CM S B0 n b Z {c with X:=eR c.X i (fuX N (c.X i))}->CS w S B0 Z->K (anV evZ 0) S):call Q 9 #[pB c.p,.agg (stC (stO 9 i N) (.slice none 0 0)).toArray] K w :=
 tN (d:=9) (s:=stO 9 i N) (R:=λg e z=>g={c with X:=eR c.X i (fuX N (c.X i))}/\e=evZ/\z=0) h rfl oo oo rfl rfl (λ_=>zeL (N:=N) hi) (λj _ m=>ZR (s:=stO 9 i N) j rfl hi hN λS a f => m S _ _ _ ⟨rfl,rfl,rfl⟩ a f) λS g e z l a f => by
  obtain⟨rfl,rfl,rfl⟩:=l;exact k S a f
theorem CM.onA {pa : Option Addr} {pn pc p u : Nat} {P : List Int} {A L : List EV} (h : CM w B0 n b Z c) (hb : b ≤ 20000) (hi : i < 6) (hX : c.X i = .dn p u A L) (hr : RIn w pa pn pc P)
    (hK : ∀ w' Y (j : Nat) c', c'.p = c.p → c'.T 6 = c.T 6 → c'.X i = .up Y ⟨je eff (pl0 n) (A ++ L.take j), A ++ L.take j, gp0⟩ (-1) → CM w' B0 n b Z c' → CS w w' B0 Z → K (anV evZ 0) w') : call Tryz.prog 9 #[pB c.p, .agg (stC (stO 11 i 0) (.slice pa pn pc)).toArray] K w :=
  tN (d := 11) (s := stO 11 i 0) (R := fun c' e z => OnR n i c c' z ∧ e = evZ) h rfl (by omega) (by omega) rfl rfl (fun _ => zeL (N := 0) hi) (fun h2 b2 k2 => zf8 (s := stO 11 i 0) h2 hb rfl hi (hr.below b2 (Nat.le_refl _)) fun w' c' z ho h' s' => k2 w' c' _ _ ⟨ho, rfl⟩ h' s') fun w' c' e z hr h' s' => by
    obtain ⟨ho, rfl⟩ := hr
    have hsp := ho.sp hi
    cases ho with
    | up hh => rw [hX] at hh; cases hh
    | on hX' hw hW =>
      rename_i p' u' j A' L' Y'
      rw [hX] at hX'
      cases hX'
      exact hK w' Y' j _ hsp.p hsp.r updX_eq h' s'
theorem zdn {W0 : World} {zf : Nat → Value} {ba bx : Nat} {ex : EV} {pa : Option Addr} {pn pc : Nat} {P : List Int} (h : CM w B0 n b Z c) (hb : b ≤ 9000) (hi : i < 6) (g : AgS l i) (hf : Ak (tkX nd a)) (hT : R39 < c.T 6)
    (hpre : ∀ p u A' L' (j : Nat), ue (c.X i) = .dn p u A' L' → PreY l i (tkX nd a) x (je eff (pl0 n) (A' ++ L'.take j)))
    (hZ : ba ∈ Z ∧ bx ∈ Z) (za : blk w ba 42 (akC (tkX nd a))) (zx : blk w bx 51 (anC ex x)) (hP : RIn W0 pa pn pc P) (b0 : Below B0 W0 w) (hW0 : W0.heap.size ≤ B0)
    (hW : ∀ w' (K' : KV), GD w' → Below B0 w w' → (∀ w'', Below w'.heap.size w' w'' → K' cT w'') → call Tryz.prog 5 #[] K' w') (hK : ∀ w', Below B0 w w' → K cT w') :
    iS K (iU (.slice pa pn pc) (pB c.p) (iv ((i : Int) + 1)) (pB ba) (pB bx) zf) w := by
  refine EG (cE (vs := stC (stO 10 i 0) (.slice none 0 0)) (by kernel_rfl) (h.offA hi fun w1 h1 s1 => ?_))
  obtain ⟨p, u, A', L', hX1⟩ := zap (c.X i)
  refine cE (vs := stC (stO 11 i 0) (.slice pa pn pc)) (by kernel_rfl) (h1.onA (by omega) hi (updX_eq.trans hX1) (hP.below (b0.trans s1.bel) hW0) fun w2 Y2 j c2 e1 e2 hX2 h2 s2 => ?_)
  have hpr := hpre p u A' L' j hX1
  have hcp : c2.p = c.p := e1
  have hT2 : R39 < c2.T 6 := by rw [e2]; exact hT
  have s02 := s1.trans s2
  refine zhL (off := 14) (n := 1) (v := ci 0) (by kernel_rfl) rfl (bo (aB (by decide) (Gs (s02.blk hZ.1 za) (cE (vs := stC (stA i nd a) (.slice none 0 0)) (by kernel_rfl) ?_))))
  rw [← hcp]
  refine h2.askA (by omega) hi hX2 hf hT2 fun w3 c3 e y hr h3 s3 => ?_
  obtain ⟨Y3, r3, hX3, hpost⟩ := hr.pre hX2 hpr g
  have hcp3 := (hr.sp hi).p
  have hT3 := (hr.sp hi).r
  refine h3.alcAn fun w4 by_ h4 s4 ny zy => ?_
  rw [← hcp3]
  refine HA h4 (by omega) (by constructor <;> omega) (fun w5 b5 hn => ?_) fun w5 i' Y5 r5 fu5 t5 ga gc hi5 e5 hX5 so5 b5 => ?_
  · have := hn i hi rfl
    rw [hX3] at this; cases this
  obtain rfl : i' = i := by omega
  rw [hX3] at hX5
  cases hX5
  have hs4 := h4.st i' hi
  rw [hX3] at hs4
  refine bK (bJ (h4.alcSt b5 so5 hs4.2.d.pi fun w6 bt h6 s6 so6 zt => ?_))
  have s46 := s6.sub (Z' := Z) fun _ h => List.mem_cons_of_mem _ h
  have s06 := ((s02.trans s3).trans s4).trans s46
  have inZ : ∀ {k}, k ∈ Z → k ∈ bt :: (rwB t5.na ++ rwB ga) ++ by_ :: Z := fun hk => by simp [hk]
  refine zdo h6 (by omega) hi hX3 hpost g hf (by rw [hT3]; exact hT2) ⟨inZ hZ.1, inZ hZ.2, by simp, by simp⟩ (fun k hk => by
    rw [List.cons_append]
    exact List.mem_cons_of_mem _ (List.mem_append_left _ hk)) (s06.blk hZ.1 za) (s06.blk hZ.2 zx) (s6.blk List.mem_cons_self zy) zt so6 (fun w' K' hg hb' => hW w' K' hg (s06.bel.trans hb')) fun w' hb' => hK w' (s06.bel.trans hb')
def zdm{Y:DuX}{r:RS}{F:Int}{P:List Int}(h:CM w B0 n b Z c)(hb:b<=8000)(hi:i<6)(O:c.X i=.up Y r (-1))(g:AgS r.l i)(R:Ak (tkX nd a))(M:R39<c.T 6)(he:eC (mkP i r.l (tkX nd a)) r.l=0\/eC (mkP i r.l (tkX nd a)) r.l=11\/eC (mkP i r.l (tkX nd a)) r.l=6)(hF:0<=F/\F<=255)(E:ba∈Z)(W:blk w ba 42 (akC (tkX nd a)))(hP:RIn W0 av pn pc P)(b0:Below B0 W0 w)(D:W0.heap.size<=B0)(hW:∀w' (K':KV),GD w'->Below B0 w w'->(∀y,Below w'.heap.size w' y->K' cT y)->call Q 5 #[] K' w')(hK:∀w',Below B0 w w'->K cT w'):lF K (lJ (.int .u8 F) (.slice av pn pc) (pB c.p) (iv ((i:Int)+1)) (pB ba) zf) w:=by
 have I:r.l=je eff (pl0 n) r.A:=by
  have S:=h.st i hi;rw[O]at S;exact S.2.d.st
 refine EE (LH hF.1 oo (dP underlying5 underlying3 ?_));rw[eY oo oo];have L:0<=F%30/\F%30<30:=by omega
 generalize F%30=N at L;refine cE (vs:=stC (stO 9 i N) (.slice none 0 0)) kr (h.fuA hi (by constructor<;>omega) λw1 h1 U=>?_);have s:eR c.X i (fuX N (c.X i)) i=.up Y r N:=by rw[updX_eq,O];simp only[fuX,oJ L.1]
 refine Gs (U.blk E W) (cE (vs:=stC (stA i nd a) (.slice none 0 0)) kr ?_);refine CM.askA (c:={c with X:=eR c.X i (fuX N (c.X i))}) h1 oo hi s R M λw2 k e x H h2 s2=>?_;obtain⟨hx,t⟩:=H.preY s I g he;have G:k.p=c.p:=(H.sp hi).p;have C:k.T 6=c.T 6:=(H.sp hi).r;refine h2.alcAn λw3 bx h3 s3 nx o=>?_;have J:=(U.trans s2).trans s3
 have z:∀{zf:oF->oF->oD},bld Q 44 #[(0,cb 9),(1,iv ((i:Int)+1)),(5,ci (-1))] (λm=>call Q 9 #[pB c.p,m] λv=>iS K (iU (.slice av pn pc) (pB c.p) (iv ((i:Int)+1)) (pB ba) (pB bx) (zf m v))) w3:=λ{zf} => by
  refine cE (vs:=stC (stO 9 i (-1)) (.slice none 0 0)) kr ?_;rw[<-G];refine h3.fuA hi (by constructor<;>omega) λw4 h4 V=>?_;have f:=J.trans (V.sub λ_ h=>oH _ h);exact zdn (c:={k with X:=eR k.X i (fuX (-1) (k.X i))}) h4 oo hi g R (by show R39<k.T 6;rw[C];exact M) (λp u a L' j B=>t (-1) p u a L' j (by
   have B:ue (eR k.X i (fuX (-1) (k.X i)) i)=.dn p u a L':=B;rw[updX_eq]at B;exact B)) ⟨oH _ E,oL⟩ (f.blk E W) (V.blk oL o) hP (b0.trans f.bel) D (λa b c q => hW a b c (f.bel.trans q)) λw' q => hK w' (f.bel.trans q)
 refine FG o λ_=>bo ?_;rcases hx with rfl|rfl|rfl|rfl
 .exact dt dc (bG dc (js (cA (js (cA (aD z))))))
 .exact ck dc (FG o λ_=>bo (bR dc (dt dc (bG dc (js (cA (aD z)))))))
 .exact ck dc (FG o λ_=>bo (bR dc (ck dc (FG o λ_=>bo (bR dc (dt dc (bG dc (aD z))))))))
 .exact ck dc (FG o λ_=>bo (bR dc (ck dc (FG o λ_=>bo (bR dc (ck dc (FG o λ_=>bo (bR dc (aB dc z)))))))))
end
end
end
end Go.Proofs.YtgohpbmmcgenpaaGreatDoor
