import Derived.Test.YtkbhfjljieopoaaGreatDoorQ12
import Derived.Test.YtkbhfjljieopoaaGreatDoorQ7
import Derived.Test.YtkbhfjljieopoaaGreatDoorQ11
import Derived.Test.YtkbhfjljieopoaaGreatDoorQ6
namespace Go.Proofs.YtkbhfjljieopoaaGreatDoor
set_option maxRecDepth 100000
set_option maxHeartbeats 4000000
open Go.Proofs.Tryz
variable {w w' w0:World}{K:KV}{zf dd:Nat→Value}{b n c o k B i g p j m s z f d D gc c2 hi:Nat}{x r:Int}{B1 B2:KE}{a av:Option Addr}{cs ys:List Value}{E t e:TypeId}{xs v:List Int}{T:List (Int×Int)}{F:List Nat}{Y5 Z5 K6 W6 X6 Y6 Z6 u7 B7 K7 W7 X7 Y7 Z7 B8 K8 W8 X8 Y8 Z8 l9 n9 u9 B9 K9 W9 X9 Y9 Z9 ia ja ka qa ua xa ya Aa Ba Ca Da Ea Fa Ga Ha Ia Ja Ka La Ma Na Oa Pa Qa Ra Sa Ta Ua Va Wa Xa:Value}
section
attribute [local irreducible] bin un conv call bY blt slc aT fld aV idx lkp dO gY eSt rng nxt ent ext alc box bld bT ld sto aU dE mkS ifc pick rdy wts aI sti cond bp Gives ae fh fT cOp
open Go.RowKit Go.ChangeMaps
abbrev AR5 (w:World)(B k:Nat)(ra:Option Addr)(rc:Nat)(X:Nat→RpX):Prop:=w.ownsRow B 26 1 (.slice ra k rc) k ((List.range k).flatMap fun j=>[pB (X j).R.p])
theorem AR5.open {X:Nat→RpX}(h:AR5 w B k a b X)(M:0<k):∃g u,a=some ⟨g,0,none⟩∧blk w g 26 u∧∀j,j<k→u[0+j*1]? = some (pB (X j).R.p):=by
 obtain⟨g,u,I,C⟩:=cq h M;refine⟨g,u,I,C.blk,fun j J=>?_⟩
 have:=C.cell (s:=1) (enc:=fun j=>[pB (X j).R.p]) (fun _=>rfl) (by simp) (List.getElem?_range J) (show 0<1 by omega)
 rw[Nat.zero_add,show j*1=j*1+0 by omega,this];rfl
theorem AR5.same {X X':Nat→RpX}(h:AR5 w B k a b X)(u:∀j,(X' j).R.p=(X j).R.p):AR5 w B k a b X':=by
 have:(fun j=>[pB (X' j).R.p])=fun j=>[pB (X j).R.p]:=by funext j;rw[u]
 unfold AR5;rw[this];exact h
theorem EU (h:K (.pointer (some ⟨b,o+0,none⟩)) w):aT Tryz.prog 40 (.pointer (some ⟨b,o,none⟩)) 0 K w:=aK (by kernel_rfl) h
theorem EW (h:K (.pointer (some ⟨b,o+1,none⟩)) w):aT Tryz.prog 40 (.pointer (some ⟨b,o,none⟩)) 1 K w:=aK (by kernel_rfl) h
theorem xt (h:K (.pointer (some ⟨b,o+2,none⟩)) w):aT Tryz.prog 40 (.pointer (some ⟨b,o,none⟩)) 2 K w:=aK (by kernel_rfl) h
theorem Bu (h:K (.pointer (some ⟨b,o+8,none⟩)) w):aT Tryz.prog 40 (.pointer (some ⟨b,o,none⟩)) 3 K w:=aK (by kernel_rfl) h
theorem EX (h:K (.pointer (some ⟨b,o+9,none⟩)) w):aT Tryz.prog 40 (.pointer (some ⟨b,o,none⟩)) 4 K w:=aK (by kernel_rfl) h
theorem EY (h:K (.pointer (some ⟨b,o+11,none⟩)) w):aT Tryz.prog 40 (.pointer (some ⟨b,o,none⟩)) 6 K w:=aK (by kernel_rfl) h
theorem EZ (h:K (.pointer (some ⟨b,o+23,none⟩)) w):aT Tryz.prog 40 (.pointer (some ⟨b,o,none⟩)) 7 K w:=aK (by kernel_rfl) h
section
variable {w:World}{K:KV}{B k i:Nat}{E:List EV}{X:Nat→RpX}{S:Nat→RS}{Z:List Nat}
theorem Dk {s:PL}{t:STA}{K2:Value→KV}(u:SO w b s t a gc)(C:PI s)(h:∀w',blk w' w.heap.size 45 (saC t)→Below w.heap.size w w'→K2 (pB w.heap.size) undef w'):alc Tryz.prog 45 (fun p=>sto Tryz.prog 45 p (.agg (saC t).toArray) (K2 p)) w:=by
 have j:(saC t).length=20:=rA (by rw[u.eI];exact C.i6) (by rw[u.eL];exact C.l6) (by rw[u.eV];exact C.v6);refine dZ (z:=.agg (saC ⟨List.replicate 6 false,List.replicate 6 false,List.replicate 6 0,[],none,0,.slice none 0 0⟩).toArray) (by kernel_rfl) fun J z2 b2 O=>?_
 have z2:blk J w.heap.size 45 (saC ⟨List.replicate 6 false,List.replicate 6 false,List.replicate 6 0,[],none,0,.slice none 0 0⟩):=by simpa[Value.cells]using z2
 refine jP (n:=20) (vs:=saC t) (by kernel_rfl) j z2 (by show 0+20≤20;omega) (Od (by rw[u.gv];rfl)) fun M z3 I=>?_;rw[List.take_zero,List.nil_append,List.drop_of_length_le (by show 20≤0+20;omega),List.append_nil]at z3;exact h M z3 (bv b2 I (Nat.le_refl _))
theorem Ll {s:PL}{t:STA}(u:SO w0 c s t a gc)(j:PI s)(I:blk w b 45 (saC t))(C:K (.agg (saC t).toArray) w):ld Tryz.prog 45 (pB b) K w:=by
 have h:(saC t).length=20:=rA (by rw[u.eI];exact j.i6) (by rw[u.eL];exact j.l6) (by rw[u.eV];exact j.v6);exact ldA (n:=20) (vs:=saC t) underlying45 rfl (by kernel_rfl) I (by rw[List.drop_zero,List.take_of_length_le (by omega)]) h C
theorem Cp (h:LW B w k E X S Z)(ha:AR5 w B k a b X)(hK:∀w',Below w.heap.size w w'→K cT w'):call Tryz.prog 13 #[.slice a k b] K w:=by
 have hk:=h.k6;obtain⟨g,a0,rfl,hg,af⟩:=ha.open hk.1;refine aj (goK func13) (xN ?_);refine xv (Inv:=fun i _ _ _ _ wr=>∃q:Nat,i=iv (q:Nat)∧q≤k∧Below w.heap.size w wr) (μ:=fun i _ _ _ _ _=>k-(intOf i).toNat) ⟨0,rfl,Nat.zero_le _,Below.refl _ _⟩ ?_;rintro _ _ _ _ _ dd w1 mu ⟨q,rfl,hq,b1⟩ av;refine bj underlying25 (aM ?_);by_cases I:q<k
 ·have h1:=h.below b1;have g1:=ac b1 hg hg.lt;have pq:=h.pi I;refine ax (by omega) (dJ underlying25 (s:=1) (fun _=>by kernel_rfl) (by omega) (by omega) ?_);rw[Int.toNat_natCast];refine lK (v:=pB (X q).R.p) g1 (af q I) (Si (h1.ww.rp q I).rp pq (h.G I) fun w2 t ga gc so b2=>Dk so pq fun w3 z3 b3=>?_);have ag:=(b1.trans (b2.mono b1.size)).trans (b3.mono (b1.trans (b2.mono b1.size)).size)
  have az:=so.fresh b3;have a7:=b2.size;have aa:=(JW (t:=t) (by rw[so.eI];exact pq.i6) (by rw[so.eL];exact pq.l6) (by rw[so.eV];exact pq.v6)).2.2;rw[so.eV]at aa;refine xw (Inv:=fun j _ _ _ _ wr=>∃p:Nat,j=iv (p:Nat)∧p≤q∧Below w3.heap.size w3 wr) (μ:=fun j _ _ _ _ _=>q-(intOf j).toNat) ⟨0,rfl,Nat.zero_le _,Below.refl _ _⟩ ?_;rintro _ _ _ _ _ a2 w4 mu2 ⟨p,rfl,hp,b4⟩ ap
  have O:=ag.trans (b4.mono ag.size);refine aM ?_;by_cases ar:p<q
  ·have U:p<k:=by omega
   have h4:=h.below O;have g4:=ac O hg hg.lt;have pp:=h.pi U;have z4:=ac b4 z3 z3.lt;have aE:=az.fresh b4;refine ax (by omega) (dJ underlying25 (s:=1) (fun _=>by kernel_rfl) (by omega) (by omega) ?_);rw[Int.toNat_natCast];refine lK (v:=pB (X p).R.p) g4 (af p U) (Si (h4.ww.rp p U).rp pp (h.G U) fun w5 t' a3 a4 M b5=>Dk M pp fun w6 z6 b6=>?_)
   have J:=b5.trans (b6.mono b5.size);have z5:=ac J z4 z4.lt;have u:=aE.fresh J;have C:=M.fresh b6;have aS:=O.trans (J.mono O.size);have ad:=(JW (t:=t') (by rw[M.eI];exact pp.i6) (by rw[M.eL];exact pp.l6) (by rw[M.eV];exact pp.v6)).2.2;rw[M.eV]at ad;have al:q-(intOf (iv ((p:Int)+1))).toNat<mu2:=by rw[ap];show q-((p:Int)+1).toNat<q-((p:Nat):Int).toNat;omega
   refine ot (ldA (n:=6) (vs:=vCs (S q).l.V) underlying35 rfl (by kernel_rfl) z5 aa (by rw[bQ];exact pq.v6) (ot (ldA (n:=6) (vs:=vCs (S p).l.V) underlying35 rfl (by kernel_rfl) z6 ad (by rw[bQ];exact pp.v6) ?_)));refine Cf 3 (by omega) (by kernel_rfl) (by kernel_rfl) (Gj pq.v6) (Gj pp.v6) fun r hr=>?_;cases r with
   | false=>exact mE (dA (aO (aW (by omega) (by omega) ⟨⟨p+1,congrArg iv (by push_cast;rfl),ar,b4.trans (J.mono b4.size)⟩,al⟩)))
   | true =>
    have hV:=Uo.1 (hr.1 rfl);have hl:(S q).l=(S p).l:=(h.mw.lk q I).same (h.mw.lk p U) hV;refine kS (Ll u pq z5 (Ll C pp z6 ?_));have am:=C.gr;have an:=C.gv;have hG:=h.G I;rw[←hl]at am an;refine VC (u.sk pq) (C.sk pp) (by rw[u.eI,C.eI,hl]) (by rw[u.eL,C.eL,hl]) (by rw[u.eV,C.eV,hl]) (by rw[u.eN,C.eN,hl]) u.gv an u.gr am hG fun w7 b7=>dB ?_
    refine bX (aO (aW (by omega) (by omega) ⟨⟨p+1,congrArg iv (by push_cast;rfl),ar,(b4.trans (J.mono b4.size)).trans (b7.mono (b4.trans (J.mono b4.size)).size)⟩,al⟩))
  ·refine aq (by omega) (xz (aW (by omega) (by omega) ⟨⟨q+1,congrArg iv (by push_cast;rfl),I,O⟩,?_⟩));rw[av];show k-((q:Int)+1).toNat<k-(q:Int).toNat;omega
 ·exact aq (by omega) (xy (hK w1 b1))
theorem MQ {L:List SM}(hL:SMR w a m c L)(J:∀b,(b=true→m≤80)→K (.bool b) w):call Tryz.prog 5 #[.slice a m c] K w:=by
 refine aj (goK func5) (yr (bj underlying22 (de ?_)));by_cases j:(80:Int)<(m:Nat)
 ·exact ax j (J false (by simp))
 refine aq j <|xL (Inv:=fun i wr=>∃q:Nat,i=iv (q:Nat)∧q≤m∧wr=w) (μ:=fun i _=>m-(intOf i).toNat) ⟨0,rfl,Nat.zero_le _,rfl⟩ ?_;rintro _ dd _ mu ⟨q,rfl,hq,rfl⟩ M;refine bj underlying22 (aM ?_);by_cases C:q<m
 ·have hl:q<L.length:=by rw[hL.len];exact C
  have O:L[q]? = some L[q]:=List.getElem?_eq_getElem hl;generalize L[q]=x at O;have u:=hL.ok x (List.mem_of_getElem? O);obtain⟨U,I,ec,he⟩:=u.ev;obtain⟨b,o,rfl⟩:=hL.some_ (by omega);have hc:=hL.cell q x O b o rfl 20 (.slice U I ec) (by
   unfold smC;rw[List.getElem?_append_right (by simp)];rw[List.getElem?_append_left (by simp[u.m12])];exact he)
  refine ax (by omega) (dJ underlying22 (s:=24) (fun _=>by kernel_rfl) (by omega) (by omega) ?_);rw[Int.toNat_natCast];refine EY (zP (FV (v:=.slice U I ec) (fun _=>by kernel_rfl) (by rw[show o+q*24+11+9=o+q*24+20 by omega];exact hc) (bj underlying36 (de ?_))));by_cases h:(20:Int)<(I:Nat)
  ·exact ax h (J false (by simp))
  ·refine aq h (aW (by omega) (by omega) ⟨⟨q+1,congrArg iv (by push_cast;rfl),C,rfl⟩,?_⟩);rw[M];show m-((q:Int)+1).toNat<m-(q:Int).toNat;omega
 ·exact aq (by omega) (xM (J true fun _=>by omega))
end
structure LI (B:Nat) (w:World) (k:Nat) (ra:Option Addr) (rc:Nat) (E:List EV) (X:Nat→RpX) (S:Nat→RS) (Z:List Nat) (Wm:List MGT) (oa:Option Addr) (oc:Nat):Prop where
 lw:LW B w k E X S Z
 ar:AR5 w B k ra rc X
 az:∀g,(Value.slice ra k rc).ownBlock=some g→g∈Z
 wr:w.ownsRow B 38 12 (.slice oa Wm.length oc) Wm.length (Wm.flatMap tmC)
 wz:∀g,(Value.slice oa Wm.length oc).ownBlock=some g→g∈Z
 ms:∀x∈Wm,MgOK k E S x.1∧TMk B w x∧(∀b o,x.2.1=some ⟨b,o,none⟩→b∈Z)∧(x.1.k=2→x.2=(none,0))
section
variable {B k rc oc:Nat}{w w':World}{ra oa:Option Addr}{E E':List EV}{X X':Nat→RpX}{S S':Nat→RS}{Z:List Nat}{Wm:List MGT}
theorem TMk.frm {x:MGT}(h:TMk B w x)(C:∀b o,x.2.1=some ⟨b,o,none⟩→b∈Z)(u:Frm B Z w w'):TMk B w' x :=
 ⟨h.vr.kp fun b o j=>u.z b (C b o j),fun b o j=>by
  obtain⟨I,cs,J⟩:=h.ev b o j;exact⟨I,cs,J.kp (u.z b (C b o j))⟩⟩
theorem LI.step (h:LI B w k ra rc E X S Z Wm oa oc)(I:LW B w' k E' X' S' Z)(J:∀m,MgOK k E S m→MgOK k E' S' m)(M:∀j,(X' j).R.p=(X j).R.p)(u:Frm B Z w w'):LI B w' k ra rc E' X' S' Z Wm oa oc :=
 ⟨I,AR5.same (cJ h.ar fun g C=>u.z g (h.az g C)) M,h.az,cJ h.wr fun g C=>u.z g (h.wz g C),h.wz,fun x O=>by
  obtain⟨a,b,c,d⟩:=h.ms x O;exact⟨J _ a,b.frm c u,c,d⟩⟩
theorem LI.frmB (h:LI B w k ra rc E X S Z Wm oa oc)(j:Below w.heap.size w w'):Frm B Z w w':=.of_below j h.lw.B h.lw.ww.zl
theorem LI.below (h:LI B w k ra rc E X S Z Wm oa oc)(j:Below w.heap.size w w'):LI B w' k ra rc E X S Z Wm oa oc:=h.step (h.lw.below j) (fun _ u=>u) (fun _=>rfl) (h.frmB j)
end
def HB (B:Nat)(w:World)(k:Nat)(ra:Option Addr)(rc:Nat)(E:List EV)(Wm:List MGT)(q:Nat)(nw:Int)(B1:KE):Prop:=∀e w' E' X' S' Z' Wm' oa' oc',LI B w' k ra rc E' X' S' Z' Wm' oa' oc'→E'.length≤E.length+1→Wm'.length≤Wm.length+38→Below B w w' →
 gd e 10=.slice oa' Wm'.length oc'→gd e 11=u6 nw→gd e 12=iv ((q:Int)+1)→B1 e w'
theorem HB.mono {E:List EV}{Wm:List MGT}{q:Nat}(h:HB B w k av n E Wm q x B1)(C:Below B w w'):HB B w' k av n E Wm q x B1:=fun e I E' X' S' Z' Wm' j u a b c d=>h e I E' X' S' Z' Wm' j u a b c (C.trans d)
theorem OM (x:SM):((smC x).drop 2).take 6=akC ⟨x.k,x.n,x.t,x.a,x.r,x.f⟩:=rfl
section
variable {w:World}{K:KV}{B k rc oc q i bx:Nat}{ra oa:Option Addr}{E:List EV}{X:Nat→RpX}{S:Nat→RS}{Z:List Nat}{Wm:List MGT}{nw:Int}{B1:KE}{x:SM}
theorem Do {K2:Value→KV}(I:blk w g 26 cs)(C:∀j,j<k→cs[0+j*1]? = some (pB (X j).R.p))(J:j<k)(h:∀u,K2 u (pB (X j).R.p) w):aV Tryz.prog 25 (.slice (some ⟨g,0,none⟩) k rc) (iv (j:Nat)) (fun u w=>ld Tryz.prog 26 u (K2 u) w) w:=by
 refine dJ underlying25 (s:=1) (fun _=>by kernel_rfl) (by omega) (by omega) ?_;rw[Int.toNat_natCast];exact lK (v:=pB (X j).R.p) I (C j J) (h _)
theorem Dp (h:LI B w k ra rc E X S Z Wm oa oc)(j:Z6=.slice oa Wm.length oc)(u:u7=u6 nw)(C:B7=iv (q:Nat))(J:q<1000)(I:HB B w k ra rc E Wm q nw B1):bq K B1 ((aC Y5 Z5 K6 W6 X6 Y6 Z6 u7 B7 K7 W7 X7 Y7 Z7 B8 K8 W8 X8 Y8 Z8 l9 n9 u9 B9 K9 W9 X9 Y9 Z9 ia ja ka qa ua xa ya Aa Ba Ca Da Ea Fa Ga Ha Ia Ja Ka La Ma Na Oa Pa Qa Ra Sa Ta Ua Va Wa Xa zf)) w:=by
 subst j u C;exact ky (aW (by omega) (by omega) (I _ w E X S Z Wm oa oc h (by omega) (by omega) (Below.refl _ _) rfl rfl rfl))
theorem zW {Wm':List MGT}{E':List EV}(h:LI B w k ra rc E' X S Z Wm' oa oc)(M:E'.length≤E.length+1)(O:Wm'.length≤Wm.length+38)(I:X6=.slice ra k rc)(j:Z6=.slice oa Wm'.length oc)(u:u7=u6 nw)(C:B7=iv (q:Nat))(hq:q<1000)(J:HB B w k ra rc E Wm q nw B1):br K B1 ((aC Y5 Z5 K6 W6 X6 Y6 Z6 u7 B7 K7 W7 X7 Y7 Z7 B8 K8 W8 X8 Y8 Z8 l9 n9 u9 B9 K9 W9 X9 Y9 Z9 ia ja ka qa ua xa ya Aa Ba Ca Da Ea Fa Ga Ha Ia Ja Ka La Ma Na Oa Pa Qa Ra Sa Ta Ua Va Wa Xa zf)) w:=by
 subst I j u C;refine qo (Cp h.lw h.ar fun U b1=>dB (aO (ky (aW (by omega) (by omega) ?_))));exact J _ U E' X S Z Wm' oa oc (h.below b1) M O (b1.mono h.lw.B) rfl rfl rfl
theorem Gh (h:LI B w k ra rc E X S Z Wm oa oc)(hi:i<k)(hx:blk w bx 40 (smC x))(hk:x.k≠6∧x.k≠7)(hE:E.length<100)(e6:X6=.slice ra k rc)(I:Z6=.slice oa Wm.length oc)(J:u7=u6 nw)(M:B7=iv (q:Nat))(ex:K7=pB bx)(ew:W7=iv (i:Nat))(hq:q<1000)(hB:HB B w k ra rc E Wm q nw B1):dH K B1 ((aC Y5 Z5 K6 W6 X6 Y6 Z6 u7 B7 K7 W7 X7 Y7 Z7 B8 K8 W8 X8 Y8 Z8 l9 n9 u9 B9 K9 W9 X9 Y9 Z9 ia ja ka qa ua xa ya Aa Ba Ca Da Ea Fa Ga Ha Ia Ja Ka La Ma Na Oa Pa Qa Ra Sa Ta Ua Va Wa Xa zf)) w:=by
 subst e6 I J M ex ew;obtain⟨g,C,rfl,hg,u⟩:=h.ar.open (by omega);refine qI (aw (fun y=>blk y g 26 C∧blk y bx 40 (smC x)) ⟨hg.drew,hx.drew⟩ ?_);refine ab (v:=.pointer (some ⟨g,0+i*1,none⟩)) (fun y d _ j=>dJ underlying25 (s:=1) (fun _=>by kernel_rfl) (by omega) (by omega) (by rw[Int.toNat_natCast];exact j)) (ab (v:=pB (X i).R.p) (fun y d _ j=>lK d.1 (u i hi) j) ?_)
 refine ab (fun y d _ j=>xt j) (ab (v:=.agg (akC ⟨x.k,x.n,x.t,x.a,x.r,x.f⟩).toArray) (fun y d _ j=>ldA (n:=6) (vs:=akC ⟨x.k,x.n,x.t,x.a,x.r,x.f⟩) underlying33 rfl (by kernel_rfl) d.2 (by rw[Nat.zero_add];exact OM x) rfl j) ?_);have bd:Below w.heap.size w w.drew:=(Below.refl _ w).drew;have O:=h.below bd;refine NI O.lw hi hk hE fun w1 X' S' E' v Z5 U m1 p1 f1=>?_
 exact zW (O.step Z5 m1 p1 f1) U (by omega) rfl rfl rfl rfl hq (hB.mono ((bd.mono h.lw.B).trans f1.b))
theorem Gf {b:Bool}{s:PL}{t:STA}(h:LI B w k ra rc E X S Z Wm oa oc)(hi:i<k)(hx:blk w bx 40 (smC x))(ad:xO x)(am:B≤bx)(an:bx∉Z)(al:∀j,j<k→bx∉AF (X j))(so:SO w o s t a gc)(hp:PI s)(hs:blk w c 45 (saC t))(hb:b=true→0<t.nodes.length)(hk:x.k≠6∧x.k≠7)(hE:E.length<100)(e6:X6=.slice ra k rc)(M:Z6=.slice oa Wm.length oc)(O:u7=u6 nw)(U:B7=iv (q:Nat))(ex:K7=pB bx)(ew:W7=iv (i:Nat))(es:X7=pB c)(et:ia=.bool b)(hq:q<1000)(hB:HB B w k ra rc E Wm q nw B1):fX K B1 ((aC Y5 Z5 K6 W6 X6 Y6 Z6 u7 B7 K7 W7 X7 Y7 Z7 B8 K8 W8 X8 Y8 Z8 l9 n9 u9 B9 K9 W9 X9 Y9 Z9 ia ja ka qa ua xa ya Aa Ba Ca Da Ea Fa Ga Ha Ia Ja Ka La Ma Na Oa Pa Qa Ra Sa Ta Ua Va Wa Xa zf)) w:=by
 subst es et ex;cases b with
 | false=>exact kx (aO (Gh h hi hx hk hE e6 M O U rfl ew hq hB))
 | true =>
  have hn:=hb rfl;have k1:=so.sk hp;have J:=JV k1.i6 k1.l6 k1.v6;have af:=ad.pick;have bd:Below w.heap.size w w.drew:=(Below.refl _ w).drew;have nr:=(k1.bel bd (Nat.le_refl _)).nr;have ap:=k1.few;refine kx (bu ?_);refine aH (fun _=>jO) (aH (v:=.slice t.na t.nodes.length t.nc) (fun _=>lK hs.drew J) ?_);refine aH (fun _=>Bu) (aH (v:=kv8 x.pick) (fun _=>lK hx.drew rfl) ?_)
  refine aH (v:=iv x.pick) (fun K u=>dS underlying5 underlying3 (by rw[eK (by omega) (by omega)];exact u)) ?_;refine aH (fun _=>jO) (aH (v:=.slice t.na t.nodes.length t.nc) (fun _=>lK hs.drew J) ?_);refine aH (v:=iv (t.nodes.length:Nat)) (fun _=>bj underlying42) ?_
  obtain⟨r,hr,ag⟩:∃r:Nat,x.pick%(t.nodes.length:Nat)=(r:Nat)∧r<t.nodes.length:=⟨(x.pick%(t.nodes.length:Nat)).toNat,by have:=Int.emod_nonneg x.pick (show (t.nodes.length:Int)≠0 by omega);omega,by have:=Int.emod_lt_of_pos x.pick (show (0:Int)<t.nodes.length by omega);have:=Int.emod_nonneg x.pick (show (t.nodes.length:Int)≠0 by omega);omega⟩
  refine aH (v:=iv (r:Nat)) (fun K u=>xX af.1 (by omega) (by rw[hr];exact u)) ?_;have hy:t.nodes[r]? = some t.nodes[r]:=List.getElem?_eq_getElem ag;generalize t.nodes[r]=y at hy;obtain⟨p1,o1,aa⟩:=nr.some_ (by omega);refine aH (v:=.pointer (some ⟨p1,o1+r*56,none⟩)) (fun K u=>by
   rw[aa];exact dJ underlying42 (s:=56) (fun _=>by kernel_rfl) (by omega) (by omega) (by rw[Int.toNat_natCast];exact u)) ?_
  refine aH (fun _=>Bt) (aH (v:=u6 y.id) (fun _=>FV (fun _=>by kernel_rfl) (nr.cell r y hy p1 o1 aa 0 (u6 y.id) rfl)) ?_);refine aH (fun _=>xt) (aH (fun _=>QX) ?_);refine eB (fun _=>by kernel_rfl) hx.drew (by show 0+2+1<(smC x).length;unfold smC;simp) rfl fun w1 z1 C=>?_;have z1:blk w1 bx 40 (smC {x with n:=y.id}):=z1;have I:=h.below bd
  have f1:Frm B Z w.drew w1:=⟨bv (Below.refl _ _) C am,fun g hg=>C.other g fun e=>an (e ▸ hg)⟩
  have Z5:LW B w1 k E X S Z:=⟨I.lw.mw,⟨fun j hj=>(I.lw.ww.rp j hj).oth C (al j hj),I.lw.ww.sep,I.lw.ww.z,fun g hg=>by have:=I.lw.ww.zl g hg;have:=C.size;omega,I.lw.ww.lo⟩,I.lw.k6,I.lw.fw,by have:=I.lw.B;have:=C.size;omega⟩
  exact Gh (x:={x with n:=y.id}) (I.step Z5 (fun _ hm=>hm) (fun _=>rfl) f1) hi z1 hk hE e6 M O U rfl ew hq (hB.mono ((bd.mono h.lw.B).trans f1.b))
end
theorem Ff {T:List MGT}(h:w.ownsRow B 38 12 (.slice a n c) n (T.flatMap tmC))(I:T.length=n)(J:0<n):∃g j,a=some ⟨g,0,none⟩∧blk w g 38 j∧j.take (n*12)=T.flatMap tmC∧(∀(p:Nat) (x:MGT),T[p]? = some x→∀(f:Nat) (v:Value),f<12→(tmC x)[f]? = some v→j[0+p*12+f]? = some v)∧∀(p:Nat) (x:MGT),T[p]? = some x→(j.drop (0+p*12)).take 12=tmC x:=by
 obtain⟨g,j,M,u⟩:=cq h J;refine⟨g,j,M,u.blk,u.take,fun p x C f v O U=>?_,fun p x C=>by rw[Nat.zero_add];exact u.elem jN I C⟩
 have:=u.cell (s:=12) (enc:=tmC) jN I C O
 rw[Nat.zero_add,this];exact U
section
variable {P:Program}{w:World}{K:KV}
theorem Gl {ty:TypeId}{cs:Array Bool}{base:Nat}{i:TypeInfo}{z:Value}(ht:P.underlying t=some (.slice e))(hi:P.info? e=some i)(hz:i.zero=some z)(M:i.size=s)(U:i.bytes=b)(ag:z.cells.size=s)(aa:0<s){xs:List Value}(O:w.ownsRow base e s (.slice av n c) n xs){zs:List Value}(hy:blk w g E zs)(ad:ys.length=m*s)(af:zs.take (m*s)=ys)(h1:∀u∈ys,u.oneCell'=true)(C:(n+m)*b≤140737488355328)(am:n+m≤9223372036854775807)(J:base≤w.heap.size)(h:∀I c' w',w'.ownsRow base e s (.slice I (n+m) c') (n+m) (xs++ys)→w.grownBy w' (Value.slice av n c).ownBlock→((Value.slice I (n+m) c').ownBlock=(Value.slice av n c).ownBlock∨(Value.slice I (n+m) c').ownBlock=some w.heap.size)→K (.slice I (n+m) c') w'):blt P .append #[t,t] ty cs #[.slice av n c,.slice (some ⟨g,0,none⟩) m c2] K w:=by
  have hn:∀j u,ys[j]? = some u→w.cell? ((⟨g,0,none⟩:Addr).add j)=some u:=by
    intro j u hj;rw[Bq,hy.cell,Nat.zero_add];have an:=(List.getElem?_eq_some_iff.1 hj).1;rw[←af,List.getElem?_take_of_lt (by omega)]at hj;exact hj
  obtain⟨v',w',hr,h2,h3,_,h5⟩:=run_append_own_at (P:=P) w base t ty e i z s b ht hi hz M U ag aa _ n xs O ⟨g,0,none⟩ m c2 ys ad hn h1 (by simp only[maxLen];omega) C J;obtain⟨I,c',rfl⟩:∃I c',v'=.slice I (n+m) c':=by
    rcases h2.2 with⟨hv,hn⟩|⟨g,cap,al,hv,_⟩
    · exact⟨none,0,by rw[hv,hn]⟩
    · exact⟨_,cap,hv⟩
  exact qv (by rw[BigFrame.builtin_append];simp only[Sem.run_bind,hr,Result.andThen_ok,Sem.run_pure]) (h I c' w' h2 h3 h5)
end
def spB :Option Addr→Option Nat
 | some ⟨b,_,none⟩=>some b
 | _=>none
theorem Ft (h:spB a=some b):∃o,a=some ⟨b,o,none⟩:=by
 match a,h with
 | some ⟨b',o,none⟩,h=>cases h;exact⟨o,rfl⟩
def evB (T:List MGT):List Nat:=T.filterMap fun x=>spB x.2.1
theorem Hm {T:List MGT}{x:MGT}(j:x∈T)(h:x.2.1=some ⟨b,o,none⟩):b∈evB T:=List.mem_filterMap.2 ⟨x,j,by rw[h];rfl⟩
section
variable {w:World}{K:KV}{B k rc oc q i bx:Nat}{ra oa:Option Addr}{E:List EV}{X:Nat→RpX}{S:Nat→RS}{Z:List Nat}{Wm:List MGT}{nw:Int}{B1:KE}{x:SM}
theorem Lm {y:MGT}(mw:MW k E S)(hk:k≤6)(j:MgOK k E S y.1)(hs:TMk b w y)(h2:y.1.k=2→y.2=(none,0))(h:∀w',Below w.heap.size w w'→K (.bool true) w'):call Tryz.prog 11 #[.agg (tmC y).toArray] K w:=by
 obtain⟨hf,ht,U⟩:=j.ft;rw[yd j.v6];have I:=Bz (mw.pi hf) j.le;obtain⟨⟨k0,f0,t0,V0,n0,a0,L0⟩,p0,c0⟩:=y;have f1:f0<k:=hf;have f2:t0<k:=ht;have f3:f0≠t0:=U;have r1:bK ((f0:Int)+1)=true:=by unfold bK;simp;omega
 have r2:bK ((t0:Int)+1)=true:=by unfold bK;simp;omega
 have r3:(f0:Int)+1≠(t0:Int)+1:=by omega
 rcases j.is with⟨u,C,J,M,P,O,_⟩|⟨u,C,J,e4,e5⟩
 ·simp only at u C J;subst u C J;exact TF hs.vr M (fun e he=>mw.hist.may e (O.mem e he)) j.v6 I r1 r2 r3 h
 ·simp only at u C;subst u C;have e6:=h2 rfl;simp only[Prod.mk.injEq]at e6;obtain⟨rfl,rfl⟩:=e6;exact DP J ⟨e4,e5⟩ j.v6 I r1 r2 r3 h
theorem LI.told {X':Nat→RpX}{T:List MGT}(R:List Nat)(h:LI B w k ra rc E X S Z Wm oa oc)(u:LW B w' k E X' S Z)(hT:∀x∈T,wU k i (S i) x∧TMk w.heap.size w' x∧MgOK k E S x.1)(hp:∀j,(X' j).R.p=(X j).R.p)(hf:Frm B Z w w')(ha:∀j,j<k→∀x∈AF (X' j),x<w.heap.size)(hR:∀b∈R,w.heap.size≤b∧b<w'.heap.size):LI B w' k ra rc E X' S (Z++(R++evB T)) Wm oa oc∧∀x∈T,MgOK k E S x.1∧TMk B w' x∧(∀b o,x.2.1=some ⟨b,o,none⟩→b∈Z++(R++evB T))∧(x.1.k=2→x.2=(none,0)):=by
 have M:=h.step u (fun _ hm=>hm) hp hf;have I:∀b∈R++evB T,w.heap.size≤b∧b<w'.heap.size:=fun b I=>by
  rcases List.mem_append.1 I with I|I
  ·exact hR b I
  obtain⟨x,C,e⟩:=List.mem_filterMap.1 I;obtain⟨t1,O,t3⟩:=hT x C;obtain⟨o,ho⟩:=Ft e;obtain⟨u1,cs,u2⟩:=O.ev b o ho;exact⟨u1,u2.lt⟩
 have hw:WW w' B k X' S (Z++(R++evB T)):=⟨u.ww.rp,u.ww.sep,fun j hj x C=>(List.mem_append.1 C).elim (fun J=>u.ww.z j hj x J) fun J hh=>by have:=(I x J).1;have:=ha j hj x hh;omega,fun x C=>(List.mem_append.1 C).elim (fun J=>u.ww.zl x J) fun J=>(I x J).2,u.ww.lo⟩
 refine⟨⟨⟨u.mw,hw,u.k6,u.fw,u.B⟩,M.ar,fun g U=>List.mem_append_left _ (M.az g U),M.wr,fun g U=>List.mem_append_left _ (M.wz g U),fun x C=>?_⟩,fun x C=>?_⟩
 ·obtain⟨a,b,c,d⟩:=M.ms x C;exact⟨a,b,fun b o e=>List.mem_append_left _ (c b o e),d⟩
 ·obtain⟨t1,O,t3⟩:=hT x C;refine⟨t3,⟨O.vr,fun b o e=>?_⟩,fun b o e=>List.mem_append_right _ (List.mem_append_right _ (Hm C e)),fun h2=>?_⟩
  ·obtain⟨u1,u2⟩:=O.ev b o e;exact⟨Nat.le_trans h.lw.B u1,u2⟩
  ·rcases t1.is with⟨e1,_⟩|⟨_,_,e2,e3,_⟩
   ·omega
   ·exact Prod.ext e2 e3
end
abbrev ToldOK (B:Nat)(w:World)(k:Nat)(E:List EV)(S:Nat→RS)(Z:List Nat)(T:List MGT):Prop:=∀x∈T,MgOK k E S x.1∧TMk B w x∧(∀b o,x.2.1=some ⟨b,o,none⟩→b∈Z)∧(x.1.k=2→x.2=(none,0))
theorem ToldOK.below {E:List EV}{S:Nat→RS}{T:List MGT}(h:ToldOK B w k E S F T)(j:Below w.heap.size w w'):ToldOK B w' k E S F T:=fun x u=>by
 obtain⟨a,b,c,d⟩:=h x u;exact⟨a,b.below j,c,d⟩
section
variable {w:World}{K:KV}{B k rc oc q i bx:Nat}{ra oa:Option Addr}{E:List EV}{X:Nat→RpX}{S:Nat→RS}{Z:List Nat}{Wm:List MGT}{nw:Int}{B1:KE}{x:SM}
theorem OF {T:List MGT}(h:LI B w k ra rc E X S Z Wm oa oc)(hT:ToldOK B w k E S Z T)(ht:w.ownsRow B 38 12 (.slice av T.length n) T.length (T.flatMap tmC))(a4:T.length≤38)(a7:Wm.length≤100000)(e6:X6=.slice ra k rc)(U:Z6=.slice oa Wm.length oc)(J:u7=u6 nw)(M:B7=iv (q:Nat))(et:Y7=.slice av T.length n)(hq:q<1000)(hB:HB B w k ra rc E Wm q nw B1):dQ K B1 ((aC Y5 Z5 K6 W6 X6 Y6 Z6 u7 B7 K7 W7 X7 Y7 Z7 B8 K8 W8 X8 Y8 Z8 l9 n9 u9 B9 K9 W9 X9 Y9 Z9 ia ja ka qa ua xa ya Aa Ba Ca Da Ea Fa Ga Ha Ia Ja Ka La Ma Na Oa Pa Qa Ra Sa Ta Ua Va Wa Xa zf)) w:=by
 subst U et;have an:Wm.length≤oc:=by
  rcases h.wr.2 with⟨I,h0⟩|⟨_,_,_,I,_,_,h1,_⟩
  ·simp only[Value.slice.injEq]at I;omega
  ·simp only[Value.slice.injEq]at I;omega
 refine qQ ?_;by_cases h0:T.length=0
 ·rw[h0];exact JM (s:=12) underlying30 (fun _=>by kernel_rfl) an (zW h (Nat.le_succ _) (by omega) e6 rfl J M hq hB)
 obtain⟨mi,ag,am,al,af⟩:=info_parts Rt;obtain⟨gt,a3,rfl,ad,ap,_,_⟩:=Ff ht rfl (by omega);refine Gl (s:=12) (m:=T.length) (ys:=T.flatMap tmC) underlying30 ag am al af rfl (by omega) h.wr ad (Dd jN T) ap (fun u hu=>by
  obtain⟨y,_,j⟩:=List.mem_flatMap.1 hu;exact yh y u j) (by omega) (by omega) h.lw.B fun a' c' w1 r1 C k1=>?_
 obtain⟨g',a2,rfl,a0⟩:=cq r1 (by omega);have hl:(Wm++T).length=Wm.length+T.length:=by simp
 have hc:Ch Z w w1:=⟨C.os,C.tape,C.output,C.size,fun y j hn=>C.block y j fun e=>hn (h.wz y e.symm)⟩
 have aa:g'∈Z∨w.heap.size≤g':=by
  rcases k1 with e|e
  ·exact .inl (h.wz g' (by rw[←e];rfl))
  ·simp only[Value.ownBlock,Option.some.injEq]at e;exact .inr (by omega)
 have b1:Below B w w1:=dW C h.lw.B fun y j=>(World.ownsRow.lt h.wr y j).1;have aE:WW w1 B k X S (g'::Z):=h.lw.ww.own hc fun y j=>by
  rcases List.mem_cons.1 j with rfl|j
  ·exact⟨aa,a0.blk.lt⟩
  ·exact⟨.inl j,by have:=h.lw.ww.zl y j;have:=C.size;omega⟩
 have li:LI B w1 k ra rc E X S (g'::Z) (Wm++T) (some ⟨g',0,none⟩) c':=by
  refine⟨⟨h.lw.mw,aE,h.lw.k6,h.lw.fw,Nat.le_trans h.lw.B C.size⟩,sR h.ar h.wr (by decide) C,fun g O=>List.mem_cons_of_mem _ (h.az g O),?_,fun g O=>?_,fun y j=>?_⟩
  ·rw[hl,List.flatMap_append];exact r1
  ·simp only[Value.ownBlock,Option.some.injEq]at O;simp only[List.mem_cons];exact .inl O.symm
  ·have aS:MgOK k E S y.1∧TMk B w y∧(∀b o,y.2.1=some ⟨b,o,none⟩→b∈Z)∧(y.1.k=2→y.2=(none,0)):=(List.mem_append.1 j).elim (fun j=>h.ms y j) fun j=>hT y j;obtain⟨a,b,c,d⟩:=aS;exact⟨a,b.grow h.wr C,fun b o e=>List.mem_cons_of_mem _ (c b o e),d⟩
 exact zW (Wm':=Wm++T) li (Nat.le_succ _) (by rw[hl];omega) e6 (by rw[hl]) J M hq (hB.mono b1)
theorem Ot {T:List MGT}(h:LI B w k ra rc E X S Z Wm oa oc)(hT:ToldOK B w k E S Z T)(ag:∀x∈T,x.1.f=i)(hi:i<k)(U:w.ownsRow B 38 12 (.slice a T.length b) T.length (T.flatMap tmC))(al:T.length≤38)(am:Wm.length≤100000)(e5:W6=iv (k:Nat))(e6:X6=.slice ra k rc)(aa:Z6=.slice oa Wm.length oc)(ad:u7=u6 nw)(af:B7=iv (q:Nat))(ew:W7=iv (i:Nat))(et:Y7=.slice a T.length b)(ej:Z7=iv (0:Nat))(hq:q<1000)(hB:HB B w k ra rc E Wm q nw B1):ip K B1 ((aC Y5 Z5 K6 W6 X6 Y6 Z6 u7 B7 K7 W7 X7 Y7 Z7 B8 K8 W8 X8 Y8 Z8 l9 n9 u9 B9 K9 W9 X9 Y9 Z9 ia ja ka qa ua xa ya Aa Ba Ca Da Ea Fa Ga Ha Ia Ja Ka La Ma Na Oa Pa Qa Ra Sa Ta Ua Va Wa Xa zf)) w:=by
 subst e5 ew et ej;have I:=h.lw.k6;refine oZ (Inv:=fun j _ _ _ _ _ _ _ _ _ _ _ _ _ _ _ _ _ _ _ _ _ wr=>∃p:Nat,j=iv (p:Nat)∧p≤T.length∧Below w.heap.size w wr) (μ:=fun j _ _ _ _ _ _ _ _ _ _ _ _ _ _ _ _ _ _ _ _ _ _=>T.length-(intOf j).toNat) ⟨0,rfl,Nat.zero_le _,Below.refl _ _⟩ ?_;rintro _ _ _ _ _ _ _ _ _ _ _ _ _ _ _ _ _ _ _ _ _ _ dd w1 mu ⟨p,rfl,hp,b1⟩ ap;have h1:=h.below b1;have C:=hT.below b1
 have M:=cJ U (w':=w1) fun k I=>b1.block k (World.ownsRow.lt U k I).2;refine bj underlying30 (aM ?_);by_cases J:p<T.length
 ·have O:T[p]? = some T[p]:=List.getElem?_eq_getElem J;generalize T[p]=y at O;have hy:=List.mem_of_getElem? O;obtain⟨m1,m2,m3,m4⟩:=C y hy;have an:=ag y hy;obtain⟨_,az,_⟩:=m1.ft;refine ax (by omega) (Ge (i:=p) (enc:=tmC) (s:=12) (L:=T) (x:=y) underlying30 (fun _=>by kernel_rfl) underlying38 rfl (by kernel_rfl) jN M rfl O fun _=>Lm h.lw.mw I.2 m1 m2 m4 fun w2 b2=>dB ?_)
  have u:=b1.trans (b2.mono b1.size);have ar:=cJ U (w':=w2) fun k I=>u.block k (World.ownsRow.lt U k I).2;obtain⟨g,av,rfl,hg,_,hc,_⟩:=Ff ar rfl (by omega)
  have ix:∀{K:KV},K (.pointer (some ⟨g,0+p*12,none⟩)) w2→aV Tryz.prog 30 (.slice (some ⟨g,0,none⟩) T.length b) (iv (p:Nat)) K w2:=fun hK=>dJ underlying30 (s:=12) (fun _=>by kernel_rfl) (by omega) (by omega) (by rw[Int.toNat_natCast];exact hK);have c1:=hc p y O 1 (iv ((y.1.f:Int)+1)) (by omega) rfl;have c2:=hc p y O 2 (iv ((y.1.t:Int)+1)) (by omega) rfl
  have n1 : ¬((y.1.f:Int)+1≠(i:Int)+1):=by rw[an];simp
  have K6 : ¬((y.1.t:Int)+1<1):=by omega
  have n3 : ¬((k:Nat):Int)<(y.1.t:Int)+1:=by omega
  refine lR (ix (GY (lK (v:=iv ((y.1.f:Int)+1)) hg c1 (aW (by omega) (by omega) (bN (dA (dX n1 ?_)))))));refine ix (jp (lK (v:=iv ((y.1.t:Int)+1)) hg c2 (aM (bw n1 (dX K6 ?_)))));refine ix (jp (lK (v:=iv ((y.1.t:Int)+1)) hg c2 (de (bw K6 (aq n3 ?_)))));refine aW (by omega) (by omega) ⟨⟨p+1,congrArg iv (by push_cast;rfl),J,u⟩,?_⟩
  rw[ap];show T.length-((p:Int)+1).toNat<T.length-(p:Int).toNat;omega
 ·exact aq (by omega) (OF h1 C M al am e6 aa ad af rfl hq (hB.mono (b1.mono h.lw.B)))
theorem Ml {y:MGT}{K2:Value→KV}(h:∀w',blk w' w.heap.size 38 (tmC y)→Below w.heap.size w w'→K2 (pB w.heap.size) undef w'):alc Tryz.prog 38 (fun p=>sto Tryz.prog 38 p (.agg (tmC y).toArray) (K2 p)) w:=by
 refine dZ (z:=.agg (mgC 0 0 0 (List.replicate 6 0) (.slice none 0 0) 0 0).toArray) (by kernel_rfl) fun I j b1 M=>?_;have j:blk I w.heap.size 38 (mgC 0 0 0 (List.replicate 6 0) (.slice none 0 0) 0 0):=by simpa[Value.cells]using j
 have u:=jN y;refine jP (n:=12) (vs:=tmC y) (by kernel_rfl) u j (by show 0+12≤12;omega) (yh y) fun J z2 C=>?_;rw[List.take_zero,List.nil_append,List.drop_of_length_le (by show 12≤0+12;omega),List.append_nil]at z2;exact h J z2 (bv b1 C (Nat.le_refl _))
theorem Hg {y:MGT}{now:Value}{Z0:List Nat}(h:LW B w k E X S Z)(u:MgOK k E S y.1)(hs:TMk B w y)(hz:∀b o,y.2.1=some ⟨b,o,none⟩→b∈Z)(h2:y.1.k=2→y.2=(none,0))(hE:E.length<100)(O:∀w' X' S' E' v,LW B w' k E' X' S' Z→E'.length≤E.length+1→(∀m,MgOK k E S m→MgOK k E' S' m)→(∀j,(X' j).R.p=(X j).R.p)→Frm B Z w w'→K (.tuple #[v,ci 0]) w'):call Tryz.prog 12 #[pB (X y.1.t).R.p,.agg (tmC y).toArray,now] K w:=by
 rw[yd u.v6];obtain⟨⟨k0,f0,t0,V0,n0,a0,L0⟩,p0,c0⟩:=y;rcases u.is with⟨C,I,J,U,P,aa,hP⟩|⟨C,I,J,e4,e5⟩
 ·simp only at C I J;subst C I J;exact BJ h u rfl hs.vr hz fun w' x' l' A' P' v l1 m1 _ _ _ p1 f1=>O w' _ _ E v l1 (Nat.le_succ _) (fun m u=>u.mono m1) p1 f1
 ·simp only at C I;subst C I;have M:=h2 rfl;simp only[Prod.mk.injEq]at M;obtain⟨rfl,rfl⟩:=M;exact Fe h u rfl hE O
theorem NY (h:LI B w k ra rc E X S Z Wm oa oc)(hi:i<k)(hx:blk w bx 40 (smC x))(al:xO x)(hE:E.length<100)(ag:Wm.length≤100000)(e5:W6=iv (k:Nat))(e6:X6=.slice ra k rc)(U:Z6=.slice oa Wm.length oc)(aa:u7=u6 nw)(u:B7=iv (q:Nat))(ex:K7=pB bx)(ew:W7=iv (i:Nat))(ed:n9=kv8 x.d)(et:ja=.bool (decide (x.d=2)))(M:q<1000)(J:HB B w k ra rc E Wm q nw B1):gg K B1 ((aC Y5 Z5 K6 W6 X6 Y6 Z6 u7 B7 K7 W7 X7 Y7 Z7 B8 K8 W8 X8 Y8 Z8 l9 n9 u9 B9 K9 W9 X9 Y9 Z9 ia ja ka qa ua xa ya Aa Ba Ca Da Ea Fa Ga Ha Ia Ja Ka La Ma Na Oa Pa Qa Ra Sa Ta Ua Va Wa Xa zf)) w:=by
 subst e6 U aa ex ew ed et;obtain⟨g,O,rfl,hg,C⟩:=h.ar.open (by omega);refine nX ?_;by_cases d2:x.d=2
 ·refine ax d2 (Do hg C hi fun _=>Cs h.lw hi fun w1 X' T ta tc Z5 hT av af ht p1 f1 ha=>?_);obtain⟨li,ad⟩:=h.told (i:=i) [] Z5 hT p1 f1 ha (by simp);exact Ot li ad (fun y I=>(hT y I).1.f) hi (Ku ht h.lw.B) af ag e5 rfl rfl rfl u rfl rfl rfl M (J.mono f1.b)
 refine aq d2 (cA ?_);by_cases d3:x.d=3
 ·refine ax d3 (bj underlying30 (cA ?_));by_cases h0:((Wm.length:Nat):Int)=0
  ·exact ax h0 (Dp h rfl rfl u M J)
  ·have am:=al.pick;refine aq h0 (Bu (lK (v:=kv8 x.pick) hx rfl (dS underlying5 underlying3 ?_)));rw[eK (by omega) (by omega)]
   obtain⟨r,hr,an⟩:∃r:Nat,x.pick%(Wm.length:Nat)=(r:Nat)∧r<Wm.length:=⟨(x.pick%(Wm.length:Nat)).toNat,by have:=Int.emod_nonneg x.pick (show (Wm.length:Int)≠0 by omega);omega,by have:=Int.emod_lt_of_pos x.pick (show (0:Int)<Wm.length by omega);have:=Int.emod_nonneg x.pick (show (Wm.length:Int)≠0 by omega);omega⟩
   refine bj underlying30 (xX am.1 (by omega) ?_);rw[hr];have I:Wm[r]? = some Wm[r]:=List.getElem?_eq_getElem an;generalize Wm[r]=y at I;obtain⟨m1,m2,m3,m4⟩:=h.ms y (List.mem_of_getElem? I);obtain⟨_,ap,_⟩:=m1.ft;have hk:=h.lw.k6;refine Ge (i:=r) (enc:=tmC) (s:=12) (L:=Wm) (x:=y) underlying30 (fun _=>by kernel_rfl) underlying38 rfl (by kernel_rfl) jN h.wr rfl I fun _=>Ml fun w1 z1 b1=>?_
   have g1:=ac b1 hg hg.lt;have h1:=h.below b1;refine aw (fun v=>blk v g 26 O∧blk v w.heap.size 38 (tmC y)) ⟨g1.drew,z1.drew⟩ ?_;refine ab (fun v d _ j=>jp j) (ab (v:=iv ((y.1.t:Int)+1)) (fun v d _ j=>lK d.2 rfl j) (ab (v:=iv (y.1.t:Nat)) (fun v _ _ j=>bh (by omega) (by omega) (by rw[show (y.1.t:Int)+1-1=(y.1.t:Nat)by omega];exact j)) ?_))
   refine ab (v:=.pointer (some ⟨g,0+y.1.t*1,none⟩)) (fun v d _ j=>dJ underlying25 (s:=1) (fun _=>by kernel_rfl) (by omega) (by omega) (by rw[Int.toNat_natCast];exact j)) (ab (v:=pB (X y.1.t).R.p) (fun v d _ j=>lK d.1 (C y.1.t ap) j) ?_)
   refine ab (v:=.agg (tmC y).toArray) (fun v d _ j=>ldA (n:=12) (vs:=tmC y) underlying38 rfl (by kernel_rfl) d.2 (by rw[List.drop_zero,List.take_of_length_le (by rw[jN];omega)]) (jN y) j) ?_;have bd:Below w.heap.size w w1.drew:=b1.drew;have hd:=h.below bd;obtain⟨_,q2,_,_⟩:=hd.ms y (List.mem_of_getElem? I);refine Hg (Z0:=[]) hd.lw m1 q2 m3 m4 hE fun w2 X' S' E' v l2 e2 t2 p2 f2=>?_
   refine aw (fun _=>True) trivial (ab (fun v _ _ j=>cZ j) (ab (fun v _ _ j=>db j) (bN (aq (by simp) ?_))));exact zW (hd.step l2 t2 p2 f2) e2 (by omega) rfl rfl rfl u M (J.mono ((bd.mono h.lw.B).trans f2.b))
 ·exact aq d3 (zW h (Nat.le_succ _) (by omega) rfl rfl rfl u M J)
theorem NS (h:LI B w k ra rc E X S Z Wm oa oc)(hi:i<k)(hx:blk w bx 40 (smC x))(U:xO x)(ag:B≤bx)(al:bx∉Z)(af:∀j,j<k→bx∉AF (X j))(hE:E.length<100)(an:Wm.length≤100000)(e5:W6=iv (k:Nat))(e6:X6=.slice ra k rc)(u:Z6=.slice oa Wm.length oc)(C:u7=u6 nw)(I:B7=iv (q:Nat))(ex:K7=pB bx)(ew:W7=iv (i:Nat))(ed:n9=kv8 x.d)(hq:q<1000)(hB:HB B w k ra rc E Wm q nw B1):fW K B1 ((aC Y5 Z5 K6 W6 X6 Y6 Z6 u7 B7 K7 W7 X7 Y7 Z7 B8 K8 W8 X8 Y8 Z8 l9 n9 u9 B9 K9 W9 X9 Y9 Z9 ia ja ka qa ua xa ya Aa Ba Ca Da Ea Fa Ga Ha Ia Ja Ka La Ma Na Oa Pa Qa Ra Sa Ta Ua Va Wa Xa zf)) w:=by
 subst e6 ex ew ed;refine nS (cA ?_);by_cases d1:x.d=1
 ·obtain⟨g,ap,rfl,hg,ad⟩:=h.ar.open (by omega);have hp:=h.lw.pi hi;refine ax d1 (Do hg ad hi fun _=>Si (h.lw.ww.rp i hi).rp hp (h.lw.G hi) fun w1 t ga gc so b1=>Dk so hp fun w2 z2 b2=>?_);have O:=b1.trans (b2.mono b1.size);have h2:=h.below O;have J:=ac O hx hx.lt;have M:=hB.mono (O.mono h.lw.B);refine xt (QW (lK (v:=kv8 x.k) J rfl (cA ?_)));by_cases k7:x.k=7
  ·exact jy k7 (bO k7 (bu (Dp h2 u C I hq M)))
  refine dX k7 (xt (QW (lK (v:=kv8 x.k) J rfl (cA (bw k7 ?_)))));by_cases k6:x.k=6
  ·exact ax k6 (Dp h2 u C I hq M)
  have aa:=so.fresh b2;have k1:=aa.sk hp;have am:=JV k1.i6 k1.l6 k1.v6;refine aq k6 (jO (lK (v:=.slice t.na t.nodes.length t.nc) z2 am (bj underlying42 (de ?_))));by_cases hn:(0:Int)<(t.nodes.length:Nat)
  ·exact dD hn (EX (lK (v:=.bool x.raw) J rfl (dB (bO hn (Gf (b := !x.raw) h2 hi J U ag al af aa hp z2 (fun _=>by omega) ⟨k6,k7⟩ hE rfl u C I rfl rfl rfl rfl hq M)))))
  ·exact dY hn (bw hn (Gf (b:=false) h2 hi J U ag al af aa hp z2 (fun hh=>by cases hh) ⟨k6,k7⟩ hE rfl u C I rfl rfl rfl rfl hq M))
 ·exact aq d1 (cA (NY h hi hx U hE an e5 rfl u C I rfl rfl rfl rfl hq hB))
end
theorem De {x:SM}(h:x.mv.length=12):(smC x).length=24:=by unfold smC;simp[h]
theorem HE {x:SM}(h:xO x):∀v∈smC x,v.oneCell'=true:=by
 intro v j;unfold smC at j;simp only[List.mem_append,List.mem_cons,List.not_mem_nil,or_false]at j;rcases j with(rfl|rfl|rfl|rfl|rfl|rfl|rfl|rfl|rfl|rfl|rfl)|(j|rfl)
 any_goals rfl
 exact h.one v j
theorem RdI.imp {E:List EV}{S:Nat→RS}{a:Nat}{D D':Nat→Nat→Prop}(h:RdI k E S a b D)(u:∀o j,o<k→j<k→o≠j→D' o j→D o j):RdI k E S a b D' :=
 ⟨h.ra,h.rb,fun o j a b c d=>h.rc o j a b c (u o j a b c d),fun o j a b c d=>h.rd o j a b c (u o j a b c d)⟩
section
variable {w:World}{K:KV}{B k rc oc q i bx m lc:Nat}{ra oa la:Option Addr}{E:List EV}{X:Nat→RpX}{S:Nat→RS}{Z:List Nat}{Wm:List MGT}{nw:Int}{B1:KE}{x:SM}{L:List SM}
theorem Pg (h:SMR w a n c L)(J:a=some ⟨b,o,none⟩)(C:L[i]? = some x)(I:K (.agg (smC x).toArray) w):ld Tryz.prog 40 (.pointer (some ⟨b,o+i*24,none⟩)) K w :=
 IG (run_loadVar_mid w b (o+i*24) 40 (smC x) _ (fun j u M=>h.cell i x C b o J j u M) underlying40 rfl (by rw[De (h.ok x (List.mem_of_getElem? C)).m12];kernel_rfl)) I
theorem Mp {K2:Value→KV}(j:xO x)(h:∀w',blk w' w.heap.size 40 (smC x)→Below w.heap.size w w'→K2 (pB w.heap.size) undef w'):alc Tryz.prog 40 (fun p=>sto Tryz.prog 40 p (.agg (smC x).toArray) (K2 p)) w:=by
 refine dZ (z:=.agg (smC ⟨0,0,0,0,0,0,0,0,0,false,false,mgC 0 0 0 (List.replicate 6 0) (.slice none 0 0) 0 0,0⟩).toArray) (by kernel_rfl) fun J u b1 O=>?_;have u:blk J w.heap.size 40 (smC ⟨0,0,0,0,0,0,0,0,0,false,false,mgC 0 0 0 (List.replicate 6 0) (.slice none 0 0) 0 0,0⟩):=by simpa[Value.cells]using u
 have C:=De j.m12;refine jP (n:=24) (vs:=smC x) (by kernel_rfl) C u (by show 0+24≤24;omega) (HE j) fun M z2 I=>?_;rw[List.take_zero,List.nil_append,List.drop_of_length_le (by show 24≤0+24;omega),List.append_nil]at z2;exact h M z2 (bv b1 I (Nat.le_refl _))
theorem NQ (h:LI B w k ra rc E X S Z Wm oa oc)(I:SMR w la m lc L)(hx:L[q]? = some x)(hm:m≤80)(hE:E.length<100)(ad:Wm.length≤100000)(el:Z5=.slice la m lc)(e5:W6=iv (k:Nat))(e6:X6=.slice ra k rc)(O:Z6=.slice oa Wm.length oc)(U:u7=u6 nw)(aa:B7=iv (q:Nat))(hB:∀ag,HB B w k ra rc E Wm q ag B1):fP K B1 ((aC Y5 Z5 K6 W6 X6 Y6 Z6 u7 B7 K7 W7 X7 Y7 Z7 B8 K8 W8 X8 Y8 Z8 l9 n9 u9 B9 K9 W9 X9 Y9 Z9 ia ja ka qa ua xa ya Aa Ba Ca Da Ea Fa Ga Ha Ia Ja Ka La Ma Na Oa Pa Qa Ra Sa Ta Ua Va Wa Xa zf)) w:=by
 subst el e5 e6 O U aa;have hk:=h.lw.k6;have u:=I.ok x (List.mem_of_getElem? hx);have al:q<m:=by rw[←I.len];exact(List.getElem?_eq_some_iff.1 hx).1
 obtain⟨b,o,rfl⟩:=I.some_ (by omega);have C:=u.who;refine nJ (dJ underlying22 (s:=24) (fun _=>by kernel_rfl) (by omega) (by omega) ?_);rw[Int.toNat_natCast];refine Pg I rfl hx (Mp u fun w1 J b1=>?_);have M:(smC x)[0+23]? = some (kv8 x.pass):=by
  unfold smC;rw[List.getElem?_append_right (by simp),List.getElem?_append_right (by simp[u.m12])];simp[u.m12]
 refine EZ (lK (v:=kv8 x.pass) J M (Cq (by omega) (dS underlying5 underlying31 (jS ?_))));refine EW (lK (v:=kv8 x.who) J rfl (dS underlying5 underlying3 ?_));rw[eK (by omega) (by omega)]
 obtain⟨r,hr,af⟩:∃r:Nat,x.who%(k:Nat)=(r:Nat)∧r<k:=⟨(x.who%(k:Nat)).toNat,by have:=Int.emod_nonneg x.who (show (k:Int)≠0 by omega);omega,by have:=Int.emod_lt_of_pos x.who (show (0:Int)<k by omega);have:=Int.emod_nonneg x.who (show (k:Int)≠0 by omega);omega⟩
 refine xX C.1 (by omega) ?_;rw[hr];refine EU (lK (v:=kv8 x.d) J rfl ?_);have h1:=h.below b1;refine NS h1 af J u h.lw.B (fun hh=>by have:=h.lw.ww.zl _ hh;omega) (fun j hj hh=>by have:=(h.lw.ww.rp j hj).lt _ hh;omega) hE ad rfl rfl rfl rfl rfl rfl rfl rfl (by omega) ((hB _).mono (b1.mono h.lw.B))
theorem NZ {a:Nat}{T:List MGT}{B3:KE}{D:Nat→Nat→Prop}{y:MGT}(h:LI B w k ra rc E X S Z Wm oa oc)(hi:i<k)(hT:ToldOK B w k E S Z T)(ht:w.ownsRow B 38 12 (.slice av T.length c) T.length (T.flatMap tmC))(hz:∀g,(Value.slice av T.length c).ownBlock=some g→g∈Z)(a2:T.length≤38)(O:T[p]? = some y)(M:wU k i (S i) y)(hr:RdI k E S a b D)(e5:W6=iv (k:Nat))(e6:X6=.slice ra k rc)(et:W8=.slice av T.length c)(ej:X8=iv (p:Nat))(hB:∀e w' X' S' ,LI B w' k ra rc E X' S' Z Wm oa oc→ToldOK B w' k E S' Z T→w'.ownsRow B 38 12 (.slice av T.length c) T.length (T.flatMap tmC)→S' i=S i→RdI k E S' a b (fun o j=>D o j∨o=i∧y.1.k=1∧j=y.1.t)→Below B w w'→gd e 24=iv ((p:Int)+1)→B3 e w'):gh K B1 B2 B3 ((aC Y5 Z5 K6 W6 X6 Y6 Z6 u7 B7 K7 W7 X7 Y7 Z7 B8 K8 W8 X8 Y8 Z8 l9 n9 u9 B9 K9 W9 X9 Y9 Z9 ia ja ka qa ua xa ya Aa Ba Ca Da Ea Fa Ga Ha Ia Ja Ka La Ma Na Oa Pa Qa Ra Sa Ta Ua Va Wa Xa zf)) w:=by
 subst e5 e6 et ej;have hk:=h.lw.k6;have a3:p<T.length:=(List.getElem?_eq_some_iff.1 O).1;obtain⟨g,al,rfl,hg,aa⟩:=h.ar.open (by omega);obtain⟨gt,ct,rfl,J,_,hc,az⟩:=Ff ht rfl (by omega);obtain⟨m1,m2,m3,m4⟩:=hT y (List.mem_of_getElem? O);obtain⟨a4,ag,_⟩:=m1.ft
 have ix:∀{u:World} {K:KV},K (.pointer (some ⟨gt,0+p*12,none⟩)) u→aV Tryz.prog 30 (.slice (some ⟨gt,0,none⟩) T.length c) (iv (p:Nat)) K u:=fun C=>dJ underlying30 (s:=12) (fun _=>by kernel_rfl) (by omega) (by omega) (by rw[Int.toNat_natCast];exact C);have c0:=hc p y O 0 (kv8 y.1.k) (by omega) rfl;have c2:=hc p y O 2 (iv ((y.1.t:Int)+1)) (by omega) rfl;have K6 : ¬((y.1.t:Int)+1<1):=by omega
 have n3 : ¬((k:Nat):Int)<(y.1.t:Int)+1:=by omega
 refine od (ix (jp (lK (v:=iv ((y.1.t:Int)+1)) J c2 (aM (dX K6 ?_)))));refine ix (jp (lK (v:=iv ((y.1.t:Int)+1)) J c2 (de (bw K6 (aq n3 ?_)))));refine ix (GX (lK (v:=kv8 y.1.k) J c0 (cA ?_)));by_cases I:y.1.k=1
 ·refine ax I (aw (fun v=>blk v g 26 al∧blk v gt 38 ct) ⟨hg.drew,J.drew⟩ ?_);refine ab (fun v d _ C=>ix C) (ab (fun v d _ C=>jp C) (ab (v:=iv ((y.1.t:Int)+1)) (fun v d _ C=>lK d.2 c2 C) (ab (v:=iv (y.1.t:Nat)) (fun v _ _ C=>bh (by omega) (by omega) (by rw[show (y.1.t:Int)+1-1=(y.1.t:Nat)by omega];exact C)) ?_)))
  refine ab (v:=.pointer (some ⟨g,0+y.1.t*1,none⟩)) (fun v d _ C=>dJ underlying25 (s:=1) (fun _=>by kernel_rfl) (by omega) (by omega) (by rw[Int.toNat_natCast];exact C)) (ab (v:=pB (X y.1.t).R.p) (fun v d _ C=>lK d.1 (aa y.1.t ag) C) ?_)
  refine ab (fun v d _ C=>ix C) (ab (v:=.agg (tmC y).toArray) (fun v d _ C=>ldA (n:=12) (vs:=tmC y) underlying38 rfl (by kernel_rfl) d.2 (az p y O) (jN y) C) ?_);have bd:Below w.heap.size w w.drew:=(Below.refl _ w).drew;have hd:=h.below bd;have U:=hT.below bd;obtain⟨_,q2,_,_⟩:=U y (List.mem_of_getElem? O);have en:y.1.n=0∧y.1.a=0:=by
   rcases m1.is with⟨_,a,b,_⟩|⟨a,_⟩
   ·exact⟨a,b⟩
   ·omega
  rw[yd m1.v6,I,en.1,en.2];have af:∃v,(S i).P[y.1.t]? = some v∧y.1.L=tl (S i).A v:=by
   rcases M.is with⟨_,_,_,v,a,b⟩|⟨a,_⟩
   ·exact⟨v,a,b⟩
   ·omega
  obtain⟨v,hv,hL⟩:=af;refine BJ hd.lw m1 I q2.vr m3 fun w2 x' l' A' P' v2 l2 t2 am aS ap p2 f2=>kl (aW (by omega) (by omega) ?_);have ad:i≠y.1.t:=fun e=>M.ne e.symm;have an:=hd.step l2 (fun m hm=>hm.mono t2) p2 f2;refine hB _ w2 _ _ an (fun u hu=>?_) (cJ ht fun z a0 => (f2.z z (hz z a0)).trans rfl) (jd ad) ?_ ((bd.mono h.lw.B).trans f2.b) rfl
  ·obtain⟨u1,u2,u3,u4⟩:=U u hu;exact⟨u1.mono t2,u2.frm u3 f2,u3,u4⟩
  ·have:=hr.tell h.lw.mw hi ag ad hv aS (fun f hf=>am f (by rw[hL,show tl (S i).A v=vn (S i) v from(BM).symm];exact hf)) (P':=P') (A':=A') fun m u hu=>by
    obtain⟨z,z1,z2,z3⟩:=ap m u hu;exact⟨z,z1,z2,fun aE=>by rw[←M.V];exact z3 (aE.trans M.f.symm)⟩
   exact this.imp fun o j _ _ _ hD=>hD.imp id fun hh=>⟨hh.1,hh.2.2⟩
 ·refine aq I (kl (aW (by omega) (by omega) ?_));exact hB _ w X S h hT ht rfl (hr.imp fun o j _ _ _ hD=>hD.elim id fun hh=>absurd hh.2.1 I) (Below.refl _ _) rfl
theorem OA {a:Nat}{T:List MGT}{D:Nat→Nat→Prop}(h:LI B w k ra rc E X S Z Wm oa oc)(hi:i<k)(hT:ToldOK B w k E S Z T)(ht:w.ownsRow B 38 12 (.slice av T.length n) T.length (T.flatMap tmC))(hz:∀g,(Value.slice av T.length n).ownBlock=some g→g∈Z)(al:T.length≤38)(an:∀y∈T,wU k i (S i) y)(hr:RdI k E S a b D)(e5:W6=iv (k:Nat))(e6:X6=.slice ra k rc)(et:W8=.slice av T.length n)(ej:X8=iv (0:Nat))(ei:K8=iv (i:Nat))(hB:∀e w' X' S' ,LI B w' k ra rc E X' S' Z Wm oa oc→RdI k E S' a b (fun o j=>D o j∨o=i∧∃y∈T,y.1.k=1∧j=y.1.t)→Below B w w'→gd e 22=iv ((i:Int)+1)→B2 e w'):iy K B1 B2 ((aC Y5 Z5 K6 W6 X6 Y6 Z6 u7 B7 K7 W7 X7 Y7 Z7 B8 K8 W8 X8 Y8 Z8 l9 n9 u9 B9 K9 W9 X9 Y9 Z9 ia ja ka qa ua xa ya Aa Ba Ca Da Ea Fa Ga Ha Ia Ja Ka La Ma Na Oa Pa Qa Ra Sa Ta Ua Va Wa Xa zf)) w:=by
 subst e5 e6 et ej ei;have hk:=h.lw.k6
 refine pK (Inv:=fun j _ _ _ _ _ _ _ wr=>∃(p:Nat) (X':Nat→RpX) (S':Nat→RS),j=iv (p:Nat)∧p≤T.length∧LI B wr k ra rc E X' S' Z Wm oa oc∧ToldOK B wr k E S' Z T∧wr.ownsRow B 38 12 (.slice av T.length n) T.length (T.flatMap tmC)∧S' i=S i∧RdI k E S' a b (fun o j=>D o j∨o=i∧∃y∈T.take p,y.1.k=1∧j=y.1.t)∧Below B w wr) (μ:=fun j _ _ _ _ _ _ _ _=>T.length-(intOf j).toNat)
  ⟨0,X,S,rfl,Nat.zero_le _,h,hT,ht,rfl,hr.imp (fun o j _ _ _ I=>I.elim id fun hh=>by obtain⟨_,y,J,_⟩:=hh;simp at J),Below.refl _ _⟩ ?_
 rintro _ _ _ _ _ _ _ _ dd w1 mu ⟨p,X',S',rfl,hp,h1,af,ar,es,U,b1⟩ am;refine bj underlying30 (aM ?_);by_cases O:p<T.length
 ·have J:T[p]? = some T[p]:=List.getElem?_eq_getElem O;have aa:T.take (p+1)=T.take p++[T[p]]:=by rw[List.take_add_one,J];rfl
  generalize T[p]=y at J aa;refine ax (by omega) (NZ h1 hi af ar hz al J (by rw[es];exact an y (List.mem_of_getElem? J)) U rfl rfl rfl rfl fun e w2 X2 S2 h2 ag az ad ap b2 g2=>?_);rw[g2];refine⟨⟨p+1,X2,S2,congrArg iv (by push_cast;rfl),O,h2,ag,az,ad.trans es,ap.imp fun o j _ _ _ I=>?_,b1.trans b2⟩,by rw[am];show T.length-((p:Int)+1).toNat<T.length-(p:Int).toNat;omega⟩
  rcases I with I|⟨e1,u,C,M,e3⟩
  ·exact .inl (.inl I)
  ·rw[aa]at C;rcases List.mem_append.1 C with C|C
   ·exact .inl (.inr ⟨e1,u,C,M,e3⟩)
   ·rw[List.mem_singleton.1 C]at M e3;exact .inr ⟨e1,M,e3⟩
 ·refine aq (by omega) (qU (aW (by omega) (by omega) (hB _ w1 X' S' h1 (U.imp fun o j _ _ _ I=>I.imp id fun hh=>?_) b1 rfl)));obtain⟨e1,u,C,M⟩:=hh;exact⟨e1,u,by rw[List.take_of_length_le (by omega)];exact C,M⟩
theorem Om {a:Nat}(h:LI B w k ra rc E X S Z Wm oa oc)(hr:RdI k E S a b fun _ _=>False)(e5:W6=iv (k:Nat))(e6:X6=.slice ra k rc)(M:u7=u6 nw)(ei:K8=iv (0:Nat))(er:B8=iv (q:Nat))(hq:q<1000)(hB:∀e w' X' S' Z',LI B w' k ra rc E X' S' Z' Wm oa oc→RdI k E S' (b+1) a (fun _ _=>False)→Below B w w'→gd e 11=u6 nw→gd e 21=iv ((q:Int)+1)→B1 e w'):io K B1 ((aC Y5 Z5 K6 W6 X6 Y6 Z6 u7 B7 K7 W7 X7 Y7 Z7 B8 K8 W8 X8 Y8 Z8 l9 n9 u9 B9 K9 W9 X9 Y9 Z9 ia ja ka qa ua xa ya Aa Ba Ca Da Ea Fa Ga Ha Ia Ja Ka La Ma Na Oa Pa Qa Ra Sa Ta Ua Va Wa Xa zf)) w:=by
 subst e5 e6 M ei er;have hk:=h.lw.k6;refine oS (Inv:=fun i _ _ _ _ _ _ _ wr=>∃(p:Nat) (X':Nat→RpX) (S':Nat→RS) (Z':List Nat),i=iv (p:Nat)∧p≤k∧LI B wr k ra rc E X' S' Z' Wm oa oc∧RdI k E S' a b (fun o _=>o<p)∧Below B w wr) (μ:=fun i _ _ _ _ _ _ _ _=>k-(intOf i).toNat)
  ⟨0,X,S,Z,rfl,Nat.zero_le _,h,hr.imp (fun o j _ _ _ hD=>by omega),Below.refl _ _⟩ ?_
 rintro _ _ _ _ _ _ _ _ dd w1 mu ⟨p,X',S',Z',rfl,hp,C,J,b1⟩ ad;refine aM ?_;by_cases u:p<k
 ·obtain⟨g,am,rfl,hg,I⟩:=C.ar.open (by omega);refine ax (by omega) (Do hg I u fun _=>Cs C.lw u fun w2 X2 T ta tc l2 hT U aa ht p2 f2 ha=>?_);have hR:∀b∈(Value.slice ta T.length tc).ownBlock.toList,w1.heap.size≤b∧b<w2.heap.size:=fun b hb=>World.ownsRow.lt ht b (by simpa using hb);obtain⟨li,O⟩:=C.told (i:=p) (Value.slice ta T.length tc).ownBlock.toList l2 hT p2 f2 ha hR
  refine OA li u O (Ku ht C.lw.B) (fun g hg=>List.mem_append_right _ (List.mem_append_left _ (by simpa using hg))) aa (fun y hy=>(hT y hy).1) J rfl rfl rfl rfl rfl fun e w3 X3 S3 h3 al b3 g3=>?_;rw[g3];refine⟨⟨p+1,X3,S3,_,congrArg iv (by push_cast;rfl),u,h3,al.imp fun o j ho hj af hD=>?_,(b1.trans f2.b).trans b3⟩,by rw[ad];show k-((p:Int)+1).toNat<k-(p:Int).toNat;omega⟩
  by_cases ag:o=p
  ·subst ag;obtain⟨y,hy,e1,e2⟩:=U j hj fun e=>af e.symm;exact .inr ⟨rfl,y,hy,e1,e2.symm⟩
  ·exact .inl (by omega)
 ·refine aq (by omega) (qL (aW (by omega) (by omega) (hB _ w1 X' S' Z' C (J.next C.lw.mw fun o j ho _ _=>by omega) b1 rfl rfl)))
end
def s0R (n:Nat):RS:=⟨pl0 n,[],gp0⟩
theorem Ct (al:KD w)(h1:1≤n)(h6:n≤6)(hi:i<6)(hK:∀w' X,RepW w' i X (s0R n)→(∀k∈AF X,k=0∨w.heap.size≤k)→(∀k∈FF X,w.heap.size≤k)→Below w.heap.size w w'→X.ws=[]→K (.tuple #[pB X.R.p,ci 0]) w'):call Tryz.prog 7 #[iv (n:Nat),iv ((i:Int)+1)] K w:=by
 refine aj (goK func7) (JO (Vw h1 h6 al fun I q p1 q1 b1=>cZ (db (bN (dX (by simp) (aM (bw (by simp) (dX (by omega) (de (bw (by omega) (aq (by omega) ?_)))))))))));have s1:=b1.size;refine Vo fun u g2 b2 s2=>UT fun J h3 b3 s3=>UP fun C e4 b4 s4=>UL fun U dm b5 am=>?_
 refine eT (vs:=[iv ((i:Int)+1),pB q.p,pB I.heap.size,pB (u.heap.size+1),pB J.heap.size,pB (C.heap.size+1)]) (by kernel_rfl) (cv fun w6 z6 b6 s6=>?_);have z6:blk w6 U.heap.size 91 [iv ((i:Int)+1),pB q.p,pB I.heap.size,pB (u.heap.size+1),pB J.heap.size,pB (C.heap.size+1)]:=by simpa[Value.cells]using z6
 rw[show iv ((i:Int)+1)=iv ((i+1:Nat))from congrArg iv (by push_cast;rfl)]at z6;have s5:=b5.size;have lt:=p1.lt;have p2:=p1.below b2;have M:Below u.heap.size u w6:=((b3.trans (b4.mono (by omega))).trans (b5.mono (by omega))).trans (b6.mono (by omega));have af:Below J.heap.size J w6:=(b4.trans (b5.mono (by omega))).trans (b6.mono (by omega))
 have ag:Below C.heap.size C w6:=b5.trans (b6.mono (by omega));have ql:∀k∈q.l,k<I.heap.size:=lt;have O:∀k,I.heap.size≤k→k∉q.l:=fun k h j=>by have:=ql k j;omega
 have lb:lrB lr0=[]:=rfl;have rp:RpM w6 ⟨U.heap.size,q,I.heap.size,u.heap.size+1,u.heap.size,J.heap.size,C.heap.size+1⟩ (i+1) (pl0 n) [] lr0 0 gp0:=⟨z6,p2.below M,g2.below M,h3.below af,e4.below ag,O U.heap.size (by omega),fun k h=>by
  rw[lb,List.mem_singleton]at h;rw[h];exact O _ (Nat.le_refl _),O (u.heap.size+1) (by omega),O u.heap.size (by omega),O J.heap.size (by omega),fun r hr=>by rw[List.eq_of_mem_replicate hr];exact Int.le_refl _,Int.le_refl _⟩
 have hF:∀k∈RpF ⟨U.heap.size,q,I.heap.size,u.heap.size+1,u.heap.size,J.heap.size,C.heap.size+1⟩ lr0,w.heap.size≤k:=fun k h=>by
  rcases gD.1 h with h|rfl|h|rfl|rfl
  ·rcases q1 k (LB.wl k h)with rfl|j
   ·exact absurd h (by
     have nd:=p1.nd;intro j;simp only[LB.wv,List.mem_cons,List.not_mem_nil,or_false]at j;rcases j with j|j|j|j|j|j
     ·exact LN.zp nd j
     ·exact LN.zd nd j
     ·exact LN.zm nd j
     ·exact LN.zr nd j
     ·exact LN.zg nd j
     ·exact LN.za nd j)
   ·exact j
  ·exact s1
  ·rw[lb]at h;cases h
  ·show w.heap.size≤u.heap.size;omega
  ·show w.heap.size≤J.heap.size;omega
 have ad:∀k∈FF ⟨⟨U.heap.size,q,I.heap.size,u.heap.size+1,u.heap.size,J.heap.size,C.heap.size+1⟩,C.heap.size,[],lr0⟩,w.heap.size≤k:=fun k h=>by
  rcases gX.1 h with h|rfl|h
  ·exact hF k h
  ·show w.heap.size≤C.heap.size;omega
  ·cases h
 have aa:=dm.below b6
 refine hK w6 ⟨⟨U.heap.size,q,I.heap.size,u.heap.size+1,u.heap.size,J.heap.size,C.heap.size+1⟩,C.heap.size,[],lr0⟩ ⟨rp,rfl,⟨aa.b,aa.mb,by simp,by simp⟩,O _ (by show I.heap.size≤C.heap.size+1;omega),O _ (by show I.heap.size≤C.heap.size;omega),by show C.heap.size≠u.heap.size;omega,fun k h=>by cases h⟩ (fun k h=>?_) ad (((b1.trans (b2.mono s1)).trans (M.mono (by omega)))) rfl
 rcases gl.1 h with rfl|rfl|rfl|h|h
 ·exact .inr (by show w.heap.size≤U.heap.size;omega)
 ·exact .inr (by show w.heap.size≤u.heap.size+1;omega)
 ·exact .inr (by show w.heap.size≤C.heap.size+1;omega)
 ·exact q1 k h
 ·exact .inr (ad k h)
theorem MW.zero (n:Nat):MW n [] fun _=>s0R n where
 hist:=.nil
 noj:=by intro e u;cases u
 few:=by simp
 lk:=fun _ _=>LK.zero .nil
 own:=by simp
 app:=fun _ _=>.zero .nil
 kn:=fun i j _ _ v h q=>by
  have h:gp0[j]? = some v:=h;rw[List.eq_of_mem_replicate (List.mem_of_getElem? h)]
  have:=congrFun (EP n) q
  unfold kV at this;show _≤(pl0 n).V.getD q 0;rw[this,List.getD_eq_getElem?_getD,List.getElem?_replicate];split<;>exact Int.le_refl _
theorem WW.add {X:Nat→RpX}{S:Nat→RS}{x:RpX}(h:WW w B p X S F)(hb:Below w.heap.size w w')(hr:RepW w' p x (S p))(U:∀k∈AF x,k=0∨w.heap.size≤k)(hf:∀k∈FF x,w.heap.size≤k)(hB:B≤w.heap.size)(h0:0<B)(hz:∀z∈F,0<z):WW w' B (p+1) (upX X p x) S F:=by
 refine⟨fun j hj=>?_,fun a b aa ad J y C=>?_,fun j hj y C I=>?_,fun y C=>Nat.lt_of_lt_of_le (h.zl y C) hb.size,fun j hj y C=>?_⟩
 ·by_cases u:j=p
  ·subst u;rw[kt];exact hr
  ·rw[ke u];exact(h.rp j (by omega)).below hb
 ·by_cases M:a=p
  ·subst M;rw[kt]at C;rw[ke fun e=>J e.symm];intro I;have h1:=h.lo b (by omega) y I;have h2:=(h.rp b (by omega)).lt y (gl.2 (.inr (.inr (.inr (.inr I)))));rcases U y C with rfl|h3<;>omega
  ·rw[ke M]at C;by_cases O:b=p
   ·subst O;rw[kt];exact fun I=>by have:=hf y I;have:=(h.rp a (by omega)).lt y C;omega
   ·rw[ke O];exact h.sep a b (by omega) (by omega) J y C
 ·by_cases u:j=p
  ·subst u;rw[kt]at I
   have:=h.zl y C
   have:=hz y C
   rcases U y I with rfl|h3<;>omega
  ·rw[ke u]at I;exact h.z j (by omega) y C I
 ·by_cases u:j=p
  ·subst u;rw[kt]at C;have:=hf y C;omega
  ·rw[ke u]at C;exact h.lo j (by omega) y C
theorem GL :(Tryz.prog.info? 26).map (fun i=>(i.zero,i.size,i.bytes))=some (some (.pointer none),1,8):=by kernel_rfl
section
variable {w:World}{K:KV}{B k rc oc q i bx m lc:Nat}{ra oa la:Option Addr}{E:List EV}{X:Nat→RpX}{S:Nat→RS}{Z:List Nat}{Wm:List MGT}{nw:Int}{B1:KE}{x:SM}{L:List SM}
theorem LC (h:LI B w k ra rc E X S Z Wm oa oc)(u:X6=.slice ra k rc)(I:∀w' (K':KV),Below w.heap.size w w'→(∀j,Below w'.heap.size w' j→K' cT j)→call Tryz.prog 6 #[] K' w')(C:∀w',Below w.heap.size w w'→K cT w'):dn K ((aC Y5 Z5 K6 W6 X6 Y6 Z6 u7 B7 K7 W7 X7 Y7 Z7 B8 K8 W8 X8 Y8 Z8 l9 n9 u9 B9 K9 W9 X9 Y9 Z9 ia ja ka qa ua xa ya Aa Ba Ca Da Ea Fa Ga Ha Ia Ja Ka La Ma Na Oa Pa Qa Ra Sa Ta Ua Va Wa Xa zf)) w:=by
 subst u;exact mN (Cp h.lw h.ar fun J b1=>kS (I J _ b1 fun M b2=>bX (C M (b1.trans (b2.mono b1.size)))))
theorem OC (h:LI B w k ra rc E X S Z Wm oa oc)(O:∀i,i<k→(S i).l=(S 0).l)(e5:W6=iv (k:Nat))(e6:X6=.slice ra k rc)(ei:Y8=iv (1:Nat))(hW:∀w' (K':KV),Below w.heap.size w w'→(∀U,Below w'.heap.size w' U→K' cT U)→call Tryz.prog 6 #[] K' w')(u:∀w',Below w.heap.size w w'→K cT w'):iJ K ((aC Y5 Z5 K6 W6 X6 Y6 Z6 u7 B7 K7 W7 X7 Y7 Z7 B8 K8 W8 X8 Y8 Z8 l9 n9 u9 B9 K9 W9 X9 Y9 Z9 ia ja ka qa ua xa ya Aa Ba Ca Da Ea Fa Ga Ha Ia Ja Ka La Ma Na Oa Pa Qa Ra Sa Ta Ua Va Wa Xa zf)) w:=by
 subst e5 e6 ei;have hk:=h.lw.k6;refine pM (Inv:=fun j wr=>∃p:Nat,j=iv (p:Nat)∧1≤p∧p≤k∧Below w.heap.size w wr) (μ:=fun j _=>k-(intOf j).toNat) ⟨1,rfl,Nat.le_refl _,hk.1,Below.refl _ _⟩ ?_;rintro _ dd w1 mu ⟨p,rfl,am,hp,b1⟩ ad;have h1:=h.below b1;refine aM ?_;by_cases C:p<k
 ·obtain⟨g,aa,rfl,hg,J⟩:=h1.ar.open (by omega);have p0:=h.lw.pi (i:=0) (by omega);have pp:=h.lw.pi C;refine ax (by omega) (aw (fun v=>blk v g 26 aa) hg.drew ?_);refine ab (v:=.pointer (some ⟨g,0+p*1,none⟩)) (fun v d _ u=>dJ underlying25 (s:=1) (fun _=>by kernel_rfl) (by omega) (by omega) (by rw[Int.toNat_natCast];exact u)) (ab (v:=pB (X p).R.p) (fun v d _ u=>lK d (J p C) u) ?_)
  refine ab (v:=.pointer (some ⟨g,0+0*1,none⟩)) (fun v d _ u=>dJ underlying25 (s:=1) (fun _=>by kernel_rfl) (by omega) (by omega) u) (ab (v:=pB (X 0).R.p) (fun v d _ u=>lK d (J 0 (by omega)) u) ?_);have bd:Below w1.heap.size w1 w1.drew:=(Below.refl _ w1).drew;have hd:=h1.below bd
  have cutV:∀{j:Nat} {t:STA} {ga:Option Addr} {gc B0:Nat} {wx:World},j<k→SO wx B0 (S j).l t ga gc→((saC t).drop 12).take 6=vCs (S j).l.V:=fun hj M=>by
   have pj:=h.lw.pi hj
   have:=(JW (t:=_) (by rw[M.eI];exact pj.i6) (by rw[M.eL];exact pj.l6) (by rw[M.eV];exact pj.v6)).2.2
   rwa[M.eV]at this
  refine Si (hd.lw.ww.rp p C).rp pp (h.lw.G C) fun w2 t ga gc M b2=>?_;have I:=bd.trans b2;have g2:=ac I hg hg.lt;refine bR g2 (ab (v:=.agg (vCs (S p).l.V).toArray) (fun v _ _ u=>Kt (off:=12) (n:=6) (by kernel_rfl) (cutV C M) u) ?_);have h2:=h1.below I;refine Si (h2.lw.ww.rp 0 (by omega)).rp p0 (h.lw.G (by omega)) fun w3 t' ag al af b3=>?_
  refine bR (ac b3 g2 g2.lt) (ab (v:=.agg (vCs (S 0).l.V).toArray) (fun v _ _ u=>Kt (off:=12) (n:=6) (by kernel_rfl) (cutV (by omega) af) u) ?_);refine ab (v:=.bool false) (fun v _ _ u=>wu 3 (by omega) (by kernel_rfl) (by kernel_rfl) (Gj pp.v6) (Gj p0.v6) fun r hr=>by rw[hr.2 (by rw[O p C])];exact u) ?_
  refine aO (aW (by omega) (by omega) ⟨⟨p+1,congrArg iv (by push_cast;rfl),by omega,C,(b1.trans (I.mono b1.size)).trans (b3.mono (b1.trans (I.mono b1.size)).size)⟩,?_⟩);rw[ad];show k-((p:Int)+1).toNat<k-(p:Int).toNat;omega
 ·refine aq (by omega) (LC h1 rfl (fun w2 K' b2=>hW w2 K' (b1.trans (b2.mono b1.size))) fun w2 b2=>u w2 (b1.trans (b2.mono b1.size)))
theorem OE (h:LI B w k ra rc E X S Z Wm oa oc)(hm:m≤80)(hE:E.length≤m)(el:Z5=.slice la m lc)(e5:W6=iv (k:Nat))(e6:X6=.slice ra k rc)(M:u7=u6 nw)(hW:∀w' (K':KV),Below B w w'→(∀I,Below w'.heap.size w' I→K' cT I)→call Tryz.prog 6 #[] K' w')(hK:∀w',Below B w w'→K cT w'):bl K ((aC Y5 Z5 K6 W6 X6 Y6 Z6 u7 B7 K7 W7 X7 Y7 Z7 B8 K8 W8 X8 Y8 Z8 l9 n9 u9 B9 K9 W9 X9 Y9 Z9 ia ja ka qa ua xa ya Aa Ba Ca Da Ea Fa Ga Ha Ia Ja Ka La Ma Na Oa Pa Qa Ra Sa Ta Ua Va Wa Xa zf)) w:=by
 subst el e5 e6 M;refine qh (oM (Inv:=fun now r _ _ _ _ _ _ _ wr=>∃(p:Nat) (nw:Int) (X':Nat→RpX) (S':Nat→RS) (Z':List Nat),now=u6 nw∧r=iv (p:Nat)∧p≤2*m+8∧LI B wr k ra rc E X' S' Z' Wm oa oc∧RdI k E S' ((p+1) / 2) (p / 2) (fun _ _=>False)∧Below B w wr) (μ:=fun _ r _ _ _ _ _ _ _ _=>2*m+8-(intOf r).toNat)
  ⟨0,nw,X,S,Z,rfl,rfl,Nat.zero_le _,h,.zero,Below.refl _ _⟩ ?_)
 rintro _ _ _ _ _ _ _ _ _ dd w1 mu ⟨p,ag,X',S',Z',rfl,rfl,hp,j,u,b1⟩ ad;refine bj underlying22 (SU ?_);rw[eK (by omega) (by omega)];refine aW (by omega) (by omega) (aM ?_);by_cases aa:p<2*m+8
 ·refine ax (by omega) (jS (Om j u rfl rfl rfl rfl rfl (by omega) fun e J X2 S2 Z2 h2 af b2 O U=>?_));rw[O,U];refine⟨⟨p+1,_,X2,S2,Z2,rfl,congrArg iv (by push_cast;rfl),aa,h2,?_,b1.trans b2⟩,by rw[ad];show 2*m+8-((p:Int)+1).toNat<2*m+8-(p:Int).toNat;omega⟩;rw[show (p+1+1) / 2=p / 2+1 by omega];exact af
 ·have C:∀i,i<k→(S' i).l=(S' 0).l:=fun i hi=>by
   have hk:=h.lw.k6;have ha:E.length≤(p+1) / 2:=by omega
   exact(j.lw.mw.lk i hi).eqV (j.lw.mw.lk 0 (by omega)) j.lw.mw.hist (u.all ha hi) (u.all ha (by omega))
  exact aq (by omega) (qA (OC j C rfl rfl rfl (fun J K' b2=>hW J K' (b1.trans (b2.mono j.lw.B))) fun J b2=>hK J (b1.trans (b2.mono j.lw.B))))
theorem Ob (h:LI w0.heap.size w k ra rc [] X S Z [] none 0)(af:Below w0.heap.size w0 w)(hS:SMR w0 la m lc L)(hm:m≤80)(el:Z5=.slice la m lc)(e5:W6=iv (k:Nat))(e6:X6=.slice ra k rc)(I:Z6=.slice none 0 0)(J:u7=u6 0)(M:B7=iv (0:Nat))(hW:∀w' (K':KV),Below w0.heap.size w0 w'→(∀u,Below w'.heap.size w' u→K' cT u)→call Tryz.prog 6 #[] K' w')(hK:∀w',Below w0.heap.size w0 w'→K cT w'):hC K ((aC Y5 Z5 K6 W6 X6 Y6 Z6 u7 B7 K7 W7 X7 Y7 Z7 B8 K8 W8 X8 Y8 Z8 l9 n9 u9 B9 K9 W9 X9 Y9 Z9 ia ja ka qa ua xa ya Aa Ba Ca Da Ea Fa Ga Ha Ia Ja Ka La Ma Na Oa Pa Qa Ra Sa Ta Ua Va Wa Xa zf)) w:=by
 subst el e5 e6 I J M
 refine oH (Inv:=fun ap now i _ _ _ _ _ _ _ _ _ _ _ _ _ _ _ _ _ _ _ _ _ _ _ _ _ _ _ _ wr=>∃(p:Nat) (nw:Int) (E:List EV) (X':Nat→RpX) (S':Nat→RS) (Z':List Nat) (Wm:List MGT) (oa:Option Addr) (oc:Nat),ap=.slice oa Wm.length oc∧now=u6 nw∧i=iv (p:Nat)∧p≤m∧E.length≤p∧Wm.length≤38*p∧LI w0.heap.size wr k ra rc E X' S' Z' Wm oa oc∧Below w0.heap.size w0 wr) (μ:=fun _ _ i _ _ _ _ _ _ _ _ _ _ _ _ _ _ _ _ _ _ _ _ _ _ _ _ _ _ _ _ _=>m-(intOf i).toNat)
  ⟨0,0,[],X,S,Z,[],none,0,rfl,rfl,rfl,Nat.zero_le _,Nat.le_refl _,Nat.le_refl _,h,af⟩ ?_
 rintro _ _ _ _ _ _ _ _ _ _ _ _ _ _ _ _ _ _ _ _ _ _ _ _ _ _ _ _ _ _ _ dd w1 mu ⟨p,nw,E,X',S',Z',Wm,oa,oc,rfl,rfl,rfl,hp,hE,ar,h1,b1⟩ ag;refine bj underlying22 (aM ?_);by_cases j:p<m
 ·have ad:=hS.bel b1 (Nat.le_refl _);have hx:L[p]? = some (L[p]'(by rw[hS.len];exact j)):=List.getElem?_eq_getElem _;refine ax (by omega) (NQ h1 ad hx hm (by omega) (by omega) rfl rfl rfl rfl rfl rfl fun al e C E2 X2 S2 Z2 W2 am an h2 e2 l2 b2 O U aa=>?_);rw[O,U,aa]
  exact⟨⟨p+1,al,E2,X2,S2,Z2,W2,am,an,rfl,rfl,congrArg iv (by push_cast;rfl),j,by omega,by omega,h2,b1.trans b2⟩,by rw[ag];show m-((p:Int)+1).toNat<m-(p:Int).toNat;omega⟩
 ·exact aq (by omega) (OE h1 hm (by omega) rfl rfl rfl rfl (fun C K' b2=>hW C K' (b1.trans b2)) fun C b2=>hK C (b1.trans b2))
theorem yn (a0:0≤r∧r≤255)(ag:KD w0)(hS:SMR w0 la m lc L)(bb:m≤9223372036854775807)(hW:∀w' (K':KV),Below w0.heap.size w0 w'→(∀ap,Below w'.heap.size w' ap→K' cT ap)→call Tryz.prog 6 #[] K' w')(hK:∀w',Below w0.heap.size w0 w'→K cT w'):call Tryz.prog 3 #[kv8 r,.slice la m lc] K w0:=by
 refine aj (goK func3) (rN (MQ hS fun b hb=>dB ?_));cases b with
 | false=>exact bu (hW w0 K (Below.refl _ _) hK)
 | true =>
 have hm:=hb rfl;refine aO (dS underlying5 underlying3 ?_);rw[eK (by omega) (by omega)];refine xX a0.1 (by omega) (aW (by omega) (by omega) ?_);obtain⟨k,hk,ad,af⟩:∃k:Nat,1+r%6=(k:Nat)∧1≤k∧k≤6:=⟨(1+r%6).toNat,by omega,by omega,by omega⟩
 rw[hk];have aa:=ag.lt;obtain⟨ii,az,a9,a4,ar⟩:=info_parts GL;refine og (Inv:=fun a i _ _ wr=>∃(p:Nat) (X:Nat→RpX) (ra:Option Addr) (rc:Nat) (Z:List Nat),a=.slice ra p rc∧i=iv ((p:Int)+1)∧p≤k∧WW wr w0.heap.size p X (fun _=>s0R k) Z∧AR5 wr w0.heap.size p ra rc X∧(∀g,(Value.slice ra p rc).ownBlock=some g→g∈Z)∧(∀z∈Z,0<z)∧Below w0.heap.size w0 wr) (μ:=fun _ i _ _ _=>k+1-(intOf i).toNat)
  ⟨0,fun _=>⟨⟨0,⟨0,0,0,0,0,0,0⟩,0,0,0,0,0⟩,0,[],[]⟩,none,0,[],rfl,rfl,Nat.zero_le _,⟨fun j hj=>by omega,fun a b hj=>by omega,fun j hj=>by omega,by simp,fun j hj=>by omega⟩,World.ownsRow_nil _ _ _ _,fun g C=>(by cases C),by simp,Below.refl _ _⟩ ?_
 rintro _ _ _ _ dd w1 mu ⟨p,X,ra,rc,Z,rfl,rfl,hp,hw,M,O,am,b1⟩ aS;have s1:=b1.size;refine fU ?_;by_cases aE:p<k
 ·refine ax (by omega) (Ct (n:=k) (i:=p) (ag.keep (b1.block 0 aa)) ad af (by omega) fun w2 x r2 a2 f2 b2 _=>?_);refine cZ (db (bN (dX (by simp) (wy (bw (by simp) (aO ?_))))));refine mY [pB x.R.p] underlying25 (s:=1) (by kernel_rfl) (by kernel_rfl) (by omega) rfl (by simp) (by decide) rfl (by
   intro v hv;rw[List.mem_singleton.1 hv];rfl) fun w3 e3 b3 s3=>?_
  have e3:blk w3 w2.heap.size 26 [pB x.R.p]:=by simpa[Value.cells]using e3
  have s2:=b2.size;have a7:WW w2 w0.heap.size (p+1) (upX X p x) (fun _=>s0R k) Z:=hw.add b2 r2 a2 f2 s1 aa am;have al:=a7.below b3;have J:=b2.trans (b3.mono s2);have h:=cJ M (w':=w3) fun g C=>J.block g (World.ownsRow.lt M g C).2
  have eL:∀(p:Nat) (X:Nat→RpX),(List.range p).flatMap (fun j=>[pB (X j).R.p])=((List.range p).map fun j=>(X j).R.p).flatMap fun b=>[pB b]:=fun p X=>by rw[List.flatMap_map]
  unfold AR5 at h;rw[eL]at h;refine tf (enc:=fun b=>[pB b]) (x:=x.R.p) underlying25 az a9 a4 ar rfl (by omega) (fun _=>rfl) h e3 (by intro u hu;rw[List.mem_singleton.1 hu];rfl) (by omega) (by omega) (by omega) fun a' c' w4 r4 U b4 k4=>?_;obtain⟨g',ba,rfl,an⟩:=cq r4 (by omega);have hc:Ch Z w3 w4:=⟨U.os,U.tape,U.output,U.size,fun y I hn=>U.block y I fun e=>hn (O y e.symm)⟩
  have bd:=J.size;have av:g'∈Z∨w3.heap.size≤g':=by
   rcases k4 with e|e
   ·exact .inl (O g' (by rw[←e];rfl))
   ·simp only[Value.ownBlock,Option.some.injEq]at e;exact .inr (by omega)
  have a8:WW w4 w0.heap.size (p+1) (upX X p x) (fun _=>s0R k) (g'::Z):=al.own hc fun y I=>by
   rcases List.mem_cons.1 I with rfl|I
   ·exact⟨av,an.blk.lt⟩
   ·exact⟨.inl I,by have:=al.zl y I;have:=U.size;omega⟩
  refine aW (by omega) (by omega) ⟨⟨p+1,upX X p x,some ⟨g',0,none⟩,c',g'::Z,rfl,congrArg iv (by push_cast;rfl),aE,a8,?_,fun g C=>?_,fun z hz=>?_,(b1.trans (J.mono s1)).trans b4⟩,by rw[aS];show k+1-((p:Int)+1+1).toNat<k+1-((p:Int)+1).toNat;omega⟩
  ·unfold AR5;rw[eL]
   have:((List.range (p+1)).map fun j=>(upX X p x j).R.p)=((List.range p).map fun j=>(X j).R.p)++[x.R.p]:=by
    rw[List.range_succ,List.map_append]
    congr 1
    ·refine List.map_congr_left fun j hj=>?_;rw[ke (by have:=List.mem_range.1 hj;omega)]
    ·rw[List.map_singleton,kt]
   rw[this];exact r4
  ·simp only[Value.ownBlock,Option.some.injEq]at C;simp[C]
  ·rcases List.mem_cons.1 hz with rfl|hz
   ·have:=an.lo;omega
   ·exact am z hz
 ·have a3:p=k:=by omega
  subst a3;have li:LI w0.heap.size w1 p ra rc [] X (fun _=>s0R p) Z [] none 0:=⟨⟨.zero p,hw,⟨ad,af⟩,by simp,s1⟩,M,O,World.ownsRow_nil _ _ _ _,fun g C=>(by cases C),fun y I=>(by cases I)⟩
  exact aq (by omega) (qb (Ob li b1 hS hm rfl rfl rfl rfl rfl rfl hW hK))
end
def wX :AK:=⟨1,0,0,10,0,0⟩
def wE :EV:=⟨1,1,0,0,0,0,0,0,1,0,0,10,0,0⟩
theorem Ds :mkP 0 (pl0 2) wX=wE:=by decide
theorem Le :np wE (pl0 2)=0:=by decide
def wS :PL:=eff wE (pl0 2)
theorem SN :PI wS:=(rh 2).eff ((vc (rh 2)).1 Le)
theorem OQ :tl [wE] (List.replicate 6 0)=[wE]:=by decide
theorem Qx (hkd : KD w) (h : ∀ w', Below w.heap.size w w' → K cT w') : call Tryz.prog 6 #[] K w := by
  refine aj (goK Tryz.func6) (ER ?_)
  refine Ct (n := 2) (i := 0) hkd (by omega) (by omega) (by omega) fun w1 X1 r1 a1 f1 b1 z1 => ?_
  refine cZ (db (bN (dX (by simp) (wy (bw (by simp) (aO ?_))))))
  refine eT (vs := akC wX) (by kernel_rfl) (DS (now := 0) r1 (rh 2) (by omega) (by decide) (by decide) fun w2 X2 s2 v st2 r2 mv hz => ?_)
  have hz2 := hz rfl (by show np (mkP 0 (pl0 2) wX) (pl0 2) = 0; rw [Ds]; exact Le)
  rw [z1] at hz2
  rcases mv with ⟨_, h0⟩ | ⟨_, rfl, rfl⟩
  · exact absurd (by show np (mkP 0 (pl0 2) wX) (pl0 2) = 0; rw [Ds]; exact Le) (h0 rfl)
  have eM : mkP 0 (s0R 2).l wX = wE := Ds
  have eA : (s0R 2).A = [] := rfl
  have eP : (s0R 2).P = gp0 := rfl
  rw [eM, eA, eP, List.nil_append] at r2
  rw [eM]
  have r2 : RepW w2 0 X2 ⟨wS, [wE], gp0⟩ := r2
  have b02 : Below w.heap.size w w2 := b1.trans (st2.ch.below f1 b1.size)
  refine cZ (db (nG fun w3 z3 b3 s3 => lj (e' := wE) z3 fun w4 z4 o4 => ?_))
  have b24 : Below w2.heap.size w2 w4 := bv b3 o4 (Nat.le_refl _)
  have r4 := r2.below b24
  have eR := st2.R
  rw [← eR]
  refine CO (k := 2) (now := 1) r4 SN (by omega) (by omega) (by decide) rfl rfl (by decide) (by simp) (by decide) fun w5 X5 T oa oc st5 r5 hT hT2 hl ho _ => ?_
  have z4l := z4.lt
  have hf2 : ∀ k ∈ FF X2, w.heap.size ≤ k ∧ k < w2.heap.size := fun k hk => ⟨(st2.new k hk).elim (fun h => f1 k h) (fun h => by have := b1.size; omega), r2.lt k (gl.2 (.inr (.inr (.inr (.inr hk)))))⟩
  have z5 : blk w5 w2.heap.size 54 (evC wE) := z4.ch st5.ch fun hh => by have := (hf2 _ hh).2; omega
  have b05 : Below w.heap.size w w5 := (b02.trans (b24.mono b02.size)).trans (st5.ch.below (fun k hk => (hf2 k hk).1) (Nat.le_trans b02.size b24.size))
  have l1 := hl.2 hz2
  obtain ⟨x, rfl⟩ : ∃ x, T = [x] := by
    match T, l1 with
    | [x], _ => exact ⟨x, rfl⟩
  obtain ⟨x', hx', hk1, ht1⟩ := hT2 1 (by omega) (by omega)
  rw [List.mem_singleton.1 hx'] at hk1 ht1
  obtain ⟨ok, tk⟩ := hT x (List.mem_singleton.2 rfl)
  have hL : x.1.L = [wE] := by
    rcases ok.is with ⟨_, _, _, v, hv, hL⟩ | ⟨h2, _⟩
    · rw [ht1] at hv
      have : v = List.replicate 6 0 := by
        have hv : gp0[1]? = some v := hv
        rw [show gp0[1]? = some (List.replicate 6 (0 : Int)) by decide] at hv
        exact (Option.some.inj hv).symm
      rw [hL, this]; exact OQ
    · omega
  obtain ⟨mb, mc, hma, mop⟩ := cq ho (by simp)
  obtain ⟨⟨mk, mf, mt, mV, mn, ma, mL⟩, fa, fc⟩ := x
  simp only at hk1 ht1 hL tk
  subst hk1 ht1 hL
  obtain ⟨eb, eo, rfl⟩ := tk.vr.some_ (by simp)
  subst hma
  have mt : mc.take 12 = tmC (⟨1, mf, 1, mV, mn, ma, [wE]⟩, some ⟨eb, eo, none⟩, fc) := by
    have := mop.take
    simpa using this
  have lm : ∀ k v, k < 12 → (tmC (⟨1, mf, 1, mV, mn, ma, [wE]⟩, some ⟨eb, eo, none⟩, fc))[k]? = some v → mc[k]? = some v := fun k v hk hv => by
    rw [← mt, List.getElem?_take_of_lt hk] at hv; exact hv
  have mx : ∀ {x : World} {K : KV}, K (.pointer (some ⟨mb, 0 + 0 * 12, none⟩)) x → aV Tryz.prog 30 (.slice (some ⟨mb, 0, none⟩) 1 oc) (ci 0) K x := fun hK => dJ Tryz.underlying30 (s := 12) (fun _ => by kernel_rfl) (by decide) (by decide) hK
  have mblk := mop.blk.drew
  refine Dm ?_
  refine aH (v := .bool true) (fun K hK => cA (by simpa using hK)) (kS ?_)
  refine aH (fun K hK => iZ hK) (aH (v := u6 1) (fun K hK => ld1 (fun _ => by kernel_rfl) z5.drew rfl hK) (aH (v := .bool true) (fun K hK => cA (by simpa using hK)) ?_))
  refine aH (v := .bool true) (fun K hK => bX hK) (kS ?_)
  refine aH (fun K hK => bj Tryz.underlying30 hK) (aH (v := .bool true) (fun K hK => cA (by simpa using hK)) ?_)
  refine aH (v := .bool true) (fun K hK => bX hK) (kS ?_)
  refine aH (fun K hK => mx hK) (aH (fun K hK => jp hK) (aH (v := iv 2) (fun K hK => ld1 (fun _ => by kernel_rfl) mblk (lm 2 _ (by omega) rfl) hK) (aH (v := .bool true) (fun K hK => cA (by simpa using hK)) ?_)))
  refine aH (v := .bool true) (fun K hK => bX hK) (kS ?_)
  refine aH (fun K hK => mx hK) (aH (fun K hK => GX hK) (aH (v := .int .u8 1) (fun K hK => ld1 (fun _ => by kernel_rfl) mblk (lm 0 _ (by omega) rfl) hK) (aH (v := .bool true) (fun K hK => cA (by simpa using hK)) ?_)))
  refine aH (v := .bool true) (fun K hK => bX hK) (kS ?_)
  refine aH (fun K hK => mx hK) (aH (fun K hK => zP hK) (aH (v := .slice (some ⟨eb, eo, none⟩) 1 fc) (fun K hK => ld1 (fun _ => by kernel_rfl) mblk (lm 9 _ (by omega) rfl) hK) (aH (fun K hK => bj Tryz.underlying36 hK) (aH (v := .bool true) (fun K hK => cA (by simpa using hK)) ?_))))
  refine aH (v := .bool true) (fun K hK => bX hK) (kS ?_)
  refine aH (fun K hK => mx hK) (aH (fun K hK => zP hK) (aH (v := .slice (some ⟨eb, eo, none⟩) 1 fc) (fun K hK => ld1 (fun _ => by kernel_rfl) mblk (lm 9 _ (by omega) rfl) hK) ?_))
  refine aH (v := .pointer (some ⟨eb, eo + 0 * 14, none⟩)) (fun K hK => dJ Tryz.underlying36 (s := 14) (fun _ => by kernel_rfl) (by decide) (by decide) hK) ?_
  refine aH (v := evV wE) (fun K hK => Fc (tk.vr.bel (Below.refl _ w5).drew (Nat.le_refl _)) rfl rfl hK) (aH (v := evV wE) (fun K hK => gB z5.drew hK) ?_)
  refine aH (v := .bool true) (fun K hK => Cf 6 (by omega) (by kernel_rfl) (by kernel_rfl) (by kernel_rfl) (by kernel_rfl) fun r hr => by rw [hr.2 rfl]; exact hK) ?_
  exact aH (v := .bool true) (fun K hK => bX hK) (h _ b05.drew)
theorem LF {w0 : World} {la : Option Addr} {m lc : Nat} {L : List SM} {n0 : Int} (hn0 : 0 ≤ n0 ∧ n0 ≤ 255) (hkd : KD w0) (hS : SMR w0 la m lc L) (hmc : m ≤ 9223372036854775807) (hK : ∀ w', Below w0.heap.size w0 w' → K cT w') :
    call Tryz.prog 3 #[kv8 n0, .slice la m lc] K w0 :=
  yn hn0 hkd hS hmc (fun w' K' b h => Qx (hkd.keep (b.block 0 hkd.lt)) h) hK
end
section
open Go.RowKit
def rlG (g:Nat):Option (Nat×List Value):=match Nat.beq g 0 with|true=>some (0,LU)|false=>none
theorem yv {W:World}(n:Int)(C:0≤n∧n≤255)(a:Option Addr)(m c:Nat)(L:List SM)(hL:SMR W a m c L)(I:m≤c)(j:c≤9223372036854775807)(u:∀g e cs,rlG g=some (e,cs)→gbk W g cs)(h:∀w',Below W.heap.size W w'→K (.bool true) w'):call Tryz.prog 3 #[.int .u8 n,.slice a m c] K W :=
 LF C (u 0 0 LU rfl) hL (by omega) h
end
end Go.Proofs.YtkbhfjljieopoaaGreatDoor
