import Derived.Test.YtgpfkmdknlcemaaGreatDoorQ14
import Derived.Test.YtgpfkmdknlcemaaGreatDoorQ9
import Derived.Test.YtgpfkmdknlcemaaGreatDoorQ6
import Derived.Test.YtgpfkmdknlcemaaGreatDoorRows
import Derived.WalkKit
import Derived.ProofKit
import Derived.OpenShut
import Derived.ShutString
import Derived.ChangeOld
import Derived.Below
import Derived.JoinedCond
import Derived.Deep.Matrix
import Derived.Deep.Slices
namespace Go.Proofs.YtgpfkmdknlcemaaGreatDoor
set_option maxRecDepth 100000
set_option maxHeartbeats 4000000
open Go.Proofs.Tryz
section
attribute [local irreducible] bin un conv call dC blt slc ai fld aU idx lkp eX jl eSt rng nxt ent ext alc box bld dl ld sto bo eS mkS ifc pick rdy wts aJ sti cond bM Gives ae fU gX cOp
section
open Go.RowKit
theorem Gh {w:World}{K:KV}(h:∀w' zs,blk w' w.heap.size 30 zs→zs.length=20→Below w.heap.size w w'→w'.heap.size=w.heap.size+1→K (.pointer (some ⟨w.heap.size,0,none⟩)) w'):alc Tryz.prog 30 K w :=
 dH (z:=.agg (saC ⟨List.replicate 6 false,List.replicate 6 false,List.replicate 6 0,[],none,0,.slice none 0 0⟩).toArray) (by kernel_rfl) fun j d b1 s1=>h j _ d (by simp[Value.cells,saC]) b1 s1
section
variable {w:World}{K:KV}{q:LB}{s s0:PL}
theorem Gi {B I p:Nat}{C:Option Addr}{t:STA}{J:List Value}(hi:PI s)(h:SO w B s t C I)(d:blk w p 30 J)(R:J.length=20)(hK:∀w',blk w' p 30 (saC t)→SO w' B s t C I→Oth p w w'→K undef w'):sto Tryz.prog 30 (.pointer (some ⟨p,0,none⟩)) (.agg (saC t).toArray) K w:=by
 have u:=h.sk hi;refine iz (n:=20) (vs:=saC t) (by kernel_rfl) u.len d (by omega) (DY u.gv) fun U M j=>?_;rw[List.take_zero,List.nil_append,List.drop_of_length_le (by omega),List.append_nil]at M;exact hK U M {h with nd:=dJ h.nd d (by decide) j,gr:=dJ h.gr d (by decide) j} j
theorem UO {n0 bI bK n3 w_7 l10 e11 i12 cA bj bB q16 i17 cq j19 cE i22 dR dF q25 cj b9 a3 be ap Z bk ar a7 al b6 bd X a8 a0 a4 ag bb bi b4 an ad bv az bW b0 a6 am bt aS U a9 a2:Value}{zf:Nat→Value}{B n c bs gc:Nat}{a ga:Option Addr}{t:STA}{rot:List Int}(h:PM w q s)(d:PI s0)(hn:(aY s0).length=n)(b5:n≤6)(u:rot.Nodup)(hr:∀i,i∈rot↔i∈aY s0)(hR:RunI s0 s (iG s0 rot))(av:s0.N.length≤30)(hG:s.G.length≤1000000)(ht:SO w B s0 t ga gc)(hb:blk w bs 30 (saC t))(hl:ON w B a n c (aY s0))(ca:l10=pB q.p)(ch:cA=pB bs)(cg:bj=.slice a n c)(b7:bB=iv ((iG s0 rot).length:Nat))(hW:∀w',Below w.heap.size w w'→call Tryz.prog 6 #[] K w'):cU K ((aD n0 bI bK n3 w_7 l10 e11 i12 cA bj bB q16 i17 cq j19 cE i22 dR dF q25 cj b9 a3 be ap Z bk ar a7 al b6 bd X a8 a0 a4 ag bb bi b4 an ad bv az bW b0 a6 am bt aS U a9 a2 zf)) w:=by
 subst ca ch cg b7;have hi:=hR.pi;have j:=MT d u hr;have I:=Iz d u hr av (by omega);rw[hn]at j;generalize ck:(iG s0 rot).length=mv at j I;have sk:=ht.sk d;refine zb <|bx underlying56 <|cB ?_;by_cases h0:(0:Int)<(n:Nat)
 ·refine dE h0 ?_;have hN:t.nodes.length=s0.N.length:=by rw[ht.eN]
  have ce:(saC t)[18]? = some (.slice t.na s0.N.length t.nc):=by have:=Hg sk;rw[hN]at this;exact this
  refine dV (lK (v:=.slice t.na s0.N.length t.nc) hb (by rw[Nat.zero_add];exact ce) ?_);refine bx underlying27 <|bx underlying56 <|bg (by omega) (by omega) ?_;have hm:((s0.N.length:Nat):Int)*((n:Nat)-1:Int)=((s0.N.length*(n-1):Nat):Int):=by push_cast;rw[Int.natCast_sub (by omega)];rfl
  have cm:s0.N.length*(n-1)≤30*5:=Nat.mul_le_mul av (by omega);refine Mf ?_;rw[dP (by rw[hm];omega) (by rw[hm];omega),hm];refine cB ?_;have h1 : ¬((s0.N.length*(n-1):Nat):Int)<(mv:Nat):=by omega
  refine bR h0 <|dZ h1 <|bx underlying56 <|bm ?_;have V : ¬((n:Nat):Int)=0:=by omega
  refine eF V <|dZ h1 <|bE V <|bE h1 <|bw ?_;refine Bf h hi hG fun C t2 cc b8 J b1=>?_;refine Gh fun w2 zs z2 zl b2 s2=>?_;refine Gi hi (J.below b2) z2 zl fun w3 z3 M o3=>?_;have R:Below C.heap.size C w3:=bA b2 o3 (Nat.le_refl _);have b:=b1.trans (R.mono b1.size);have hE:EMV w3 q s0 s t t2 B n c bs C.heap.size a:=⟨h.below b,⟨_,_,_,ht.below b⟩,⟨_,_,_,M⟩,af b hb hb.lt,z3,hl.bel b⟩
  exact RG hE d hi hn b5 u hr hR hi.len30 rfl rfl rfl rfl rfl fun w3 R=>hW w3 (b.trans (R.mono b.size))
 ·refine eF h0 <|bE h0 <|nR <|bx underlying56 <|bm ?_;have V:((n:Nat):Int)=0:=by omega
  refine dE V <|cB ?_;have cl:mv=0:=by
   have:n-1=0:=by omega
   rw[this]at j;omega
  have h3 : ¬(0:Int)<(mv:Nat):=by omega
  refine nR <|bR V <|fm <|au h3 ?_;refine Bf h hi hG fun C t2 cc b8 J b1=>?_;refine Gh fun w2 zs z2 zl b2 s2=>?_;refine Gi hi (J.below b2) z2 zl fun w3 z3 M o3=>?_;have R:Below C.heap.size C w3:=bA b2 o3 (Nat.le_refl _);have b:=b1.trans (R.mono b1.size);have hE:EMV w3 q s0 s t t2 B n c bs C.heap.size a:=⟨h.below b,⟨_,_,_,ht.below b⟩,⟨_,_,_,M⟩,af b hb hb.lt,z3,hl.bel b⟩
  exact RG hE d hi hn b5 u hr hR hi.len30 rfl rfl rfl rfl rfl fun w3 R=>hW w3 (b.trans (R.mono b.size))
theorem UP {n0 bI bK n3 w_7 l10 e11 i12 cA bj bB q16 i17 cq j19 cE i22 dR dF q25 b8 ca ag a8 U J a9 a3 a6 a0 bk ap C am Z a4 M a7 ar bi a2 aS bd V be av al R bb X az an ad:Value}{zf:Nat→Value}{f:Nat}(h:PM w q s0)(d:PI s0)(hT:∀rot:List Int,rot.Nodup→(∀i,i∈rot↔i∈aY s0)→FX s0 (iG s0 rot))(hf:f≤255)(hG:s0.G.length≤1000000)(q2:bK=.int .u8 (f:Nat))(b0:l10=pB q.p)(hW:∀w',Ch q.w w w'→call Tryz.prog 6 #[] K w'):fz K ((aD n0 bI bK n3 w_7 l10 e11 i12 cA bj bB q16 i17 cq j19 cE i22 dR dF q25 b8 ca ag a8 U J a9 a3 a6 a0 bk ap C am Z a4 M a7 ar bi a2 aS bd V be av al R bb X az an ad zf)) w:=by
 subst q2 b0;have b5:=h.lt;refine yX ?_;refine Bf h d hG fun w1 t ga gc cj b1=>?_;refine Gh fun w2 zs z2 zl b2 s2=>?_;refine Gi d (cj.below b2) z2 zl fun w3 z3 u o3=>?_;have b3:Below w1.heap.size w1 w3:=bA b2 o3 (Nat.le_refl _);have ce:=b1.trans (b3.mono b1.size);have bv:=u.sk d
 refine ldA (n:=20) (vs:=saC t) underlying30 rfl (by kernel_rfl) z3 (by rw[List.drop_zero,List.take_of_length_le (by rw[bv.len];omega)]) bv.len ?_;refine Pu bv fun w4 a c hl b4=>?_;have el:eA t.I t.L 6=aY s0:=by rw[u.eI,u.eL]
 rw[el]at hl ⊢;have b9:=ce.trans (b4.mono ce.size);have p4:=h.below b9;have j:=u.below b4;have z4:=af b4 z3 z3.lt;have sz:w.heap.size≤w1.heap.size:=b1.size;have z1:w1.heap.size<w3.heap.size:=z3.lt
 have cc:SO w4 w.heap.size s0 t ga gc:={j with nd:=⟨j.nd.1,j.nd.2.imp id fun⟨g,cap,bW,x1,x2,x3⟩=>⟨g,cap,bW,x1,by omega,x3⟩⟩,gr:=⟨j.gr.1,j.gr.2.imp id fun⟨g,cap,bW,x1,x2,x3⟩=>⟨g,cap,bW,x1,by omega,x3⟩⟩}
 have b7:ON w4 w.heap.size a (aY s0).length c (aY s0):=hl.mono (by omega);have h6:(aY s0).length≤6:=tU _ _ 6;have bt:∀x∈q.w,x<w.heap.size:=fun x hx=>b5 x (LB.wl x hx);refine V1 p4 d b5 (bs:=w1.heap.size) sz (hT _ (Cl xt) fun i=>Ga) d.len30 hf rfl h6 cc z4 b7 rfl rfl rfl rfl rfl rfl ?_
 intro n0 bI bK n3 w_7 l10 e11 i12 cA bj bB q16 i17 cq j19 cE i22 dR dF q25 b8 ca ag a8 U J a9 a3 a6 a0 bk ap C am Z a4 M a7 ar bi a2 aS bd V be av al R bb X az an ad zf w5 s5 b0 cg cm ck p5 R5 G5 c5;have cl:Ch q.w w w5:=(Ch.of_below b9:Ch [] w w4).mono (by simp) |>.trans c5 fun x hx=>.inl hx
 refine UO p5 d rfl h6 (Cl xt) (fun i=>Ga) R5 d.len30 (by rw[G5];exact hG) (cc.ch c5 bt) (z4.ch c5 fun hh=>by have:=bt _ hh;omega) (CJ b7 c5 bt) b0 cg cm ck fun w6 b6=>hW w6 (cl.trans (Ch.of_below b6:Ch [] w5 w6) (by simp))
theorem TN :∀{E:List EV} {s:PL},(iB eff s E).G.length≤s.G.length+E.length
 | [],s=>Nat.le_refl _
 | e::E,s=>by
  have h:=TN (E:=E) (s:=eff e s);have d:(eff e s).G.length≤s.G.length+1:=by
   show ((gop e).ap s.G).length≤_;cases gop e with
   | ins x=>show (ib x s.G).length≤_;rw[EQ];exact Nat.le_refl _
   | upd o q b=>show (s.G.map _).length≤_;rw[List.length_map];omega
   | non=>show s.G.length≤_;omega
  show (iB eff (eff e s) E).G.length≤_;rw[List.length_cons];omega
theorem UQ {n0 bI bK n3 w_7 l10 e11 i12 cA bj bB q16 i17 cq j19 cE i22 dR dF q25 cc b8 a2 bi an X bt ap a6 ag b5 bd V a7 aS a3 ad bb bk b4 am Z bW ar b0 b3 a4 al bv az U a8 a0:Value}{zf:Nat→Value}{f n g Bw lc R:Nat}{la M:Option Addr}{E:List EV}{nl:Nat}(h:PM w q (pl0 n))(hh:HistL n E)(hE:E.length≤60)(b6:∀e∈E,e.a≤65536)(hf:f≤255)(hg:blk w g 47 [.slice la nl lc,.slice M E.length R])(av:w.ownsRow Bw 54 14 (.slice M E.length R) E.length (E.flatMap evC))(b9:g∉q.w)(be:∀k,(Value.slice M E.length R).ownBlock=some k→k∉q.w)(q2:bK=.int .u8 (f:Nat))(q7:w_7=pB g)(ca:l10=pB q.p)(b7:i12=iv 0)(hW:∀w',Ch q.w w w'→call Tryz.prog 6 #[] K w'):kU K ((aD n0 bI bK n3 w_7 l10 e11 i12 cA bj bB q16 i17 cq j19 cE i22 dR dF q25 cc b8 a2 bi an X bt ap a6 ag b5 bd V a7 aS a3 ad bb bk b4 am Z bW ar b0 b3 a4 al bv az U a8 a0 zf)) w:=by
 subst q7 ca b7;have d:=zZ n;obtain⟨u,ce⟩:=hh.all;refine yW (Inv:=fun I wr=>∃k:Nat,I=iv (k:Nat)∧k≤E.length∧PM wr q (iB eff (pl0 n) (E.take k))∧Ch q.w w wr) (μ:=fun I _=>E.length-(intOf I).toNat) ⟨0,rfl,by omega,h,Ch.refl _ _⟩ ?_;rintro _ dd w1 m ⟨k,rfl,hk,p1,c1⟩ hm;have g1:=hg.ch c1 b9
 have r1:w1.ownsRow Bw 54 14 (.slice M E.length R) E.length (E.flatMap evC):=di av fun j hj=>c1.block j (World.ownsRow.lt av j hj).2 (be j hj);refine aw (xX (lK (v:=.slice M E.length R) g1 rfl ?_));refine bx underlying45 <|aV ?_;by_cases J:k<E.length
 ·refine ay (by omega) ?_;have C:E[k]? = some E[k]:=List.getElem?_eq_getElem J;generalize E[k]=e at C;obtain⟨hi,ho,hr⟩:=RQ d u C;refine aw (xX (lK (v:=.slice M E.length R) g1 rfl ?_));refine JD (enc:=evC) (s:=14) underlying45 (fun _=>by kernel_rfl) underlying54 rfl (by kernel_rfl) xN r1 rfl C fun _=>?_;have h0:=(tV hi).2 ho;refine EW p1 hi fun w2 p2 c2=>?_;rw[h0]
  refine cW <|au (by simp) <|aR (by omega) (by omega) ?_;unfold ln at p2;rw[if_pos h0, ←hr]at p2;exact⟨⟨k+1,ivS,by omega,p2,c1.trans c2 fun x C=>.inl C⟩,by rw[hm];show E.length-((k:Int)+1).toNat<E.length-(k:Int).toNat;omega⟩
 ·refine au (by omega) ?_;have J:k=E.length:=by omega
  rw[J,List.take_length]at p1;have a9:=NI d u;have hG:(iB eff (pl0 n) E).G.length≤1000000:=by
   have:=TN (E:=E) (s:=pl0 n)
   have e0:(pl0 n).G.length=0:=rfl;omega
  exact UP p1 a9 (fun rot h1 h2=>Rt d u hE b6 a9.len30 (tU _ _ 6) h1 h2) hf hG q2 rfl fun w' c' => hW w' (c1.trans c' fun x C=>.inl C)
theorem LB.w0 (h:q.l.Nodup):∀k∈q.w,k≠0:=by
 intro k d e;subst e;simp only[LB.w,List.mem_cons,List.not_mem_nil,or_false]at d;rcases d with e|e|e|e|e|e<;>simp[LB.l, ←e]at h
theorem Hx {w0:World}(al:KD w0){n0:Int}{f:Nat}{a:Option Addr}{m c:Nat}{X:List AC}(hn:0≤n0∧n0≤255)(hf:f≤255)(hX:AR w0 a m c X)(hW:∀w',Below w0.heap.size w0 w'→call Tryz.prog 6 #[] K w'):call Tryz.prog 4 #[kv8 n0,.slice a m c,.int .u8 (f:Nat)] K w0:=by
 refine aB (goK func4) (Ax ?_);refine aB (goK func5) (Gf ?_);refine bx underlying22 <|ir <|rT ?_;by_cases hm:m≤60
 case neg=>exact ay (by omega) (hW w0 (Below.refl _ _))
 refine au (by omega) ?_;refine Sd (pk:=0) hn (by omega) hX hm fun w1 Bw g L E C s1 hw hL hE M b1=>?_;refine eB (eC ?_);refine Gh fun w2 zs z2 zl b2 s2=>?_;refine iz (n:=20) (vs:=saC s1) (by kernel_rfl) M.len z2 (by omega) (DY M.gv) fun w3 z3 o3=>?_;have U:Below w1.heap.size w1 w3:=bA b2 o3 (Nat.le_refl _);have d:=hw.fresh U;have h:=b1.trans (U.mono b1.size)
 obtain⟨la,lc,ea,ec,V,an,j⟩:=d.row;refine aw (lV (lK (v:=.slice la L.length lc) V rfl ?_));refine bx underlying44 ?_;have hp:=d.pos;refine Ok (by omega) hp.2 (al.below h) fun w4 q p4 ag Z=>?_;refine eB (eC ?_);refine yV ?_;refine cW (dZ (by simp) (xO (bE (by simp) (bw ?_))));have R:=h.trans (Z.mono h.size)
 have u:∀k∈q.w,w3.heap.size≤k:=fun k I=>(ag k (LB.wl k I)).resolve_left (LB.w0 p4.nd k I);have ad:=af Z V V.lt;have J:=di j fun k I=>Z.block k (World.ownsRow.lt j k I).2;refine UQ p4 d.wp.hist hE d.am hf ad J (fun hh=>by have:=u _ hh;have:=V.lt;omega) (fun k I hh=>by have:=u _ hh;have:=(World.ownsRow.lt j k I).2;omega) rfl rfl rfl rfl fun w' c' => hW w' ?_
 have sz:=h.size;exact R.trans (c'.below (fun x hx=>Nat.le_trans sz (u x hx)) R.size)
end
end
section
open Go.RowKit
def e31 :EV:=⟨1,1,0,0,0,0,0,0,1,0,0,9,0,0⟩
def s31 :PL:=eff e31 (pl0 3)
theorem Na :nM e31 (pl0 3)=0:=by kernel_rfl
theorem UR :qI s31.I s31.L s31.N 1099511627777=[(1,2,3),(1,3,3)]:=by kernel_rfl
theorem US :ux s31.I s31.L s31.N 1099511627777 1=3:=by kernel_rfl
theorem UT :ux s31.I s31.L s31.N 1099511627777 4=0:=by kernel_rfl
theorem UU :(mT s31.I s31.L s31.N 1).length=2:=by kernel_rfl
theorem UV :(mT s31.I s31.L s31.N 2).length=0:=by kernel_rfl
theorem zP :PI s31:=(zZ 3).eff ((tV (zZ 3)).1 Na)
theorem UW :s31.G.length=0:=by kernel_rfl
section
variable {w:World}{K:KV}
theorem NP (ag:KD w)(h:∀w',Below w.heap.size w w'→K (.bool true) w'):call Tryz.prog 6 #[] K w:=by
 refine aB (goK func6) (DT ?_);refine Ok (n:=3) (by omega) (by omega) ag fun w1 q p1 X b1=>?_;refine eB (eC ?_);refine cW (dZ (by simp) (xO (bE (by simp) (bw ?_))));refine fS (vs:=evC e31) (by kernel_rfl) ?_;refine EW p1 (zZ 3) fun w2 p2 c2=>?_;have al:ln e31 (pl0 3)=s31:=by unfold ln;rw[if_pos Na];rfl
 rw[al]at p2;rw[Na];have am:∀k∈q.w,w.heap.size≤k:=fun k J=>(X k (LB.wl k J)).resolve_left (LB.w0 p1.nd k J);have b2:Below w.heap.size w w2:=b1.trans (c2.below am b1.size);refine Bf p2 zP (by rw[UW];omega) fun w3 t ga gc ad b3=>?_;refine Gh fun w4 zs z4 zl b4 s4=>?_;refine Gi zP (ad.below b4) z4 zl fun w5 z5 d o5=>?_
 have b5:Below w.heap.size w w5:=(b2.trans (b3.mono b2.size)).trans ((bA b4 o5 (Nat.le_refl _)).mono (by have:=b2.size;have:=b3.size;omega));have j:∀{x:World} {K:KV},Below w5.heap.size w5 x→K (.agg (saC t).toArray) x→ld Tryz.prog 30 (pB w3.heap.size) K x:=fun {x K} hb hK=>by
  have so:=d.below hb;have sk:=so.sk zP;exact ldA (n:=20) (vs:=saC t) underlying30 rfl (by kernel_rfl) (af hb z5 z5.lt) (by rw[List.drop_zero,List.take_of_length_le (by rw[sk.len];omega)]) sk.len hK
 refine j (Below.refl _ _) ?_;refine IN (d.sk zP) fun w6 a6 c6 hM u _=>?_;rw[LS d,UR]at hM ⊢;refine Cv ?_;have C:(0:Int)=0:=rfl;refine bm (dE C (j u (Ep ((d.below u).sk zP) fun w7 b7=>?_)));have B7:=u.trans (b7.mono u.size);rw[zR d,US];have t2:(3:Int)=3:=rfl;refine bm (bR C (dE t2 (j B7 (Ep ((d.below B7).sk zP) fun w8 b8=>?_))));have B8:=B7.trans (b8.mono B7.size)
 rw[zR d,UT];refine bm (bR t2 (dE C ?_));refine bx underlying65 (bm (bR C ?_));have I:((2:Nat):Int)=2:=rfl;refine dE I ?_;have M8:w8.ownsRow w5.heap.size 69 3 (.slice a6 2 c6) 2 (([(1,2,3),(1,3,3)]:List (Int×Int×Int)).flatMap mvC):=di hM fun k J=>(b7.trans (b8.mono b7.size)).block k (World.ownsRow.lt hM k J).2;obtain⟨g,an,rfl,M⟩:=cY M8 (by omega)
 refine eu underlying65 (s:=3) (fun _=>by kernel_rfl) (by decide) (by decide) ?_;have e0:=M.elem Es (L:=[(1,2,3),(1,3,3)]) (i:=0) rfl rfl;have e1:=M.elem Es (L:=[(1,2,3),(1,3,3)]) (i:=1) rfl rfl;refine ldA (n:=3) (vs:=mvC (1,2,3)) underlying69 rfl (by kernel_rfl) M.blk e0 rfl <|fS (vs:=mvC (1,2,3)) (by kernel_rfl) ?_
 refine xW 2 (by omega) (by kernel_rfl) (by kernel_rfl) (by kernel_rfl) (by kernel_rfl) fun r R=>?_;rw[R.2 rfl];refine bR I <|nH <|eu underlying65 (s:=3) (fun _=>by kernel_rfl) (by decide) (by decide) <|ldA (n:=3) (vs:=mvC (1,3,3)) underlying69 rfl (by kernel_rfl) M.blk e1 rfl <|fS (vs:=mvC (1,3,3)) (by kernel_rfl) ?_
 refine xW 2 (by omega) (by kernel_rfl) (by kernel_rfl) (by kernel_rfl) (by kernel_rfl) fun r R=>?_;rw[R.2 rfl];refine db (nH (j B8 (Lv ((d.below B8).sk zP) fun w9 a9 c9 _ b9=>?_)));have B9:=B8.trans (b9.mono B8.size);rw[ES d.eI d.eL d.eN,UU];refine bx underlying58 (bm (db (dE I (j B9 (Lv ((d.below B9).sk zP) fun V ap ar _ Z=>?_)))));have U:=B9.trans (Z.mono B9.size)
 rw[ES d.eI d.eL d.eN,UV];refine bx underlying58 (bm (bR I ?_));have t4:decide (((0:Nat):Int)=0)=true:=rfl;rw[t4];exact h V (b5.trans (U.mono b5.size))
end
end
end
section
open Go.ChangeShapes Go.WideShapes Go.ChangeAt Go.RowKit Go.Deep
section
variable {H:Type}{enc:TypeId×Value→H}{W:World}{base:Nat}{held:Bool}
theorem JI {x:Int}(h:(Lit.int .u8 x).wf=true):0≤x∧x≤255:=by simpa[Lit.wf,IntKind.min,IntKind.max,IntKind.signed,IntKind.bits]using h
theorem PG {fuel:Nat}{cs:List Value}{x:DataW H×List MemPlace}(h:DataW.trod enc Tryz.prog W base (fun _=>true) held fuel 74 cs=some x):∃y:AC,cs=acC y∧ER y:=by
 obtain⟨xs,n,rfl,rfl,j,C,d⟩:=DataW.trod_struct underlying74 h;have h9:cs.length=9:=by rw[j];kernel_rfl
 match cs,h9 with
 | [c0,c1,c2,c3,c4,c5,c6,c7,c8],_ =>
  have u:xs.length=9:=C
  match xs,u with
  | [x0,x1,x2,x3,x4,x5,x6,x7,x8],_ =>
   have h0:DataW.trod enc Tryz.prog W base (fun _=>true) held n 5 [c0]=some x0:=Eq.mp (by kernel_rfl) (d 0 _ rfl);have h1:DataW.trod enc Tryz.prog W base (fun _=>true) held n 4 [c1]=some x1:=Eq.mp (by kernel_rfl) (d 1 _ rfl);have X:DataW.trod enc Tryz.prog W base (fun _=>true) held n 5 [c2]=some x2:=Eq.mp (by kernel_rfl) (d 2 _ rfl)
   have U:DataW.trod enc Tryz.prog W base (fun _=>true) held n 5 [c3]=some x3:=Eq.mp (by kernel_rfl) (d 3 _ rfl);have h4:DataW.trod enc Tryz.prog W base (fun _=>true) held n 5 [c4]=some x4:=Eq.mp (by kernel_rfl) (d 4 _ rfl);have h5:DataW.trod enc Tryz.prog W base (fun _=>true) held n 5 [c5]=some x5:=Eq.mp (by kernel_rfl) (d 5 _ rfl)
   have h6:DataW.trod enc Tryz.prog W base (fun _=>true) held n 72 [c6]=some x6:=Eq.mp (by kernel_rfl) (d 6 _ rfl);have h7:DataW.trod enc Tryz.prog W base (fun _=>true) held n 5 [c7]=some x7:=Eq.mp (by kernel_rfl) (d 7 _ rfl);have V:DataW.trod enc Tryz.prog W base (fun _=>true) held n 5 [c8]=some x8:=Eq.mp (by kernel_rfl) (d 8 _ rfl);obtain⟨z0,J,_,w0⟩:=DataW.trod_int underlying5 h0
   obtain⟨Z,e1,_⟩:=DataW.trod_bool underlying4 h1;obtain⟨z2,e2,_,w2⟩:=DataW.trod_int underlying5 X;obtain⟨z3,e3,_,w3⟩:=DataW.trod_int underlying5 U;obtain⟨z4,M,_,w4⟩:=DataW.trod_int underlying5 h4;obtain⟨z5,I,_,w5⟩:=DataW.trod_int underlying5 h5;obtain⟨z6,e6,_,w6⟩:=DataW.trod_int underlying72 h6;obtain⟨z7,e7,_,w7⟩:=DataW.trod_int underlying5 h7
   obtain⟨z8,R,_,w8⟩:=DataW.trod_int underlying5 V;simp only[List.cons.injEq,and_true]at J e1 e2 e3 M I e6 e7 R;subst J e1 e2 e3 M I e6 e7 R;exact⟨⟨z0,Z,z2,z3,z4,z5,z6,z7,z8⟩,rfl,JI w0,JI w2,JI w4,by simpa[Lit.wf,IntKind.min,IntKind.max,IntKind.signed,IntKind.bits]using w6⟩
theorem Nb {fuel:Nat}{cs:List Value}{a:Option Addr}{n c:Nat}{x:DataW H×List MemPlace}(hc:cs=[.slice a n c])(hf:DataW.trod enc Tryz.prog W base (fun _=>true) held fuel 22 cs=some x):(∃L,AR W a n c L)∧n≤c∧c≤9223372036854775807:=by
 obtain⟨d,p⟩:=x;rcases open_slice underlying22 hf with⟨C,_⟩|⟨J,ar,cap,m,k,D,Pl,C,av,hl,hm,V,X,M⟩
 ·rw[hc]at C;simp only[List.cons.injEq,Value.slice.injEq,and_true]at C;obtain⟨rfl,rfl,rfl⟩:=C;exact⟨⟨[],rfl,fun h=>by omega,fun i s h=>by simp at h,fun x X=>by cases X⟩,by omega,by omega⟩
 ·rw[hc]at C;simp only[List.cons.injEq,Value.slice.injEq,and_true]at C;obtain⟨rfl,rfl,rfl⟩:=C;simp only[if_true]at V;subst V;refine⟨?_,hl,by simpa[maxLen]using hm⟩;have h9:Tryz.prog.cellsOf 74=9:=by kernel_rfl
  have R:∀i,i<n→∃q:AC,ER q∧∀j u,(acC q)[j]? = some u→W.cell? ((J.add (i*9)).add j)=some u:=by
   intro i hi;obtain⟨ap,U,am⟩:=M i (by omega);rw[h9]at U;obtain⟨_,an,I⟩:=World.cells?_some U;obtain⟨s,rfl,h1⟩:=PG am;refine⟨s,h1,fun j u Z=>?_⟩;have hj:=(List.getElem?_eq_some_iff.1 Z).1;have hj:j<9:=hj;rw[I j hj];exact Z
  haveI:Inhabited AC:=⟨⟨0,false,0,0,0,0,0,0,0⟩⟩
  obtain⟨Q,hQ⟩:=choose_lt R;have ag:0<n→J.spot=none:=by
   intro h0;obtain⟨_,al⟩:=hQ 0 h0
   have:=World.cell?_spot (al 0 _ rfl)
   exact this
  refine⟨(List.range n).map Q,by simp,fun h0=>⟨J.block,J.off,by have:=ag h0;obtain⟨b,o,s⟩:=J;cases this;rfl⟩,fun i s hs b o ha j u Z=>?_,fun x X=>?_⟩
  ·have hi:i<n:=by have:=(List.getElem?_eq_some_iff.1 hs).1;simpa using this
   simp only[List.getElem?_map,List.getElem?_range hi,Option.map_some,Option.some.injEq]at hs;subst hs;obtain⟨q1,q4⟩:=hQ i hi;cases ha
   have:=q4 j u Z
   rw[zX,zX]at this;exact this
  ·obtain⟨i,hi,rfl⟩:=List.mem_map.1 X;exact(hQ i (List.mem_range.1 hi)).1
end
end
section
open Go.RowKit
def emG (g:Nat):Option (Nat×List Value):=match Nat.beq g 0 with|true=>some (0,Lw)|false=>none
theorem Jo {W:World}{K:KV}(n:Int)(I:0≤n∧n≤255)(a:Option Addr)(m c:Nat)(X:List AC)(C:AR W a m c X)(_hc:m≤c)(_hcm:c≤9223372036854775807)(f:Int)(M:0≤f∧f≤255)(u:∀g e cs,emG g=some (e,cs)→gbk W g cs)(h:∀w',Below W.heap.size W w'→K (.bool true) w'):call Tryz.prog 4 #[.int .u8 n,.slice a m c,.int .u8 f] K W:=by
 have j:KD W:=u 0 0 Lw rfl;obtain⟨f',rfl⟩:∃f':Nat,f=f':=⟨f.toNat,by omega⟩
 exact Hx j I (by omega) C fun w' b=>NP (j.below b) fun d J => h d (b.trans (J.mono b.size))
end
end Go.Proofs.YtgpfkmdknlcemaaGreatDoor
