import Derived.Test.YtkbhfjljieopoaaGreatDoorQ9
import Derived.Test.YtkbhfjljieopoaaGreatDoorQ4
import Derived.Test.YtkbhfjljieopoaaGreatDoorQ5
import Derived.Test.YtkbhfjljieopoaaGreatDoorQ6
import Derived.Test.YtkbhfjljieopoaaGreatDoorQ11
import Derived.Test.YtkbhfjljieopoaaGreatDoorQ7
import Derived.Test.YtkbhfjljieopoaaGreatDoorQ2
namespace Go.Proofs.YtkbhfjljieopoaaGreatDoor
set_option maxRecDepth 100000
set_option maxHeartbeats 4000000
open Go.Proofs.Tryz
variable {w w' w0:World}{K:KV}{zf dd:Nat→Value}{b c n k o B i g p m s j z d f D tb cp hi:Nat}{x r v:Int}{A xs:List Int}{a av:Option Addr}{E t e:TypeId}{cs:List Value}{P:Program}{T L:List (Int×Int)}{α:Type}{cx cy:Bool}{Y1 Z1 U2 V2:Value}
section
attribute [local irreducible] bin un conv call bY blt slc af fld aV idx lkp dO gY eSt rng nxt ent ext alc box bld bT ld sto aU dE mkS ifc pick rdy wts aI sti cond bp Gives ae fh fT cOp
open Go.RowKit
theorem cutV {V:List Int}(d:V.length=6):((V.map u6).drop 0).take 6=V.map u6:=by rw[List.drop_zero,List.take_of_length_le (by simp[d])]
theorem Ot {V:List Int}(d:k<V.length):(V.map u6)[k]? = some (u6 (V.getD k 0)):=by simp[List.getD,d]
theorem V9 {V:List Int}{e:EV}(hV:V.length=6)(h:∀w',Below w.heap.size w w'→K (.bool (nH V e)) w'):call Tryz.prog 84 #[.agg (V.map u6).toArray,.agg (evC e).toArray] K w:=by
 refine aj (goK func84) (Gp ?_);refine cv fun w1 I b1 s1=>?_;have I:blk w1 w.heap.size 35 (V.map u6):=by simpa[Value.cells]using I
 refine cv fun w2 J b2 s2=>?_;have J:blk w2 w1.heap.size 54 (evC e):=by simpa[Value.cells]using J
 have I:=ac b2 I I.lt;have Z:Below w.heap.size w w2:=b1.trans (b2.mono (by omega));rw[s1]at J ⊢;refine aw (fun x=>blk x (w.heap.size+1) 54 (evC e)) J.drew <|ab (fun x j _=>ldA (n:=14) (vs:=evC e) underlying54 rfl (by kernel_rfl) j rfl rfl) ?_;refine OA fun w3 M=>?_;have O:=ac M J.drew J.drew.lt;have X:=ac M I.drew I.drew.lt
 have l3:Below w.heap.size w w3:=Z.drew.trans (M.mono Z.drew.size);have h:=h w3 l3;unfold nH at h;refine aw (fun x=>blk x (w.heap.size+1) 54 (evC e)∧blk x w.heap.size 35 (V.map u6)) ⟨O,X⟩ ?_;cases U:dK e with
 | false =>
  rw[U,Bool.false_and]at h;have u:asB (.bool false)≠some true:=by simp[asB]
  refine oN u (oN u (oN u (oN u (oN u (oN u (oN u (oN u ?_)))))));refine ab (fun x j _=>ex) ?_;exact h
 | true =>
  rw[U,Bool.true_and]at h;have hi:=gC U;obtain⟨k,hk⟩:∃k:Nat,k=(e.o-1).toNat:=⟨_,rfl⟩
  rw[←hk]at h
  refine gE rfl (fun x j _=>iZ) <|gE (x:=u6 e.s) rfl (fun x j _=>lK j.1 rfl) <|gE rfl (fun x j _=>bD) <|gE (x:=iv e.o) rfl (fun x j _=>lK j.1 rfl) <|gE (x:=.int .i64 ((k:Nat):Int)) rfl (fun x j K d=>kO (by rw[eK (by omega) (by omega),show (e.o-1)=(k:Nat)by omega];exact d)) <|gE rfl (fun x j _=>ixV rfl (by omega)) <|gE (x:=u6 (V.getD k 0)) rfl (fun x j _=>lK j.2 (by rw[Nat.zero_add];exact Ot (by omega))) <|gE rfl (fun x j _=>fU) <|ab (fun x j _=>bX) ?_
  exact h
theorem TW {V:List Int}{e:EV}(hV:V.length=6)(hr:∀k,k<6→0≤V.getD k 0∧V.getD k 0<9223372036854775808)(h:∀w',Below w.heap.size w w'→K (.bool (ey V e)) w'):call Tryz.prog 85 #[.agg (V.map u6).toArray,.agg (evC e).toArray] K w:=by
 refine aj (goK func85) (Fg ?_);refine cv fun w1 U b1 s1=>?_;have U:blk w1 w.heap.size 35 (V.map u6):=by simpa[Value.cells]using U
 refine cv fun w2 Z b2 s2=>?_;have Z:blk w2 w1.heap.size 54 (evC e):=by simpa[Value.cells]using Z
 have U:=ac b2 U U.lt;have l2:Below w.heap.size w w2:=b1.trans (b2.mono (by omega));rw[s1]at Z ⊢;refine aw (fun x=>blk x (w.heap.size+1) 54 (evC e)) Z.drew <|ab (fun x u _=>ldA (n:=14) (vs:=evC e) underlying54 rfl (by kernel_rfl) u rfl rfl) ?_;refine OA fun w3 b3=>?_;have ad:=ac b3 Z.drew Z.drew.lt;have al:=ac b3 U.drew U.drew.lt
 have l3:Below w.heap.size w w3:=l2.drew.trans (b3.mono l2.drew.size);refine aw (fun x=>blk x (w.heap.size+1) 54 (evC e)∧blk x w.heap.size 35 (V.map u6)) ⟨ad,al⟩ <|ab (fun x u _=>dB) ?_;cases hm:dK e with
 | false =>
  have h:=h w3 l3;unfold ey at h;rw[hm,Bool.false_and]at h;have J:asB (.bool (!false))≠some false:=by simp[asB]
  refine oN J (oN J (oN J (oN J (oN J (oN J (oN J (oN J (oN J ?_))))))));refine ab (fun x u _=>bX) ?_;exact bu h
 | true =>
  have hi:=gC hm;obtain⟨k,hk⟩:∃k:Nat,k=(e.o-1).toNat:=⟨_,rfl⟩
  have ap:=hr k (by omega)
  refine gE rfl (fun x u _=>iZ) <|gE (x:=u6 e.s) rfl (fun x u _=>lK u.1 rfl) <|gE rfl (fun x u _=>bD) <|gE (x:=iv e.o) rfl (fun x u _=>lK u.1 rfl) <|gE (x:=.int .i64 ((k:Nat):Int)) rfl (fun x u K d=>kO (by rw[eK (by omega) (by omega),show (e.o-1)=(k:Nat)by omega];exact d)) <|gE rfl (fun x u _=>ixV rfl (by omega)) <|gE (x:=u6 (V.getD k 0)) rfl (fun x u _=>lK u.2 (by rw[Nat.zero_add];exact Ot (by omega))) <|gE (x:=u6 (V.getD k 0+1)) rfl (fun x u K d=>jS (by rw[gF,show (V.getD k 0+1)%18446744073709551616=V.getD k 0+1 by omega];exact d)) <|gE rfl (fun x u _=>bN) <|ab (fun x u _=>ex) ?_
  by_cases X:e.s≠V.getD k 0+1
  ·refine ax X ?_;have h:=h w3 l3;unfold ey at h;rw[←hk,show decide (e.s=V.getD k 0+1)=false from decide_eq_false X,Bool.false_and,Bool.and_false]at h;exact h
  refine aq X ?_;have X:e.s=V.getD k 0+1:=by simpa using X
  refine Dq (Inv:=fun i wr=>∃j:Nat,i=.int .i64 (j:Nat)∧j≤6∧(∀q,q<j→e.V.getD q 0≤V.getD q 0)∧blk wr (w.heap.size+1) 54 (evC e)∧blk wr w.heap.size 35 (V.map u6)∧Below w.heap.size w wr) (μ:=fun i _=>6-(intOf i).toNat) ⟨0,rfl,by omega,fun q hq=>by omega,ad,al,l3⟩ ?_;rintro _ dd w4 m ⟨j,rfl,ag,O,I,M,l4⟩ am;refine aM ?_;by_cases hj:j<6
  ·refine ax (by omega) ?_;have I:blk w4.drew (w.heap.size+1) 54 (evC e):=I.drew;have M:blk w4.drew w.heap.size 35 (V.map u6):=M.drew;have l4:Below w.heap.size w w4.drew:=l4.drew;have h:=h _ l4
   refine aa (fun _=>qR) <|aa (fun _=>ixV rfl hj) <|aa (v:=u6 (e.V.getD j 0)) (fun _=>lK I (Iv hj)) <|aa (fun _=>ixV rfl hj) <|aa (v:=u6 (V.getD j 0)) (fun _=>lK M (by rw[Nat.zero_add];exact Ot (by omega))) <|aa (fun _=>de) ?_;by_cases h4:V.getD j 0<e.V.getD j 0
   ·refine ax h4 ?_
    have:(List.range 6).all (fun k=>decide (e.V.getD k 0≤V.getD k 0))=false:=by
     rw[List.all_eq_false];exact⟨j,by simpa using hj,by simpa using h4⟩
    unfold ey at h;rw[this,Bool.and_false,Bool.and_false]at h;exact h
   refine aq h4 <|aW (by omega) (by omega) ?_;refine⟨⟨j+1,by simp,by omega,fun q hq=>?_,I,M,l4⟩,?_⟩
   ·by_cases an:q<j
    ·exact O q an
    ·have:q=j:=by omega
     subst this;omega
   ·rw[am];simp only[intOf];omega
  refine aq (by omega) ?_;have ag:j=6:=by omega
  subst ag;refine Dr ?_;have h:=h _ l4;have e1:(List.range 6).all (fun k=>decide (e.V.getD k 0≤V.getD k 0))=true:=by
   rw[List.all_eq_true];exact fun q hq=>by simpa using O q (by simpa using hq)
  unfold ey at h;rw[hm,e1, ←hk,show decide (e.s=V.getD k 0+1)=true from decide_eq_true X]at h;exact h
def ndE (x:ND):List Value:=u6 x.id::u6 x.par::(List.range 54).map fun j=>iv (x.A.getD j 0)
theorem fC (x:ND):(ndE x).length=56:=by simp[ndE]
theorem zD (x:ND):∀v∈ndE x,v.oneCell'=true:=by simp[ndE,u6,iv,Value.oneCell']
theorem Cy {x:ND}(h:x.A.length=54):(List.range 54).map (fun j=>iv (x.A.getD j 0))=x.A.map iv:=by
 apply List.ext_getElem
 ·simp[h]
 ·intro i u d;simp at u d;simp[List.getD,d]
theorem Cx {x:ND}(h:x.A.length=54):ndE x=ndC x:=by unfold ndE ndC;rw[Cy h];rfl
structure LG where
 s:STA
 G:List GR
 T:List (Int×Int)
 R:List (List Int)
 t:Nat
 q:List Value
 ga:Option Addr
 gc:Nat
def lgC (l:LG):List Value:=saC l.s++(.pointer (some ⟨l.t,0,none⟩)::l.q)
structure LM (w:World) (B p:Nat) (l:LG):Prop where
 i6:l.s.I.length=6
 l6:l.s.L.length=6
 v6:l.s.V.length=6
 q6:l.q.length=6
 r6:l.R.length=6
 A54:∀x∈l.s.nodes,x.A.length=54
 cl:blk w p 123 (lgC l)
 lo:B≤p
 gv:l.s.gv=.slice l.ga l.G.length l.gc
 nd:w.ownsRow B 52 56 (.slice l.s.na l.s.nodes.length l.s.nc) l.s.nodes.length (l.s.nodes.flatMap ndE)
 gr:w.ownsRow B 126 5 (.slice l.ga l.G.length l.gc) l.G.length (l.G.flatMap grC)
 tm:TM w B l.t l.T
 rq:∀k,k<6→∃a c,l.q[k]? = some (.slice a (l.R.getD k []).length c)∧w.ownsRow B 31 1 (.slice a (l.R.getD k []).length c) (l.R.getD k []).length ((l.R.getD k []).flatMap uC)
 ne:∀(j k:Nat) (v v':Value) (b:Nat),j≠k→l.q[j]? = some v→l.q[k]? = some v'→v.ownBlock=some b→v'.ownBlock≠some b
section
variable {w w':World}{B p:Nat}{l:LG}
theorem LM.sl (h:LM w B p l):(saC l.s).length=20:=by simp[saC,h.i6,h.l6,h.v6]
theorem LM.ll (h:LM w B p l):(lgC l).length=27:=by simp[lgC,h.sl,h.q6]
theorem LM.fresh (h:LM w B p l)(j:Below w.heap.size w w'):LM w' B p l :=
 {h with
  cl:=ac j h.cl h.cl.lt
  nd:=cJ h.nd fun k d=>j.block k (World.ownsRow.lt h.nd k d).2
  gr:=cJ h.gr fun k d=>j.block k (World.ownsRow.lt h.gr k d).2
  tm:=h.tm.fresh j
  rq:=fun k d=>by
   obtain⟨a,c,I,u⟩:=h.rq k d;exact⟨a,c,I,cJ u fun k d=>j.block k (World.ownsRow.lt u k d).2⟩}
theorem IM (h:LM w B p l)(d:k<20):(lgC l)[k]? = (saC l.s)[k]? := by
 unfold lgC;rw[List.getElem?_append_left (by rw[h.sl];exact d)]
theorem Vz {s:STA}(h:s.I.length=6)(d:k<6):(saC s)[k]? = some (.bool (s.I.getD k false)):=by
 unfold saC;rw[List.append_assoc,List.append_assoc,List.getElem?_append_left (by simp;omega),List.getElem?_map,List.getElem?_eq_getElem (by omega)];simp[List.getD,show k<s.I.length by omega]
theorem VA {s:STA}(h:s.I.length=6)(d:s.L.length=6)(j:k<6):(saC s)[6+k]? = some (.bool (s.L.getD k false)):=by
 unfold saC;rw[List.append_assoc,List.append_assoc,List.getElem?_append_right (by simp;omega),List.getElem?_append_left (by simp;omega),List.getElem?_map];rw[show 6+k-(s.I.map Value.bool).length=k by simp;omega,List.getElem?_eq_getElem (by omega)];simp[List.getD,show k<s.L.length by omega]
theorem VB {s:STA}(h:s.I.length=6)(d:s.L.length=6)(j:s.V.length=6)(u:k<6):(saC s)[12+k]? = some (u6 (s.V.getD k 0)):=by
 unfold saC;rw[List.append_assoc,List.getElem?_append_right (by simp;omega),List.getElem?_append_left (by simp;omega),List.getElem?_map];rw[show 12+k-(s.I.map Value.bool++s.L.map Value.bool).length=k by simp;omega,List.getElem?_eq_getElem (by omega)];simp[List.getD,show k<s.V.length by omega,u6]
theorem LM.cI (h:LM w B p l)(d:k<6):(lgC l)[k]? = some (.bool (l.s.I.getD k false)):=by rw[IM h (by omega),Vz h.i6 d]
theorem LM.cL (h:LM w B p l)(d:k<6):(lgC l)[6+k]? = some (.bool (l.s.L.getD k false)):=by rw[IM h (by omega),VA h.i6 h.l6 d]
theorem LM.cV (h:LM w B p l)(d:k<6):(lgC l)[12+k]? = some (u6 (l.s.V.getD k 0)):=by rw[IM h (by omega),VB h.i6 h.l6 h.v6 d]
theorem LM.cN (h:LM w B p l):(lgC l)[18]? = some (.slice l.s.na l.s.nodes.length l.s.nc):=by
 rw[IM h (by omega)];unfold saC;rw[List.getElem?_append_right (by simp[h.i6,h.l6,h.v6])];simp[h.i6,h.l6,h.v6]
theorem LM.cG (h:LM w B p l):(lgC l)[19]? = some (.slice l.ga l.G.length l.gc):=by
 rw[IM h (by omega), ←h.gv];unfold saC;rw[List.getElem?_append_right (by simp[h.i6,h.l6,h.v6])];simp[h.i6,h.l6,h.v6]
theorem LM.cT (h:LM w B p l):(lgC l)[20]? = some (.pointer (some ⟨l.t,0,none⟩)):=by
 unfold lgC;rw[List.getElem?_append_right (by rw[h.sl];omega),h.sl];rfl
theorem LM.cQ (h:LM w B p l):(lgC l)[21+k]? = l.q[k]? := by
 unfold lgC;rw[List.getElem?_append_right (by rw[h.sl];omega),h.sl,show 21+k-20=k+1 by omega,List.getElem?_cons_succ]
theorem LM.cutS (h:LM w B p l):((lgC l).drop 0).take 20=saC l.s:=by
 unfold lgC;rw[List.drop_zero,List.take_append_of_le_length (Nat.le_of_eq h.sl.symm),List.take_of_length_le (Nat.le_of_eq h.sl)]
theorem LM.cutV (h:LM w B p l):((lgC l).drop 12).take 6=l.s.V.map u6:=by
 unfold lgC saC;rw[show (12:Nat)=(l.s.I.map Value.bool++l.s.L.map Value.bool).length by simp[h.i6,h.l6],List.append_assoc,List.append_assoc,List.drop_left',List.take_append_of_le_length (by simp[h.v6]),List.take_of_length_le (by simp[h.v6])]
 ·rfl
 ·rfl
theorem LM.nr (h:LM w B p l):NR w l.s.na l.s.nodes.length l.s.nc l.s.nodes:=by
 refine⟨rfl,?_,?_,h.A54,?_⟩
 ·rcases h.nd.2 with⟨h1,h2⟩|⟨g,cap,d,hv,_,_,hn,_⟩
  ·omega
  ·simp only[Value.slice.injEq]at hv;omega
 ·intro X;obtain⟨g,d,I,_⟩:=cq h.nd X;exact⟨g,0,I⟩
 ·intro i x O b o I j u M;have hi:i<l.s.nodes.length:=(List.getElem?_eq_some_iff.1 O).1;obtain⟨g,d,J,U⟩:=cq h.nd (by omega);rw[J]at I;cases I;rw[←Cx (h.A54 x (List.mem_of_getElem? O))]at M;have Z:j<56:=by rw[←fC x];exact(List.getElem?_eq_some_iff.1 M).1
  rw[U.blk.cell,Nat.zero_add,U.cell fC rfl O Z];exact M
theorem LM.sk (h:LM w B p l)(d:l.s.nodes.length≤1000000):SK w l.s :=
 ⟨h.i6,h.l6,h.v6,h.nr,d,by rw[h.gv];rfl⟩
end
theorem bq (h:K (.pointer (some ⟨b,o+0,none⟩)) w):af Tryz.prog 123 (.pointer (some ⟨b,o,none⟩)) 0 K w:=aK (by kernel_rfl) h
theorem wC (h:K (.pointer (some ⟨b,o+20,none⟩)) w):af Tryz.prog 123 (.pointer (some ⟨b,o,none⟩)) 1 K w:=aK (by kernel_rfl) h
theorem qS (h:K (.pointer (some ⟨b,o+21,none⟩)) w):af Tryz.prog 123 (.pointer (some ⟨b,o,none⟩)) 2 K w:=aK (by kernel_rfl) h
section
variable {w:World}{K:KV}{B p:Nat}{l:LG}
theorem FX {id:Int}(J:LM w B p l)(hn:l.s.nodes.length≤1000000)(h:K (.int .i64 (fdN l.s.nodes id)) w):call Tryz.prog 119 #[.pointer (some ⟨p,0,none⟩),.int .u64 id] K w:=by
 refine aj (goK func119) (Ac ?_);refine yn (Inv:=fun i wr=>∃k:Nat,i=.int .i64 (k:Nat)∧k≤l.s.nodes.length∧wr=w∧∀j y,j<k→l.s.nodes[j]? = some y→y.id≠id) (μ:=fun i _=>l.s.nodes.length-(intOf i).toNat) ⟨0,rfl,by omega,rfl,fun j y Z=>by omega⟩ ?_;rintro _ dd wr m ⟨k,rfl,hk,rfl,d⟩ hm;refine ai <|bq <|eA <|lK (v:=.slice l.s.na l.s.nodes.length l.s.nc) J.cl J.cN <|bj underlying42 <|aM ?_
 by_cases I:k<l.s.nodes.length
 ·refine ax (by omega) <|ai <|bq <|eA <|lK (v:=.slice l.s.na l.s.nodes.length l.s.nc) J.cl J.cN ?_;have O:l.s.nodes[k]? = some l.s.nodes[k]:=List.getElem?_eq_getElem I;generalize l.s.nodes[k]=x at O;refine rd3 (enc:=ndE) (s:=56) (f':=0) (v:=u6 x.id) underlying42 (fun _=>by kernel_rfl) fC (fun _=>by kernel_rfl) (by kernel_rfl) (by omega) J.nd rfl O rfl fun _ _=>?_;refine bg ?_
  by_cases M:x.id=id
  ·refine ax M ?_;have X:=TQ O M d;unfold fdN at h;rw[X,if_pos I]at h;exact h
  ·refine aq M <|aW (by omega) (by omega) ?_;refine⟨⟨k+1,ivS,by omega,rfl,fun j y Z u=>?_⟩,by rw[hm];show l.s.nodes.length-((k:Int)+1).toNat<l.s.nodes.length-(k:Int).toNat;omega⟩;by_cases U:j=k
   ·subst U;rw[O]at u;cases u;exact M
   ·exact d j y (by omega) u
 ·refine aq (by omega) <|yo ?_;have X:=Kz (L:=l.s.nodes) (id:=id) fun j y u=>d j y (by have:=(List.getElem?_eq_some_iff.1 u).1;omega) u;unfold fdN at h;rw[if_neg X]at h;exact h
theorem ixQ {i:Int}(hi:i=(k:Nat))(h:k<6)(d:K (.pointer (some ⟨b,o+k,none⟩)) w):aV Tryz.prog 121 (.pointer (some ⟨b,o,none⟩)) (.int .i64 i) K w:=by
 subst hi;exact eO underlying121 (s:=1) (fun _=>by kernel_rfl) (by omega) (by omega) (by rw[Int.toNat_natCast,Nat.mul_one];exact d)
end
end
section
open Go.RowKit
section
variable {P:Program}{w w':World}{K:KV}{t:TypeId}{g B n c s:Nat}{e:TypeId}{v:Value}{xs:List Value}
theorem Pg {i:TypeInfo}{base:Nat}(M:P.underlying t=some (.slice e))(hi:P.info? e=some i)(j:i.size=s)(d:base≤w.heap.size)(h:∀w',w'.ownsRow base e s (.slice (some ⟨w.heap.size,0,none⟩) 0 0) 0 []→Below w.heap.size w w'→K (.slice (some ⟨w.heap.size,0,none⟩) 0 0) w'):bT P t 0 #[] K w:=by
 unfold bT;have J:(w.alloc (.cells #[] e)).ownsRow base e s (.slice (some ⟨w.heap.size,0,none⟩) 0 0) 0 []:=by
  refine⟨by simp,.inr ⟨w.heap.size,0,#[],rfl,d,?_,Nat.le_refl _,Nat.zero_le _,by simp,by simp⟩⟩;exact heap_alloc_new w (.cells #[] e)
 refine gZ (w':=w.alloc (.cells #[] e)) (v:=.slice (some ⟨w.heap.size,0,none⟩) 0 0) ?_ (h _ J (dW (World.grownBy_alloc _ _ none) (Nat.le_refl _) (fun k I=>by cases I)));have u:∀f:Nat→Value,(Array.range 0).map f=#[]:=fun f=>by apply Array.ext<;>simp
 simp[Instr.buildSlice,Instr.fill,run_underlying M,sizeOf,typeInfo,hi,j,newRow,u]
theorem Lb {ty : TypeId} {cs : Array Bool} {base B0 : Nat} {i : TypeInfo} {z : Value} {bytes : Nat} {av a : Option Addr} (ht : P.underlying t = some (.slice e)) (hi : P.info? e = some i) (hz : i.zero = some z)
    (hsize : i.size = s) (hby : i.bytes = bytes) (hzs : z.cells.size = s) (hs0 : 0 < s) (hown : w.ownsRow base e s (.slice av 0 0) 0 []) (src : w.ownsRow B0 e s (.slice a n c) n xs) (h1 : ∀ u ∈ xs, u.oneCell' = true)
    (hbytes : n * bytes ≤ 140737488355328) (h63 : n ≤ 9223372036854775807) (hbase : base ≤ w.heap.size)
    (h : ∀ a' c' w', w'.ownsRow base e s (.slice a' n c') n xs → w.grownBy w' (Value.slice av 0 0).ownBlock → Below base w w' → ((Value.slice a' n c').ownBlock = (Value.slice av 0 0).ownBlock ∨ (Value.slice a' n c').ownBlock = some w.heap.size) → K (.slice a' n c') w') :
    blt P .append #[t, t] ty cs #[.slice av 0 0, .slice a n c] K w := by
  by_cases hn0 : n = 0
  · subst hn0
    have hxs : xs = [] := List.eq_nil_of_length_eq_zero (by have := src.1; omega)
    subst hxs
    refine qv (v := .slice av 0 0) (w' := w) ?_ (h av 0 w hown ⟨rfl, rfl, rfl, Nat.le_refl _, fun _ _ _ => rfl⟩ (Below.refl _ _) (.inl rfl))
    rw [BigFrame.builtin_append]
    cases a with
    | none => cases av <;> simp [Builtin.append_, run_underlying ht, sizeOf, typeInfo, hi, Builtin.lenOf, Builtin.firstCells, storeCells]
    | some ad => cases av <;> simp [Builtin.append_, run_underlying ht, sizeOf, typeInfo, hi, Builtin.lenOf, Builtin.firstCells, storeCells, loadCells, loadCellsFrom]
  · obtain ⟨g, cur, rfl, op⟩ := cq src (by omega)
    have hn : ∀ j u, xs[j]? = some u → w.cell? ((⟨g, 0, none⟩ : Addr).add j) = some u := by
      intro j u hj
      rw [Bq, op.blk.cell, Nat.zero_add]
      rw [← op.take, List.getElem?_take] at hj
      split at hj
      · exact hj
      · cases hj
    obtain ⟨v', w', hr, h2, h3, _, h5⟩ := run_append_own_at (P := P) w base t ty e i z s bytes ht hi hz hsize hby hzs hs0 _ 0 [] hown ⟨g, 0, none⟩ n c xs op.xl hn h1 (by simp only [maxLen]; omega) (by rw [Nat.zero_add]; exact hbytes) hbase
    rw [Nat.zero_add, List.nil_append] at h2
    obtain ⟨a', c', rfl⟩ : ∃ a' c', v' = .slice a' n c' := by
      rcases h2.2 with ⟨hv, hn⟩ | ⟨g, cap, cur, hv, _⟩
      · exact ⟨none, 0, by rw [hv, hn]⟩
      · exact ⟨_, cap, hv⟩
    exact qv (by rw [BigFrame.builtin_append]; simp only [Sem.run_bind, hr, Result.andThen_ok, Sem.run_pure]) (h a' c' w' h2 h3 (dW h3 hbase (fun k hk => (World.ownsRow.lt hown k hk).1)) h5)
end
section
variable {l:LG}
theorem LW (d:l.s.I.length=6)(h:l.s.L.length=6)(j:l.s.V.length=6)(u:k<6)(b:Bool):(lgC l).set k (.bool b)=lgC {l with s:={l.s with I:=l.s.I.set k b} }:=by
 unfold lgC saC;simp only[List.append_assoc];rw[List.set_append_left _ _ (by simp;omega),List.map_set]
theorem RD (d:l.s.I.length=6)(h:l.s.L.length=6)(j:l.s.V.length=6)(u:k<6)(b:Bool):(lgC l).set (6+k) (.bool b)=lgC {l with s:={l.s with L:=l.s.L.set k b} }:=by
 unfold lgC saC;simp only[List.append_assoc];rw[List.set_append_right _ _ (by simp;omega),List.length_map,d,show 6+k-6=k by omega,List.set_append_left _ _ (by simp;omega),List.map_set]
theorem RE (d:l.s.I.length=6)(h:l.s.L.length=6)(j:l.s.V.length=6)(u:k<6)(x:Int):(lgC l).set (12+k) (u6 x)=lgC {l with s:={l.s with V:=l.s.V.set k x} }:=by
 unfold lgC saC;simp only[List.append_assoc];rw[List.set_append_right _ _ (by simp;omega),List.length_map,d,show 12+k-6=6+k by omega,List.set_append_right _ _ (by simp;omega),List.length_map,h,show 6+k-6=k by omega,List.set_append_left _ _ (by simp;omega),List.map_set];rfl
theorem Dy (d:l.s.I.length=6)(h:l.s.L.length=6)(j:l.s.V.length=6)(N:List ND)(a:Option Addr)(c:Nat):(lgC l).set 18 (.slice a N.length c)=lgC {l with s:={l.s with nodes:=N,na:=a,nc:=c} }:=by
 unfold lgC saC;simp only[List.append_assoc];rw[List.set_append_right _ _ (by simp;omega),List.length_map,d,show 18-6=12 by omega,List.set_append_right _ _ (by simp;omega),List.length_map,h,show 12-6=6 by omega,List.set_append_right _ _ (by simp;omega),List.length_map,j];rfl
theorem Hs (d:l.s.I.length=6)(h:l.s.L.length=6)(j:l.s.V.length=6)(G:List GR)(a:Option Addr)(c:Nat):(lgC l).set 19 (.slice a G.length c)=lgC {l with s:={l.s with gv:=.slice a G.length c},G:=G,ga:=a,gc:=c}:=by
 unfold lgC saC;simp only[List.append_assoc];rw[List.set_append_right _ _ (by simp;omega),List.length_map,d,show 19-6=13 by omega,List.set_append_right _ _ (by simp;omega),List.length_map,h,show 13-6=7 by omega,List.set_append_right _ _ (by simp;omega),List.length_map,j];rfl
theorem LX (d:l.s.I.length=6)(h:l.s.L.length=6)(j:l.s.V.length=6)(v:Value):(lgC l).set (21+k) v=lgC {l with q:=l.q.set k v}:=by
 have u:(saC l.s).length=20:=by simp[saC,d,h,j]
 unfold lgC;rw[List.set_append_right _ _ (by omega),u,show 21+k-20=k+1 by omega,List.set_cons_succ]
theorem FW (d:l.s.I.length=6)(h:l.s.L.length=6)(j:l.s.V.length=6)(u:l.q.length=6):(lgC l).length=27:=by simp[lgC,saC,d,h,j,u]
end
theorem rU {L:List α}(h:L.length=6):∃a b c d e f,L=[a,b,c,d,e,f]:=by
 match L,h with
 | [a,b,c,d,e,f],_=>exact⟨a,b,c,d,e,f,rfl⟩
end
section
attribute [local irreducible] bin un conv call bY blt slc af fld aV idx lkp dO gY eSt rng nxt ent ext alc box bld bT ld sto aU dE mkS ifc pick rdy wts aI sti cond bp Gives ae fh fT cOp
open Go.RowKit
structure GI (l:LG) (m:Nat):Prop where
 tk:∃rk,TK l.T rk
 nt:∀x∈l.T,∃y∈l.s.nodes,y.id=x.1
 nn:l.s.nodes.length≤m
 gn:l.G.length≤m
 tn:l.T.length≤m
 rn:∀k,k<6→(l.R.getD k []).length≤m
 vb:∀k,k<6→0≤l.s.V.getD k 0∧l.s.V.getD k 0<1099511627776
 gr:∀x∈l.G, -9223372036854775808≤x.a∧x.a≤9223372036854775807
def my :Value:=.slice none 0 0
def HB :List Value:=List.replicate 6 my
def lg0 (t:Nat)(I:List Bool):LG:=⟨⟨I,List.replicate 6 false,List.replicate 6 0,[],none,0,.slice none 0 0⟩,[],[],List.replicate 6 [],t,HB,none,0⟩
theorem NS {v:Value}(h:HB[k]? = some v):v=my:=by
 have:=List.mem_of_getElem? h
 exact List.eq_of_mem_replicate this
theorem lm0 {t:Nat}{I:List Bool}(hI:I.length=6)(u:blk w p 123 (lgC (lg0 t I)))(U:blk w t 188 [my])(O:B≤p)(d:B≤t):LM w B p (lg0 t I) where
 i6:=hI
 l6:=rfl
 v6:=rfl
 q6:=rfl
 r6:=rfl
 A54:=by simp[lg0]
 cl:=u
 lo:=O
 gv:=rfl
 nd:=World.ownsRow_nil _ _ _ _
 gr:=World.ownsRow_nil _ _ _ _
 tm:=⟨⟨none,0,U,World.ownsRow_nil _ _ _ _⟩,d⟩
 rq:=fun k h=>by
  have e:(lg0 t I).R.getD k []=[]:=by
   show (List.replicate 6 ([]:List Int)).getD k []=[]
   rw[List.getD_eq_getElem?_getD,List.getElem?_replicate];split<;>rfl
  rw[e];refine⟨none,0,?_,World.ownsRow_nil _ _ _ _⟩;show HB[k]? = some my;unfold HB;rw[List.getElem?_replicate,if_pos h]
 ne:=fun j k v v' b M J h d=>by
  rw[NS J]at d;cases d
theorem gi0 {t:Nat}{I:List Bool}:GI (lg0 t I) 0 :=
 ⟨⟨_,TK.nil⟩,by simp[lg0],Nat.le_refl _,Nat.le_refl _,Nat.le_refl _,fun k d=>by
  have e:(lg0 t I).R.getD k []=[]:=by
   show (List.replicate 6 ([]:List Int)).getD k []=[]
   rw[List.getD_eq_getElem?_getD,List.getElem?_replicate];split<;>rfl
  rw[e];exact Nat.le_refl _,fun k d=>by
  have e:(lg0 t I).s.V.getD k 0=0:=by
   show (List.replicate 6 (0:Int)).getD k 0=0;rw[List.getD_eq_getElem?_getD,List.getElem?_replicate];split<;>rfl
  rw[e];omega,by simp[lg0]⟩
def iN (n:Nat):List Bool:=(List.range 6).map fun k=>decide (k<n)
theorem UV :∀{k:Nat},k<6→(iN k).set k true=iN (k+1)
 | 0,_=>rfl
 | 1,_=>rfl
 | 2,_=>rfl
 | 3,_=>rfl
 | 4,_=>rfl
 | 5,_=>rfl
section
variable {w:World}{K:KV}{B p:Nat}{l:LG}
theorem ixB {i:Int}(hi:i=(k:Nat))(h:k<6)(d:K (.pointer (some ⟨b,o+k,none⟩)) w):aV Tryz.prog 41 (.pointer (some ⟨b,o,none⟩)) (.int .i64 i) K w:=by
 subst hi;exact eO underlying41 (s:=1) (fun _=>by kernel_rfl) (by omega) (by omega) (by rw[Int.toNat_natCast,Nat.mul_one];exact d)
theorem PN (h1:1≤n)(h6:n≤6)(h:∀w' p l,LM w' w.heap.size p l→GI l 0→l.s.V=List.replicate 6 0→l=lg0 l.t (iN n)→Below w.heap.size w w'→K (.tuple #[.pointer (some ⟨p,0,none⟩),.int .i64 0]) w'):call Tryz.prog 45 #[.int .i64 (n:Nat)] K w:=by
 refine aj (goK func45) (Hr ?_);refine aM <|dX (by omega) <|de <|bw (by omega) <|aq (by omega) <|eT (vs:=[my]) (by kernel_rfl) ?_;refine cv fun w1 d b1 s1=>?_;have d:blk w1 w.heap.size 188 [my]:=by simpa[Value.cells]using d
 refine eT (vs:=lgC (lg0 w.heap.size (List.replicate 6 false))) (by kernel_rfl) ?_;refine cv fun w2 O b2 s2=>?_;have O:blk w2 w1.heap.size 123 (lgC (lg0 w.heap.size (List.replicate 6 false))):=by simpa[Value.cells]using O
 have d:=ac b2 d d.lt;have bb:Below w.heap.size w w2:=b1.trans (b2.mono (by omega));rw[s1]at O ⊢;refine Fh (Inv:=fun i wr=>∃(k:Nat) (I:List Bool),i=.int .i64 (k:Nat)∧k≤n∧I.length=6∧I=iN k∧blk wr (w.heap.size+1) 123 (lgC (lg0 w.heap.size I))∧blk wr w.heap.size 188 [my]∧Below w.heap.size w wr) (μ:=fun i _=>n-(intOf i).toNat) ⟨0,_,rfl,by omega,rfl,rfl,O,d,bb⟩ ?_
 rintro _ dd w3 m ⟨k,I,rfl,hk,hI,u,J,M,j⟩ hm;refine aM ?_;by_cases ad:k<n
 ·refine ax (by omega) <|ai <|bq <|uO <|ixB rfl (by omega) ?_;refine eB (fun _=>by kernel_rfl) J (by rw[FW hI rfl rfl rfl];omega) rfl fun w4 U Z=>?_;refine aW (by omega) (by omega) ?_;have e:(lgC (lg0 w.heap.size I)).set (0+0+0+k) (.bool true)=lgC (lg0 w.heap.size (I.set k true)):=by
   rw[show 0+0+0+k=k by omega,LW (l:=lg0 w.heap.size I) hI rfl rfl (by omega)];rfl
  have X:blk w4 (w.heap.size+1) 123 (lgC (lg0 w.heap.size (I.set k true))):=by rw[←e];simpa using U
  exact⟨⟨k+1,I.set k true,ivS,by omega,by rw[List.length_set,hI],by rw[u,UV (by omega)],X,Z.blk M (by omega),bG j Z (by omega)⟩,by rw[hm];show n-((k:Int)+1).toNat<n-(k:Int).toNat;omega⟩
 ·refine aq (by omega) <|Fi ?_;exact h w3 _ _ (lm0 hI J M (by omega) (Nat.le_refl _)) gi0 rfl (by rw[u,show k=n by omega];rfl) j
end
theorem De {enc:α→List Value}(h:∀x,∀v∈enc x,v.oneCell'=true)(L:List α):∀v∈L.flatMap enc,v.oneCell'=true:=by
 intro v d;obtain⟨x,_,j⟩:=List.mem_flatMap.1 d;exact h x v j
section
variable {w:World}{K:KV}{B p:Nat}{l:LG}
theorem NG :(Tryz.prog.info? 52).map (fun i=>(i.zero,i.size,i.bytes))=some (some (.agg (ndE ⟨0,0,z54⟩).toArray),56,448):=by kernel_rfl
theorem NF :(Tryz.prog.info? 126).map (fun i=>(i.zero,i.size,i.bytes))=some (some (.agg (grC ⟨0,0,0,0,0⟩).toArray),5,40):=by kernel_rfl
theorem MQ (x:Int):∀v∈uC x,v.oneCell'=true:=by simp[uC,u6,Value.oneCell']
structure CP (w0 w:World) (l m:LG) (p k:Nat):Prop where
 i6:m.s.I.length=6
 l6:m.s.L.length=6
 v6:m.s.V.length=6
 q6:m.q.length=6
 R:m.R=l.R
 cl:blk w p 123 (lgC m)
 lo:w0.heap.size≤p
 gv:m.s.gv=.slice m.ga m.G.length m.gc
 nd:w.ownsRow w0.heap.size 52 56 (.slice m.s.na m.s.nodes.length m.s.nc) m.s.nodes.length (m.s.nodes.flatMap ndE)
 gr:w.ownsRow w0.heap.size 126 5 (.slice m.ga m.G.length m.gc) m.G.length (m.G.flatMap grC)
 tm:TM w w0.heap.size m.t m.T
 rq:∀j,j<k→∃a c,m.q[j]? = some (.slice a (l.R.getD j []).length c)∧w.ownsRow w0.heap.size 31 1 (.slice a (l.R.getD j []).length c) (l.R.getD j []).length ((l.R.getD j []).flatMap uC)
 nq:∀j,j<6→k≤j→m.q[j]? = some my
 ne:∀(j k:Nat) (v v':Value) (b:Nat),j≠k→m.q[j]? = some v→m.q[k]? = some v'→v.ownBlock=some b→v'.ownBlock≠some b
 bel:Below w0.heap.size w0 w
theorem CP.drew {m:LG}(h:CP w0 w l m p k):CP w0 w.drew l m p k :=
 {h with
  bel:=h.bel.drew
  cl:=h.cl.drew
  tm:=h.tm.fresh (Below.refl _ w).drew
  nd:=cJ h.nd fun _ _=>rfl
  gr:=cJ h.gr fun _ _=>rfl
  rq:=fun j u=>(h.rq j u).imp fun a=>Exists.imp fun c d=>⟨d.1,cJ d.2 fun _ _=>rfl⟩}
theorem SY {m:LG}(hl:LM w0 B p l)(hr:∀k,k<6→(l.R.getD k []).length≤1000000)(hc:CP w0 w l m n 0)(hA:∀x∈m.s.nodes,x.A.length=54)(q0:Y1=.pointer (some ⟨p,0,none⟩))(q3:U2=.pointer (some ⟨n,0,none⟩))(q4:V2=.int .i64 0)(h:∀w' u,LM w' w0.heap.size n u→Below w0.heap.size w0 w'→u.s.I=m.s.I→u.s.L=m.s.L→u.s.V=m.s.V→u.s.nodes=m.s.nodes→u.G=m.G→u.T=m.T→u.R=l.R→K (.pointer (some ⟨n,0,none⟩)) w'):kw K ((gw Y1 Z1 U2 V2 zf)) w:=by
 subst q0 q3 q4;refine yh (Inv:=fun i wr=>∃(k:Nat) (u:LG),i=.int .i64 (k:Nat)∧k≤6∧CP w0 wr l u n k∧u.s.I=m.s.I∧u.s.L=m.s.L∧u.s.V=m.s.V∧u.s.nodes=m.s.nodes∧u.G=m.G∧u.T=m.T) (μ:=fun i _=>6-(intOf i).toNat) ⟨0,m,rfl,by omega,hc,rfl,rfl,rfl,rfl,rfl,rfl⟩ ?_;rintro _ dd w1 mm ⟨k,u,rfl,hk,d,e1,e2,e3,e4,e5,e6⟩ hm;refine aM ?_;by_cases O:k<6
 ·refine ax (by omega) ?_;have d:=d.drew;have ad:LM w1.drew B p l:=hl.fresh d.bel;obtain⟨a,c,hq,ap⟩:=ad.rq k O;have a0:(lgC l)[0+21+k]? = some (.slice a (l.R.getD k []).length c):=by rw[Nat.zero_add];exact ad.cQ.trans hq
  have bd:=d.nq k O (Nat.le_refl _);have a7:(lgC u)[0+21+k]? = some my:=by
   rw[Nat.zero_add];unfold lgC;have hs:(saC u.s).length=20:=by simp[saC,d.i6,d.l6,d.v6]
   rw[List.getElem?_append_right (by omega),hs,show 21+k-20=k+1 by omega,List.getElem?_cons_succ];exact bd
  have bi:=hr k O;generalize bk:l.R.getD k []=rs at ap hq a0 bi
  refine aw (fun x=>blk x n 123 (lgC u)∧blk x p 123 (lgC l)) ⟨d.cl,ad.cl⟩ <|ab (fun x Z _=>ai) <|ab (fun x Z _=>qS) <|ab (fun x Z _=>ixQ rfl O) <|ab (v:=my) (fun x Z _=>lK Z.1 a7) <|ab (fun x Z _=>ai) <|ab (fun x Z _=>qS) <|ab (fun x Z _=>ixQ rfl O) <|ab (v:=.slice a rs.length c) (fun x Z _=>lK Z.2 a0) <|ab (fun x Z _=>ai) <|ab (fun x Z _=>qS) ?_
  obtain⟨ii,a8,hz,bs,a6⟩:=info_parts Bv;refine Lb (base:=w0.heap.size) (av:=none) (s:=1) underlying120 a8 hz bs a6 rfl (by omega) (World.ownsRow_nil _ _ _ _) ap (De MQ _) (by omega) (by omega) d.bel.size fun a' c' w2 a4 hg b2 be=>?_;have B2:Below w1.drew.heap.size w1.drew w2:=dW hg (Nat.le_refl _) (fun k hk=>by cases hk);have U:=ac B2 d.cl d.cl.lt
  refine aE ⟨U,ac B2 ad.cl ad.cl.lt⟩ <|ab (fun x Z _=>ixQ rfl O) ?_;have bt:(lgC u).length=27:=FW d.i6 d.l6 d.v6 d.q6;refine eB (fun _=>by kernel_rfl) U (by omega) rfl fun w3 aS o3=>?_;refine aW (by omega) (by omega) ?_;rw[show 0+21+k=21+k by omega,LX d.i6 d.l6 d.v6]at aS
  have az:∀j,(u.q.set k (.slice a' rs.length c'))[j]? = if k=j then some (.slice a' rs.length c')else u.q[j]? := by
   intro j;rw[List.getElem?_set];by_cases J:k=j
   ·subst J;simp[d.q6,O]
   ·simp[J]
  have an:∀(j:Nat) (v:Value) (b:Nat),u.q[j]? = some v→v.ownBlock=some b→b<w1.drew.heap.size:=by
   intro j v b X hb;have ar:j<6:=by rw[←d.q6];exact(List.getElem?_eq_some_iff.1 X).1
   by_cases bb:j<k
   ·obtain⟨a2,c2,ag,al⟩:=d.rq j bb;rw[X]at ag;cases ag;exact(World.ownsRow.lt al b hb).2
   ·rw[d.nq j ar (by omega)]at X;cases X;cases hb
  have am:∀b,(Value.slice a' rs.length c').ownBlock=some b→b=w1.drew.heap.size:=by
   intro b hb;rcases be with h1|h1
   ·rw[h1]at hb;cases hb
   ·rw[h1]at hb;cases hb;rfl
  refine⟨⟨k+1, {u with q:=u.q.set k (.slice a' rs.length c')},ivS,by omega,?_,e1,e2,e3,e4,e5,e6⟩,by rw[hm];show 6-((k:Int)+1).toNat<6-(k:Int).toNat;omega⟩;exact {
   i6:=d.i6
   l6:=d.l6
   v6:=d.v6
   q6:=by rw[List.length_set];exact d.q6
   R:=d.R
   cl:=aS
   lo:=d.lo
   gv:=d.gv
   nd:=eZ (cJ d.nd fun q hq=>B2.block q (World.ownsRow.lt d.nd q hq).2) U (by decide) o3
   gr:=eZ (cJ d.gr fun q hq=>B2.block q (World.ownsRow.lt d.gr q hq).2) U (by decide) o3
   tm:=(d.tm.fresh B2).keep (o3.keep (T:=[123]) (B:=w0.heap.size) U (by simp) d.lo) (by decide) (by decide)
   rq:=fun j X=>by
    show ∃a c,(u.q.set k (.slice a' rs.length c'))[j]? = _∧_;rw[az];by_cases J:k=j
    ·subst J;rw[if_pos rfl,bk];exact⟨a',c',rfl,eZ a4 U (by decide) o3⟩
    ·rw[if_neg J];obtain⟨a2,c2,ag,al⟩:=d.rq j (by omega);exact⟨a2,c2,ag,eZ (cJ al fun q hq=>B2.block q (World.ownsRow.lt al q hq).2) U (by decide) o3⟩
   nq:=fun j ar J=>by
    show (u.q.set k (.slice a' rs.length c'))[j]? = _;rw[az,if_neg (by omega)];exact d.nq j ar (by omega)
   ne:=fun i j v v' b a9 hi X hb=>by
    replace hi:(u.q.set k (.slice a' rs.length c'))[i]? = some v:=hi
    replace X:(u.q.set k (.slice a' rs.length c'))[j]? = some v':=X
    rw[az]at hi X;by_cases a3:k=i
    ·rw[if_pos a3]at hi;cases hi;have bW:=am b hb;by_cases J:k=j
     ·omega
     ·rw[if_neg J]at X;intro hh
      have:=an j v' b X hh
      omega
    ·rw[if_neg a3]at hi;by_cases J:k=j
     ·rw[if_pos J]at X;cases X;intro hh;have h1:=am b hh
      have:=an i v b hi hb
      omega
     ·rw[if_neg J]at X;exact d.ne i j v v' b a9 hi X hb
   bel:=bG (d.bel.trans (B2.mono d.bel.size)) o3 d.lo}
 ·refine aq (by omega) ?_;have O:k=6:=by omega
  subst O;refine yi ?_;refine h w1 u ?_ d.bel e1 e2 e3 e4 e5 e6 d.R;exact {
   i6:=d.i6
   l6:=d.l6
   v6:=d.v6
   q6:=d.q6
   r6:=by rw[d.R];exact hl.r6
   A54:=by rw[e4];exact hA
   cl:=d.cl
   lo:=d.lo
   gv:=d.gv
   nd:=d.nd
   gr:=d.gr
   tm:=d.tm
   rq:=by rw[d.R];exact d.rq
   ne:=d.ne}
end
section
variable {w:World}{K:KV}{B p:Nat}{l:LG}
theorem SX {m:LG}(hl:LM w0 B p l)(hr:∀k,k<6→(l.R.getD k []).length≤1000000)(ht:l.T.length≤1000000)(u:CP w0 w l m b 0)(hA:∀x∈m.s.nodes,x.A.length=54)(ar:m.T=[])(Z:blk w m.t 188 [my])(q0:Y1=.pointer (some ⟨p,0,none⟩))(q3:U2=.pointer (some ⟨b,0,none⟩))(h:∀w' m',LM w' w0.heap.size b m'→Below w0.heap.size w0 w'→m'.s.I=m.s.I→m'.s.L=m.s.L→m'.s.V=m.s.V→m'.s.nodes=m.s.nodes→m'.G=m.G→m'.T=l.T→m'.R=l.R→K (.pointer (some ⟨b,0,none⟩)) w'):ja K ((gw Y1 Z1 U2 V2 zf)) w:=by
 subst q0 q3;refine yg ?_;have u:=u.drew;have Z:blk w.drew m.t 188 [my]:=Z.drew;have O:LM w.drew B p l:=hl.fresh u.bel;obtain⟨a,c,X,al⟩:=O.tm.row;have ad:(lgC m)[20]? = some (.pointer (some ⟨m.t,0,none⟩)):=by
  have hs:(saC m.s).length=20:=by simp[saC,u.i6,u.l6,u.v6]
  unfold lgC;rw[List.getElem?_append_right (by omega),hs];rfl
 refine aw (fun x=>blk x b 123 (lgC m)∧blk x p 123 (lgC l)∧blk x m.t 188 [my]∧blk x l.t 188 [.slice a l.T.length c]) ⟨u.cl,O.cl,Z,X⟩ <|ab (fun x J _=>ai) <|ab (fun x J _=>wC) <|ab (v:=.pointer (some ⟨m.t,0,none⟩)) (fun x J _=>lK J.1 ad) <|ab (fun x J _=>ai) <|ab (fun x J _=>wC) <|ab (v:=.pointer (some ⟨m.t,0,none⟩)) (fun x J _=>lK J.1 ad) <|ab (fun x J _=>ai) <|ab (fun x J _=>lg) <|ab (v:=my) (fun x J _=>lK J.2.2.1 rfl) <|ab (fun x J _=>ai) <|ab (fun x J _=>wC) <|ab (v:=.pointer (some ⟨l.t,0,none⟩)) (fun x J _=>lK J.2.1 O.cT) <|ab (fun x J _=>ai) <|ab (fun x J _=>lg) <|ab (v:=.slice a l.T.length c) (fun x J _=>lK J.2.2.2 rfl) ?_
 obtain⟨ii,an,hz,ap,am⟩:=info_parts LL;refine Lb (base:=w0.heap.size) (av:=none) (s:=2) underlying186 an hz ap am rfl (by omega) (World.ownsRow_nil _ _ _ _) al (De Gh _) (by omega) (by omega) u.bel.size fun a' c' w2 ag hg b2 az=>?_;have B2:Below w.drew.heap.size w.drew w2:=dW hg (Nat.le_refl _) (fun k hk=>by cases hk);have M:=ac B2 Z Z.lt
 refine aE ⟨ac B2 u.cl u.cl.lt,ac B2 O.cl O.cl.lt,M,ac B2 X X.lt⟩ <|ab (fun x J _=>ai) <|ab (fun x J _=>lg) ?_;refine eB (fun _=>by kernel_rfl) M (by simp) rfl fun w3 U o3=>?_;have U:blk w3 m.t 188 [.slice a' l.T.length c']:=U;have c3:CP w0 w3 l {m with T:=l.T} b 0:={
   i6:=u.i6
   l6:=u.l6
   v6:=u.v6
   q6:=u.q6
   R:=u.R
   cl:=o3.blk (ac B2 u.cl u.cl.lt) (fun hh=>u.cl.ne Z (by decide) hh)
   lo:=u.lo
   gv:=u.gv
   nd:=eZ (cJ u.nd fun q hq=>B2.block q (World.ownsRow.lt u.nd q hq).2) M (by decide) o3
   gr:=eZ (cJ u.gr fun q hq=>B2.block q (World.ownsRow.lt u.gr q hq).2) M (by decide) o3
   tm:=⟨⟨a',c',U,eZ ag M (by decide) o3⟩,u.tm.lo⟩
   rq:=fun j hj=>absurd hj (by omega)
   nq:=u.nq
   ne:=u.ne
   bel:=bG (u.bel.trans (B2.mono u.bel.size)) o3 u.tm.lo}
 exact SY hl hr c3 hA rfl rfl rfl h
end
theorem LM.drew {l:LG}(h:LM w B p l):LM w.drew B p l:=h.fresh (Below.refl _ w).drew
theorem LM.nodes' {l:LG}{Ts:List TypeId}{N:List ND}(h:LM w B p l)(j:Keep Ts B w w')(M:126∉Ts)(O:188∉Ts)(U:277∉Ts)(X:31∉Ts)(d:blk w' p 123 (lgC {l with s:={l.s with nodes:=N,na:=a,nc:=c} }))(I:w'.ownsRow B 52 56 (.slice a N.length c) N.length (N.flatMap ndE))(Z:∀x∈N,x.A.length=54):LM w' B p {l with s:={l.s with nodes:=N,na:=a,nc:=c} } :=
 {h with
  A54:=Z
  cl:=d
  nd:=I
  gr:=ff h.gr j M
  tm:=h.tm.keep j O U
  rq:=fun k u => (h.rq k u).imp fun a=>Exists.imp fun c J=>⟨J.1,ff J.2 j X⟩}
theorem LM.tree' {l:LG}(h:LM w B p l)(d:Keep CN B w w')(I:TM w' B l.t T):LM w' B p {l with T:=T} :=
 {h with
  cl:=d.blk h.cl (.inr (by decide))
  nd:=ff h.nd d (by decide)
  gr:=ff h.gr d (by decide)
  tm:=I
  rq:=fun k j => (h.rq k j).imp fun a=>Exists.imp fun c u=>⟨u.1,ff u.2 d (by decide)⟩}
abbrev yd :List TypeId:=[123,52]
theorem NQ {x:ND}(h:x.A.length=54)(d:k<54)(v:Int):(ndE x).set (2+k) (iv v)=ndE {x with A:=x.A.set k v}:=by
 rw[Cx h,Cx (by simpa using h)];unfold ndC;rw[show 2+k=(k+1)+1 by omega,List.set_cons_succ,List.set_cons_succ,List.map_set]
theorem LM.nn {l:LG}(h:LM w B p l):∀k,(Value.slice l.s.na l.s.nodes.length l.s.nc).ownBlock=some k→k<w.heap.size:=fun k d=>(World.ownsRow.lt h.nd k d).2
theorem SQ {id par:Int}(h:(iX T id par).2=0):id≠0∧cr T id=false∧(par=0∨cr T par=true)∧T.length<32∧(iX T id par).1=fl T (oG (gtI id) T T.length) (id,par):=by
 unfold iX at h ⊢;by_cases d:id=0
 ·rw[if_pos d]at h;simp at h
 rw[if_neg d]at h ⊢;by_cases j:cr T id=true
 ·rw[if_pos j]at h;simp at h
 rw[if_neg j]at h ⊢;by_cases u:par≠0∧cr T par=false
 ·rw[if_pos u]at h;simp at h
 rw[if_neg u]at h ⊢;by_cases I:32≤T.length∨4≤(dh T par).length
 ·rw[if_pos I]at h;simp at h
 rw[if_neg I];refine⟨d,by simpa using j,?_,by omega,rfl⟩;by_cases J:par=0
 ·exact .inl J
 ·refine .inr ?_;cases M:cr T par with
  | true=>rfl
  | false=>exact absurd ⟨J,M⟩ u
end
section
attribute [local irreducible] bin un conv call bY blt slc af fld aV idx lkp dO gY eSt rng nxt ent ext alc box bld bT ld sto aU dE mkS ifc pick rdy wts aI sti cond bp Gives ae fh fT cOp
open Go.RowKit Go.ChangeMaps
theorem UB {l k:List Int}(j:l.Perm k)(d:l.Pairwise (· < ·))(h:k.Pairwise (· < ·)):l=k :=
 List.Perm.eq_of_pairwise (le:=(· < ·)) (fun a b _ _ d h=>by omega) d h j
theorem CK (t:STA):saC t=(t.I.map .bool++t.L.map .bool++t.V.map (.int .u64))++[.slice t.na t.nodes.length t.nc,t.gv]:=rfl
theorem Ub {t:STA}(d:t.I.length=6)(h:t.L.length=6)(j:t.V.length=6){N:List ND}(u:N.length=n):(saC t).set 18 (.slice a n c)=saC {t with nodes:=N,na:=a,nc:=c}:=by
 subst u;rw[CK,show (18:Nat)=18+0 by omega,rB (n:=18) (by simp[d,h,j])];rfl
theorem Uc {t:STA}(d:t.I.length=6)(h:t.L.length=6)(j:t.V.length=6){v:Value}:(saC t).set 19 v=saC {t with gv:=v}:=by
 rw[CK,show (19:Nat)=18+1 by omega,rB (n:=18) (by simp[d,h,j])];rfl
theorem JV {t:STA}(d:t.I.length=6)(h:t.L.length=6)(j:t.V.length=6):(saC t)[18]? = some (.slice t.na t.nodes.length t.nc):=by
 rw[CK,show (18:Nat)=18+0 by omega,iP (n:=18) (by simp[d,h,j])];rfl
theorem Oc {t:STA}(d:t.I.length=6)(h:t.L.length=6)(j:t.V.length=6):(saC t)[19]? = some t.gv:=by
 rw[CK,show (19:Nat)=18+1 by omega,iP (n:=18) (by simp[d,h,j])];rfl
theorem rA {t:STA}(d:t.I.length=6)(h:t.L.length=6)(j:t.V.length=6):(saC t).length=20:=by simp[saC,d,h,j]
theorem NR.own {L:List ND}(h:w.ownsRow B 52 56 (.slice a n c) n (L.flatMap ndE))(M:L.length=n)(X:∀x∈L,x.A.length=54):NR w a n c L:=by
 refine⟨M,?_,?_,X,?_⟩
 ·rcases h.2 with⟨h1,h2⟩|⟨g,cap,d,hv,_,_,hn,_⟩
  ·omega
  ·simp only[Value.slice.injEq]at hv;omega
 ·intro h0;obtain⟨g,d,I,_⟩:=cq h h0;exact⟨g,0,I⟩
 ·intro i x U b o I j u O;have hi:i<n:=by rw[←M];exact(List.getElem?_eq_some_iff.1 U).1
  obtain⟨g,d,J,Z⟩:=cq h (by omega);rw[J]at I;cases I;rw[←Cx (X x (List.mem_of_getElem? U))]at O;have hj:j<56:=by rw[←fC x];exact(List.getElem?_eq_some_iff.1 O).1
  rw[Z.blk.cell,Nat.zero_add,Z.cell fC M U hj];exact O
structure SO (w:World) (B:Nat) (s:PL) (t:STA) (ga:Option Addr) (gc:Nat):Prop where
 eI:t.I=s.I
 eL:t.L=s.L
 eV:t.V=s.V
 eN:t.nodes=s.N
 gv:t.gv=.slice ga s.G.length gc
 nd:w.ownsRow B 52 56 (.slice t.na s.N.length t.nc) s.N.length (s.N.flatMap ndE)
 gr:w.ownsRow B 126 5 (.slice ga s.G.length gc) s.G.length (s.G.flatMap grC)
theorem SO.sk {s:PL}{t:STA}(h:SO w B s t a b)(hi:PI s):SK w t:=by
 have X:=hi.len30;obtain⟨I,L,V,d,na,nc,Z⟩:=t;obtain⟨j,u,J,M,O,U,h2⟩:=h;simp only at j u J M O U;subst j u J M O;exact⟨hi.i6,hi.l6,hi.v6,NR.own U rfl hi.A54,by show s.N.length≤_;omega,rfl⟩
theorem PA :(Tryz.prog.info? 52).map (fun i=>(i.zero,i.size,i.bytes))=some (some (.agg (ndE ⟨0,0,[]⟩).toArray),56,448):=by kernel_rfl
theorem QL {x:ND}(h:x.A.length=54):Tryz.prog.built 52 [(0,u6 x.id),(1,u6 x.par),(2,rgV x.A)]=some (ndE x).toArray:=by
 unfold rgV;rw[←Cy h]
 kernel_rfl
theorem Ph {I L:List Bool}{V:List Int}(d:I.length=6)(h:L.length=6)(j:V.length=6):Tryz.prog.built 45 [(0,.agg (I.map .bool).toArray),(1,.agg (L.map .bool).toArray),(2,.agg (vCs V).toArray)]=some (saC ⟨I,L,V,[],none,0,.slice none 0 0⟩).toArray:=by
 obtain⟨_,_,_,_,_,_,rfl⟩:=rU d;obtain⟨_,_,_,_,_,_,rfl⟩:=rU h;obtain⟨_,_,_,_,_,_,rfl⟩:=rU j
 kernel_rfl
theorem Od {t:STA}(h:t.gv.oneCell'=true):∀v∈saC t,v.oneCell'=true:=by
 intro v d;unfold saC at d;simp only[List.mem_append,List.mem_map,List.mem_cons,List.not_mem_nil,or_false]at d;rcases d with((⟨_,_,rfl⟩|⟨_,_,rfl⟩)|⟨_,_,rfl⟩)|(rfl|rfl)
 ·rfl
 ·rfl
 ·rfl
 ·rfl
 ·exact h
section
variable {w:World}{K:KV}{q:LB}{s:PL}
theorem PM.ldI (h:PM w q s)(d:K (.agg (s.I.map .bool).toArray) w):ld Tryz.prog 41 (.pointer (some ⟨q.p,0+0,none⟩)) K w:=by
 refine ldA (n:=6) (vs:=s.I.map .bool) underlying41 rfl (by kernel_rfl) h.b ?_ (by simp[h.i6]) d;unfold plC;rw[Nat.zero_add,List.drop_zero,List.take_append_of_le_length (by simp[h.i6]),List.take_of_length_le (by simp[h.i6])]
theorem PM.ldL (h:PM w q s)(d:K (.agg (s.L.map .bool).toArray) w):ld Tryz.prog 41 (.pointer (some ⟨q.p,0+6,none⟩)) K w:=by
 refine ldA (n:=6) (vs:=s.L.map .bool) underlying41 rfl (by kernel_rfl) h.b ?_ (by simp[h.l6]) d;unfold plC;rw[Nat.zero_add,show (6:Nat)=(s.I.map Value.bool).length by simp[h.i6],List.drop_left',List.take_append_of_le_length (by simp[h.i6,h.l6]),List.take_of_length_le (by simp[h.i6,h.l6])];rfl
theorem Sf (h:PM w q s)(hi:PI s)(hP:∀{l0 l1 s2 bk bs bt bW:Value} {zf:Nat→Value} (w':World) M O,l0=pB q.p→s2=pB w.heap.size→blk w' w.heap.size 45 (saC ⟨s.I,s.L,s.V,s.N,M,O,.slice none 0 0⟩)→w'.ownsRow (w.heap.size+1) 52 56 (.slice M s.N.length O) s.N.length (s.N.flatMap ndE)→Below w.heap.size w w'→fF K ((fY l0 l1 s2 bk bs bt bW zf)) w'):call Tryz.prog 25 #[pB q.p] K w:=by
 have b8:=h.lt;have b0:=hi.len30;refine aj (goK func25) (BR ?_);refine dZ (z:=.agg (saC ⟨List.replicate 6 false,List.replicate 6 false,List.replicate 6 0,[],none,0,.slice none 0 0⟩).toArray) (by kernel_rfl) fun w1 z1 b1 s1=>Ck (aO ?_);have z1:blk w1 w.heap.size 45 (saC ⟨List.replicate 6 false,List.replicate 6 false,List.replicate 6 0,[],none,0,.slice none 0 0⟩):=by simpa[Value.cells]using z1
 have p1:=(h.below b1).drew;have z1:=z1.drew;have b1:=b1.drew;refine aa (fun _=>ai) (aa (fun _=>zO) (aa (fun _=>p1.ldI) ?_));refine aa (fun _=>ai) (aa (fun _=>GQ) (aa (fun _=>p1.ldL) ?_));refine aa (fun _=>ai) (aa (fun _=>wD) (aa (fun _=>p1.ldV) ?_));refine aa (fun _=>eT (vs:=saC ⟨s.I,s.L,s.V,[],none,0,.slice none 0 0⟩) (Ph hi.i6 hi.l6 hi.v6)) ?_
 refine jP (n:=20) (by kernel_rfl) (rA hi.i6 hi.l6 hi.v6) z1 (by simp[saC]) (Od rfl) fun w2 z2 o2=>?_;have z2:blk w2 w.heap.size 45 (saC ⟨s.I,s.L,s.V,[],none,0,.slice none 0 0⟩):=by
  rw[List.take_zero,List.nil_append,List.drop_of_length_le (by simp[saC]),List.append_nil]at z2;exact z2
 have b2:=bG b1 o2 (Nat.le_refl _);have p2:=h.below b2;refine ai (wF (lK (v:=pB q.t) p2.b (by rw[Nat.zero_add];exact p2.c18) ?_));refine NV p2.tm (by rw[Ka];omega) fun w3 a c ids ad bb a7 b3=>bj underlying120 ?_;have Z:ids=s.N.map (·.id):=by
  refine UB ?_ bb ?_
  ·have e:(tr s.N).map (·.1)=s.N.map (·.id):=by unfold tr;rw[List.map_map];rfl
   rw[←e];exact ad
  ·exact List.pairwise_map.2 hi.srt
 have b4:ids.length=s.N.length:=by rw[Z,List.length_map]
 have z3:=ac b3 z2 z2.lt;have ag:=b2.trans (b3.mono b2.size);have b9:=z3.lt;obtain⟨ii,a4,hz,av,a3⟩:=info_parts PA
 refine Af (Inv:=fun i wr=>∃(k:Nat) (M:Option Addr) (O:Nat),i=iv (k:Nat)∧k≤ids.length∧blk wr w.heap.size 45 (saC ⟨s.I,s.L,s.V,s.N.take k,M,O,.slice none 0 0⟩)∧wr.ownsRow (w.heap.size+1) 52 56 (.slice M k O) k ((s.N.take k).flatMap ndE)∧IdR wr w2.heap.size a c ids∧Below w.heap.size w wr)
  (μ:=fun i _=>ids.length-(intOf i).toNat) ⟨0,none,0,rfl,Nat.zero_le _,z3,World.ownsRow_nil _ _ _ _,a7,ag⟩ ?_
 rintro _ dd w4 m ⟨k,M,O,rfl,b7,z4,r4,az,J⟩ hm;refine aM ?_;by_cases U:k<ids.length
 ·have a8:k<s.N.length:=by omega
  have hx:s.N[k]? = some s.N[k]:=List.getElem?_eq_getElem a8;generalize s.N[k]=x at hx;have X:x∈s.N:=List.mem_of_getElem? hx;have ap:ids[k]=x.id:=by
   have:ids[k]? = some x.id:=by rw[Z,List.getElem?_map,hx];rfl
   rw[List.getElem?_eq_getElem U]at this;exact Option.some.inj this
  have bd:(s.N.take k).length=k:=by rw[List.length_take];omega
  refine ax (by omega) (az.at2 U fun pt=>?_);rw[ap];have hT:cr (tr s.N) x.id=true:=by rw[kh];exact mF.2 ⟨x,X,rfl⟩
  have ar:eE (tr s.N) x.id=x.par:=CG (Kc hi.srt) (List.mem_map.2 ⟨x,X,rfl⟩);have hA:aN s.N x.id=x.A:=te hi.srt X;have p4:=(h.below J).drew;have z4:=z4.drew;have a0:(saC ⟨s.I,s.L,s.V,s.N.take k,M,O,.slice none 0 0⟩)[18]? = some (.slice M k O):=by rw[JV hi.i6 hi.l6 hi.v6];show some (Value.slice M (s.N.take k).length O)=_;rw[bd]
  refine aw (fun u=>blk u w.heap.size 45 (saC ⟨s.I,s.L,s.V,s.N.take k,M,O,.slice none 0 0⟩)∧PM u q s) ⟨z4,p4⟩ ?_;refine ab (fun u j _=>eA) (ab (fun u j _=>lK (v:=.slice M k O) j.1 (by rw[Nat.zero_add];exact a0)) ?_);refine ab (fun u j _=>ai) (ab (fun u j _=>GS) (ab (fun u j _=>lK (v:=.map (some q.pm)) j.2.b (by rw[Nat.zero_add];exact j.2.c19)) (ab (fun u j _=>j.2.par_l hi hT) ?_)))
  refine ab (fun u j _=>ai) (ab (fun u j _=>sw) (ab (fun u j _=>lK (v:=.map (some q.rm)) j.2.b (by rw[Nat.zero_add];exact j.2.c20)) (ab (fun u j _=>j.2.rg_l hi) ?_)));rw[ar,hA];refine ab (fun u j _=>eT (vs:=ndE x) (QL (hi.A54 x X))) ?_
  refine mY (vs:=[.agg (ndE x).toArray]) underlying42 (s:=56) (by kernel_rfl) (by kernel_rfl) (by omega) rfl (by simp) (by simp) (by simp) (by simp[Value.cells,fC]) fun w5 k5 b5 s5=>?_;have k5:blk w5 w4.drew.heap.size 52 (ndE x):=by simpa[Value.cells]using k5
  have z5:=ac b5 z4 z4.lt;have p5:=p4.below b5;have aS:w4.drew.ownsRow (w.heap.size+1) 52 56 (.slice M k O) k ((s.N.take k).flatMap ndE):=r4;have r5:=cJ aS fun g hg=>b5.block g (World.ownsRow.lt aS g hg).2;have be:=(az.below (Below.refl _ w4).drew).below b5;have al:=J.drew.trans (b5.mono J.drew.size);refine aE ⟨z5,p5⟩ ?_
  refine tf (base:=w.heap.size+1) (enc:=ndE) (x:=x) underlying42 a4 hz av a3 rfl (by omega) fC r5 k5 (zD x) (by omega) (by omega) (by have:=z5.lt;omega) fun a6 c6 w6 r6 an b6 _=>?_;have z6:=fL z5 r5 (by decide) an;have bi:IdR w6 w2.heap.size a c ids:=be.imp fun g cs _ hb=>fL hb r5 (by decide) an;have am:=al.trans (b6.mono (by omega))
  refine aw (fun _=>True) trivial (ab (fun u j _=>eA) ?_);refine eB (fun _=>by kernel_rfl) z6 (by rw[rA hi.i6 hi.l6 hi.v6];omega) rfl fun w7 z7 o7=>aW (by omega) (by omega) ?_;have a2:s.N.take (k+1)=s.N.take k++[x]:=by rw[List.take_add_one,hx];rfl
  rw[Nat.zero_add,Ub hi.i6 hi.l6 hi.v6 (N:=s.N.take (k+1)) (by rw[List.length_take];omega)]at z7;refine⟨⟨k+1,a6,c6,ivS,U,z7,by rw[a2];exact eZ r6 z6 (by decide) o7,bi.imp fun g cs _ hb=>o7.blk hb fun e=>?_,bG am o7 (Nat.le_refl _)⟩,by rw[hm];show ids.length-((k:Int)+1).toNat<ids.length-(k:Int).toNat;omega⟩;subst e;exact absurd (uc hb z6) (by decide)
 ·have a9:k=s.N.length:=by omega
  subst a9;rw[List.take_length]at z4 r4;exact aq (by omega) (hP w4 M O rfl rfl z4 r4 J)
end
end
section
attribute [local irreducible] bin un conv call bY blt slc af fld aV idx lkp dO gY eSt rng nxt ent ext alc box bld bT ld sto aU dE mkS ifc pick rdy wts aI sti cond bp Gives ae fh fT cOp
open Go.RowKit
theorem Rq :(Tryz.prog.info? 126).map (fun i=>(i.zero,i.size,i.bytes))=some (some (.agg (grC ⟨0,0,0,0,0⟩).toArray),5,40):=by kernel_rfl
theorem Qt {G G':List GR}(I:G.Pairwise ltG)(U:G'.Perm G)(h:G'.Pairwise fun x y=>¬ltG y x):G'=G:=by
 have hu:∀x∈G,∀y∈G,¬ltG x y→¬ltG y x→x=y:=by
  intro x hx y hy d u;obtain⟨i,hi⟩:=List.getElem?_of_mem hx;obtain⟨j,hj⟩:=List.getElem?_of_mem hy;obtain⟨a1,rfl⟩:=List.getElem?_eq_some_iff.1 hi;obtain⟨O,rfl⟩:=List.getElem?_eq_some_iff.1 hj;rcases Nat.lt_trichotomy i j with e|e|e
  ·exact absurd (List.pairwise_iff_getElem.1 I i j a1 O e) d
  ·subst e;rfl
  ·exact absurd (List.pairwise_iff_getElem.1 I j i O a1 e) u
 refine List.Perm.eq_of_pairwise (le:=fun x y=>¬ltG y x) (fun a b X Z d u=>hu a (U.mem_iff.1 X) b Z u d) h (I.imp fun {x y} J M=>Tz (Mc J M)) U
section
variable {w:World}{K:KV}{q:LB}{s:PL}
theorem HG (h:PM w q s)(hi:PI s)(hn:s.G.length≤1000000)(hK:∀w' t d j,SO w' (w.heap.size+1) s t d j→Below w.heap.size w w'→K (.agg (saC t).toArray) w'):call Tryz.prog 25 #[pB q.p] K w:=by
 have b9:=h.lt;refine Sf h hi ?_;intro l0 l1 s2 c3 c4 c5 c6 zf w1 X Z q0 q1 z1 n1 M;subst q0 q1;have p1:=h.below M;obtain⟨m,hm,J⟩:=p1.gm;refine Ah ?_;refine ai (CY (lK (v:=.map (some q.gm)) p1.b (by rw[Nat.zero_add];exact p1.c27) (Fx underlying131 hm fun w2 a2 b2 s2=>?_)));have hz:=z1.lt;have cX:q.gm<w.heap.size:=b9 _ (by simp[LB.l]);have z2:=ac b2 z1 z1.lt
 have n2:=cJ n1 fun k u=>b2.block k (World.ownsRow.lt n1 k u).2;have a3:=M.trans (b2.mono M.size);have aS:(m.map (·.1)).Nodup:=a2.nodup.2.1;have ca:m.length=s.G.length:=by rw[J.length_eq];unfold grL;rw[List.length_map]
 generalize hr:w1.heap.size=r at a2 s2;obtain⟨ii,b6,cj,ch,b4⟩:=info_parts Rq;refine Ag (Inv:=fun wr=>∃(D:List ((Int×Int)×GR)) (d:Option Addr) (j:Nat),IT rqV grV wr r q.gm m (D.map (·.1))∧(∀x∈D,x∈m)∧blk wr w.heap.size 45 (saC ⟨s.I,s.L,s.V,s.N,X,Z,.slice d D.length j⟩) ∧
   wr.ownsRow (r+1) 126 5 (.slice d D.length j) D.length ((D.map (·.2)).flatMap grC)∧wr.ownsRow (w.heap.size+1) 52 56 (.slice X s.N.length Z) s.N.length (s.N.flatMap ndE)∧Below w.heap.size w wr∧r+1≤wr.heap.size) (μ:=fun wr=>lC wr q.gm r)
  ⟨[],none,0,a2,by simp,z2,World.ownsRow_nil _ _ _ _,n2,a3,by omega⟩ ?_
 rintro dd w3 mu ⟨D,d,j,O,hD,z3,r3,n3,ag,cs⟩ cc;have bd:(D.map (·.1)).Nodup:=O.nodup.1;have cR:D.length≤s.G.length:=by
  have:=pS bd O.nodup.2.2
  simpa[ca]using this
 refine Fl O (by omega) (fun bi=>?_) fun id v w4 ap c1 ad bW o4 cO=>?_
 ·refine sv rfl (aO ?_);refine Ai ?_;have b0:D.Perm m:=by
   have cl:D.Nodup:=(List.pairwise_map.1 bd).imp fun a0 e=>a0 (by rw[e]);have cm:m.Nodup:=(List.pairwise_map.1 aS).imp fun a0 e=>a0 (by rw[e]);refine(List.perm_ext_iff_of_nodup cl cm).2 fun x=>⟨hD x,fun hx=>?_⟩
   obtain⟨y,hy,e⟩:=List.mem_map.1 (bi x.1 (List.mem_map.2 ⟨x,hx,rfl⟩));have h1:=nN (x:=x.1) (v:=x.2) aS hx;have h2:=nN (x:=y.1) (v:=y.2) aS (hD y hy);rw[e,h1]at h2
   have:x=y:=Prod.ext e.symm (Option.some.inj h2)
   rw[this];exact hy
  have be:(D.map (·.2)).Perm s.G:=by
   have:=(b0.trans J).map (·.2)
   have e:(grL s.G).map (·.2)=s.G:=by unfold grL;rw[List.map_map];exact List.map_id _
   rw[e]at this;exact this
  have bb:D.length=s.G.length:=by have:=be.length_eq;rwa[List.length_map]at this
  have ar:(saC ⟨s.I,s.L,s.V,s.N,X,Z,.slice d D.length j⟩)[19]? = some (.slice d D.length j):=by
   rw[CK,show (19:Nat)=18+1 by omega,List.getElem?_append_right (by simp[hi.i6,hi.l6,hi.v6])];simp[hi.i6,hi.l6,hi.v6]
  refine fj (lK (v:=.slice d D.length j) z3 (by rw[Nat.zero_add];exact ar) ?_);refine Ug r3 (by rw[List.length_map]) (by omega) fun w5 G' ce cg r5 av=>?_;have b3:G'=s.G:=Qt hi.gs (ce.trans be) cg;subst b3;have z5:=fL z3 r3 (by decide) av;have n5:=sR n3 r3 (by decide) av
  have a4:Below w.heap.size w w5:=ag.trans (dW av (by omega) fun k u=>by have:=(World.ownsRow.lt r3 k u).1;omega);rw[bb]at z5 r5;have bk:((saC ⟨s.I,s.L,s.V,s.N,X,Z,.slice d s.G.length j⟩).drop 0).take 20=saC ⟨s.I,s.L,s.V,s.N,X,Z,.slice d s.G.length j⟩:=by
   rw[List.drop_zero,List.take_of_length_le (by rw[rA hi.i6 hi.l6 hi.v6];omega)]
  refine ldA (n:=20) (vs:=saC ⟨s.I,s.L,s.V,s.N,X,Z,.slice d s.G.length j⟩) underlying45 rfl (by kernel_rfl) z5 bk (rA hi.i6 hi.l6 hi.v6) ?_;refine jP (n:=20) (vs:=saC ⟨s.I,s.L,s.V,s.N,X,Z,.slice d s.G.length j⟩) (by kernel_rfl) (rA hi.i6 hi.l6 hi.v6) z5 (by rw[rA hi.i6 hi.l6 hi.v6];omega) (Od rfl) fun w6 z6 o6=>?_
  refine Ld (vs:=saC ⟨s.I,s.L,s.V,s.N,X,Z,.slice d s.G.length j⟩) underlying45 rfl (by rw[rA hi.i6 hi.l6 hi.v6];kernel_rfl) z6 (by rw[List.take_zero,List.nil_append,List.drop_of_length_le (by rw[rA hi.i6 hi.l6 hi.v6];omega),List.append_nil]) ?_;have r6:=eZ r5 z5 (by decide) o6
  refine hK w6 _ d j ⟨rfl,rfl,rfl,rfl,rfl,eZ n5 z5 (by decide) o6,⟨r6.1,r6.2.imp id fun⟨g,cap,a9,a,b,c⟩=>⟨g,cap,a9,a,by omega,c⟩⟩⟩ (bG a4 o6 (Nat.le_refl _))
 ·have hv:(id,v)∈grL s.G:=J.mem_iff.1 ap;obtain⟨g0,cV,e1⟩:=List.mem_map.1 hv;simp only[Prod.mk.injEq]at e1;obtain⟨rfl,rfl⟩:=e1;have cL:D.length<s.G.length:=by
   have h1:(D.map (·.1)++[(g0.o,g0.q)]).Nodup:=ad.nodup.1
   have:=pS h1 ad.nodup.2.2
   simp only[List.length_append,List.length_map,List.length_singleton]at this;omega
  refine sv rfl (bu (Iu bW (db ?_)));have c2:=O.lt;have z4:=o4.blk z3 (by omega);have r4:=cJ r3 fun k u=>o4.other k (by have:=(World.ownsRow.lt r3 k u).1;omega);have n4:w4.ownsRow (w.heap.size+1) 52 56 (.slice X s.N.length Z) s.N.length (s.N.flatMap ndE):=cJ n3 fun k u=>o4.other k (fun e=>by
   obtain⟨⟨a9,hc⟩,_⟩:=CF n3 u;subst e;obtain⟨es,c,cp,cQ,c0,_,hh,_⟩:=O;unfold Go.Proofs.YtkbhfjljieopoaaGreatDoor.blk at hc;rw[hc]at hh;cases hh)
  have al:=bG ag o4 (by omega);have cD:r+1≤w4.heap.size:=by rw[o4.size];exact cs
  refine dZ (z:=.agg (grC ⟨0,0,0,0,0⟩).toArray) (by kernel_rfl) fun w5 g5 b5 s5=>?_;have g5:blk w5 w4.heap.size 126 (grC ⟨0,0,0,0,0⟩):=by simpa[Value.cells]using g5
  refine jP (n:=5) (vs:=grC g0) (by kernel_rfl) rfl g5 (by show 0+5≤5;omega) (rJ _) fun w6 g6 o6=>?_;have g6:blk w6 w4.heap.size 126 (grC g0):=g6;have B6:Below w4.heap.size w4 w6:=bG b5 o6 (Nat.le_refl _);have z6:=ac B6 z4 z4.lt;have r6:=cJ r4 fun k u=>B6.block k (World.ownsRow.lt r4 k u).2;have n6:=cJ n4 fun k u=>B6.block k (World.ownsRow.lt n4 k u).2;have bs:=ad.below B6
  have am:=al.trans (B6.mono al.size);have cG:=Nat.le_trans cD B6.size;have ar:(saC ⟨s.I,s.L,s.V,s.N,X,Z,.slice d D.length j⟩)[19]? = some (.slice d D.length j):=by
   rw[CK,show (19:Nat)=18+1 by omega,List.getElem?_append_right (by simp[hi.i6,hi.l6,hi.v6])];simp[hi.i6,hi.l6,hi.v6]
  refine fj (lK (v:=.slice d D.length j) z6 (by rw[Nat.zero_add];exact ar) ?_);refine ldA (n:=5) (vs:=grC g0) underlying126 rfl (by kernel_rfl) g6 rfl rfl ?_;refine mY (vs:=[.agg (grC g0).toArray]) underlying43 (s:=5) (by kernel_rfl) (by kernel_rfl) (by omega) rfl (by simp) (by simp) (by simp) (by simp[Value.cells,iI]) fun w7 g7 b7 s7=>?_
  have g7:blk w7 w6.heap.size 126 (grC g0):=by simpa[Value.cells]using g7
  have z7:=ac b7 z6 z6.lt;have r7:=cJ r6 fun k u=>b7.block k (World.ownsRow.lt r6 k u).2;have n7:=cJ n6 fun k u=>b7.block k (World.ownsRow.lt n6 k u).2;have U:=bs.below b7;have a6:=am.trans (b7.mono am.size);have bt:=Nat.le_trans cG b7.size
  refine tf (base:=r+1) (enc:=grC) (x:=g0) underlying43 b6 cj ch b4 rfl (by omega) iI r7 g7 (rJ _) (by omega) (by omega) bt fun a8 c8 w8 r8 az b8 _=>?_;have z8:=fL z7 r7 (by decide) az;have n8:=sR n7 r7 (by decide) az;have k8:∀k,k<r+1→k<w7.heap.size→w8.heap[k]? = w7.heap[k]? := fun k u hl=>az.block k hl fun e=>by have:=(World.ownsRow.lt r7 k e.symm).1;omega
  have ck:=U.kept (k8 _ (by omega) U.lt.2) (k8 _ (by omega) U.lt.1);have a7:=a6.trans (b8.mono (by omega));refine fj (eB (fun _=>by kernel_rfl) z8 (by rw[rA hi.i6 hi.l6 hi.v6];omega) rfl fun w9 z9 o9=>?_);rw[Nat.zero_add,Uc hi.i6 hi.l6 hi.v6]at z9;have cI:=Nat.le_trans bt b8.size;have an:(D++[((g0.o,g0.q),g0)]).length=D.length+1:=by simp
  refine⟨⟨D++[((g0.o,g0.q),g0)],a8,c8,?_,?_,by rw[an];exact z9,?_,eZ n8 z8 (by decide) o9,bG a7 o9 (Nat.le_refl _),by rw[o9.size];exact cI⟩,?_⟩
  ·rw[List.map_append];exact ck.kept (o9.other _ (by omega)) (o9.other _ (by omega))
  ·intro x hx;rcases List.mem_append.1 hx with hh|hh
   ·exact hD x hh
   ·rw[List.mem_singleton.1 hh];exact ap
  ·rw[an,List.map_append,List.flatMap_append];have e2:([((g0.o,g0.q),g0)].map (fun x:(Int×Int)×GR=>x.2)).flatMap grC=grC g0:=by simp
   rw[e2];have cn:w8.ownsRow (r+1) 126 5 (.slice a8 (D.length+1) c8) (D.length+1) ((D.map (·.2)).flatMap grC++grC g0):=by
    have:=r8
    rw[List.flatMap_append]at this;simpa using this
   exact eZ cn z8 (by decide) o9
  ·rw[cc];have e1:lC w9 q.gm r=lC w8 q.gm r:=tw (o9.other _ (by omega)) (o9.other _ (by omega));have e2:lC w8 q.gm r=lC w7 q.gm r:=tw (k8 _ (by omega) U.lt.2) (k8 _ (by omega) U.lt.1);have e3:lC w7 q.gm r=lC w6 q.gm r:=GG bs b7;have e4:lC w6 q.gm r=lC w4 q.gm r:=GG ad B6;omega
end
end
section
attribute [local irreducible] bin un conv call bY blt slc af fld aV idx lkp dO gY eSt rng nxt ent ext alc box bld bT ld sto aU dE mkS ifc pick rdy wts aI sti cond bp Gives ae fh fT cOp
open Go.RowKit Go.ChangeMaps
structure RpB where
 p:Nat
 q:LB
 g:Nat
 h:Nat
 m:Nat
 e:Nat
 d:Nat
def RpF (R:RpB)(Rw:List kN):List Nat:=R.q.wv++(R.g::lrB Rw++[R.m,R.e])
theorem gD {R:RpB}{Rw:List kN}:k∈RpF R Rw↔k∈R.q.wv∨k=R.g∨k∈lrB Rw∨k=R.m∨k=R.e:=by simp[RpF,or_assoc]
structure RpM (w:World) (R:RpB) (i:Nat) (l:PL) (W:HM) (Rw:List kN) (c:Int) (L:List (List Int)):Prop where
 b:blk w R.p 91 [iv (i:Nat),pB R.q.p,pB R.g,pB R.h,pB R.e,pB R.d]
 pm:PM w R.q l
 g:LoM w R.g Rw l.V c
 h:HoM w R.h R.m W
 e:GoM w R.e L
 pq:R.p∉R.q.l
 gq:∀k∈R.g::lrB Rw,k∉R.q.l
 hq:R.h∉R.q.l
 mq:R.m∉R.q.l
 eq:R.e∉R.q.l
 few:∀r∈Rw,(r.it.length:Int)≤c
 c0:0≤c
theorem HoM.mb' {q:Nat}{W:HM}(h:HoM w p m W)(d:blk w q E cs):q≠m:=fun e=>by
 obtain⟨es,c,j⟩:=h.mb;unfold blk at d;rw[e,j.heap]at d;cases d
theorem LoM.ty {R:List kN}{V:List Int}{c:Int}(h:LoM w g R V c)(d:blk w k E cs)(u:E≠200):k∉lrB R:=fun J=>by
 obtain⟨i,r,M,e⟩:=h.in J;obtain⟨j,I⟩:=h.cur M e;unfold blk at d;rw[I]at d;simp only[Option.some.injEq,Obj.cells.injEq]at d;exact u d.2.1.symm
section
variable {w w':World}{R:RpB}{i:Nat}{l:PL}{W:HM}{Rw:List kN}{c:Int}{L:List (List Int)}
theorem RpM.below (h:RpM w R i l W Rw c L)(d:Below w.heap.size w w'):RpM w' R i l W Rw c L :=
 {h with b:=ac d h.b h.b.lt,pm:=h.pm.below d,g:=h.g.below d,h:=h.h.below d,e:=h.e.below d}
theorem RpM.lt (h:RpM w R i l W Rw c L):∀k∈RpF R Rw,k<w.heap.size:=fun k d=>by
 rcases gD.1 d with d|rfl|d|rfl|rfl
 ·exact h.pm.lt k (LB.wl k d)
 ·exact h.g.b.lt
 ·exact h.g.lt k (List.mem_cons_of_mem _ d)
 ·exact h.h.lt.2
 ·exact h.e.b.lt
theorem RpM.ml (h:RpM w R i l W Rw c L):R.m∉lrB Rw:=fun I=>by
 obtain⟨j,r,M,e⟩:=h.g.in I;obtain⟨u,d⟩:=h.g.cur M e;obtain⟨es,O,J⟩:=h.h.mb;rw[J.heap]at d;cases d
theorem RpM.out (h:RpM w R i l W Rw c L)(j:blk w k E cs)(u:E≠200)(I:E≠139)(J:E≠145)(M:k∉R.q.l):k∉RpF R Rw:=fun d=>by
 rcases gD.1 d with d|rfl|d|rfl|rfl
 ·exact M (LB.wl k d)
 ·exact absurd rfl (j.ne h.g.b I)
 ·exact h.g.ty j u d
 ·exact h.h.mb' j rfl
 ·exact absurd rfl (j.ne h.e.b J)
theorem RpM.wq (h:RpM w R i l W Rw c L)(j:k∉R.q.l):k∉R.q.wv:=fun d=>j (LB.wl k d)
theorem RpM.setH {W':HM}(h:RpM w R i l W Rw c L)(j:Ch [R.m] w w')(u:HoM w' R.h R.m W'):RpM w' R i l W' Rw c L :=
 have n:∀k,k≠R.m→k∉[R.m]:=fun k d u=>d (List.mem_singleton.1 u)
 {h with
  b:=h.b.ch j (n _ (h.h.mb' h.b))
  pm:=h.pm.ch j fun k d=>n k fun e=>h.mq (e ▸ d)
  g:=h.g.ch j fun k d=>n k fun e=>(List.mem_cons.1 d).elim (fun e' => h.h.mb' h.g.b (e'.symm.trans e)) fun d=>h.ml (e ▸ d)
  h:=u
  e:=h.e.ch j (n _ (h.h.mb' h.e.b))}
theorem RpM.setE {L':List (List Int)}(h:RpM w R i l W Rw c L)(j:Ch [R.e] w w')(u:GoM w' R.e L'):RpM w' R i l W Rw c L' :=
 have n:∀k,k≠R.e→k∉[R.e]:=fun k d u=>d (List.mem_singleton.1 u)
 {h with
  b:=h.b.ch j (n _ (h.b.ne h.e.b (by decide)))
  pm:=h.pm.ch j fun k d=>n k fun e=>h.eq (e ▸ d)
  g:=h.g.ch j fun k d=>n k fun e=>(List.mem_cons.1 d).elim (fun e' => h.g.b.ne h.e.b (by decide) (e'.symm.trans e)) fun d=>h.g.ty h.e.b (by decide) (e ▸ d)
  h:=h.h.ch j (n _ (h.h.b.ne h.e.b (by decide))) (n _ (h.h.mb' h.e.b).symm)
  e:=u}
theorem RpM.sub1 (h:RpM w R i l W Rw c L)(d:Ch [R.m] w w'):Ch (RpF R Rw) w w':=d.mono fun k j=>gD.2 (by rw[List.mem_singleton.1 j];simp)
end
theorem wG (h:K (.pointer (some ⟨b,o+0,none⟩)) w):af Tryz.prog 91 (.pointer (some ⟨b,o,none⟩)) 0 K w:=aK (by kernel_rfl) h
theorem uN (h:K (.pointer (some ⟨b,o+1,none⟩)) w):af Tryz.prog 91 (.pointer (some ⟨b,o,none⟩)) 1 K w:=aK (by kernel_rfl) h
theorem Ha (h:K (.pointer (some ⟨b,o+2,none⟩)) w):af Tryz.prog 91 (.pointer (some ⟨b,o,none⟩)) 2 K w:=aK (by kernel_rfl) h
theorem Db (h:K (.pointer (some ⟨b,o+3,none⟩)) w):af Tryz.prog 91 (.pointer (some ⟨b,o,none⟩)) 3 K w:=aK (by kernel_rfl) h
theorem LA (h:K (.pointer (some ⟨b,o+4,none⟩)) w):af Tryz.prog 91 (.pointer (some ⟨b,o,none⟩)) 4 K w:=aK (by kernel_rfl) h
theorem LD (h:K (.pointer (some ⟨b,o+5,none⟩)) w):af Tryz.prog 91 (.pointer (some ⟨b,o,none⟩)) 5 K w:=aK (by kernel_rfl) h
section
variable {w:World}{K:KV}{R:RpB}{i:Nat}{l:PL}{W:HM}{Rw:List kN}{c:Int}{L:List (List Int)}{e:EV}
theorem wy (h:K (.bool false) w):bin Tryz.prog .eql 26 cx cy (pB b) (.pointer none) K w :=
 jm (by unfold eqG eqGuard;rfl) (by kernel_rfl) h
theorem Ua (h:RpM w R i l W Rw c L)(d:K (.int .i64 (W.length:Nat)) w):call Tryz.prog 19 #[pB R.p] K w :=
 aj (goK func19) (yF (wy (aO (ai (Db (lK (v:=pB R.h) h.b rfl (US h.h d)))))))
theorem Sh (h:RpM w R i l W Rw c L)(hi:PI l)(hm:ey l.V e=true)(h0:np e l=0)(hc:c<1000000)(u:∀w' Rw',RpM w' R i (eff e l) W Rw' (c+1) L→Ch (RpF R Rw) w w'→(∀k∈lrB Rw',k∈lrB Rw∨w.heap.size≤k)→K (ci 0) w'):call Tryz.prog 81 #[pB R.p,evV e] K w:=by
 have al:dK e=true:=((vc hi).1 h0).may;obtain⟨az,ho⟩:=qe al;refine aj (goK func81) (AG (xj fun w1 e1 b1 s1=>?_));have h1:=h.below b1;refine aw (fun x=>blk x R.p 91 [iv (i:Nat),pB R.q.p,pB R.g,pB R.h,pB R.e,pB R.d]∧blk x w.heap.size 54 (evC e)) ⟨h1.b.drew,e1.drew⟩ ?_
 refine ab (fun x d _ u=>ai u) (ab (fun x d _ u=>uN u) (ab (v:=pB R.q.p) (fun x d _ u=>lK d.1 rfl u) (ab (fun x d _ u=>gB d.2 u) ?_)));have j:=h1.below (Below.refl _ w1).drew;refine Mn j.pm hi fun w2 p2 X=>?_;rw[h0];rw[show jL e l=eff e l by unfold jL;rw[if_pos h0]]at p2;have Z:∀k,k∉R.q.l→k∉R.q.wv:=fun k I=>h.wq I;have ag:=h.pm.lt
 have an:w.heap.size∉R.q.l:=fun M=>by have:=ag _ M;omega
 have z2:=j.b.ch X (Z _ h.pq);have e2:=e1.drew.ch X (Z _ an);have g2:=j.g.ch X fun k I=>Z _ (h.gq k I);have o2:=j.h.ch X (Z _ h.hq) (Z _ h.mq);have f2:=j.e.ch X (Z _ h.eq);refine aw (fun _=>True) trivial (bN (aq (by simp) ?_));refine aw (fun x=>blk x R.p 91 [iv (i:Nat),pB R.q.p,pB R.g,pB R.h,pB R.e,pB R.d]∧blk x w.heap.size 54 (evC e)) ⟨z2.drew,e2.drew⟩ ?_
 refine ab (fun x d _ u=>ai u) (ab (fun x d _ u=>Ha u) (ab (v:=pB R.g) (fun x d _ u=>lK d.1 rfl u) (ab (fun x d _ u=>gB d.2 u) ?_)));have ap:=g2.below (Below.refl _ w2).drew;have av:e.q<Rw.length:=by rw[g2.l6];exact az
 have hr:Rw[e.q]? = some Rw[e.q]:=List.getElem?_eq_getElem av;generalize Rw[e.q]=r at hr;have aS:=h.few r (List.mem_of_getElem? hr);have ar:=h.c0;refine PY ap hr hm (fun k I=>(hi.vb k I).1) ⟨ar,by omega⟩ (by omega) fun w3 a' ad g3 n3 c3=>?_;have hV:l.V.set e.q e.s=(eff e l).V:=by
  show _=l.V.set e.q (l.V.getD e.q 0+1);rw[(nB hm).1]
 rw[hV]at g3;have O:∀{k:Nat},k∉lrB Rw→k≠R.g→k∉R.g::lrB Rw:=fun h1 h2 M=>(List.mem_cons.1 M).elim h2 h1;have am:Ch R.q.wv w2 w2.drew:=Ch.of_below (Below.refl _ w2).drew;have a0:=X.size;have d1:w1.drew.heap.size=w1.heap.size:=rfl;have d2:w2.drew.heap.size=w2.heap.size:=rfl;have U:∀k∈lrB (Rw.set e.q ⟨a',ad,r.it++[(e,c)]⟩),k∈lrB Rw∨w2.heap.size≤k:=fun k I=>by
  obtain⟨r',J,e'⟩:=List.mem_filterMap.1 I;rcases List.mem_or_eq_of_mem_set J with J|rfl
  ·exact .inl (List.mem_filterMap.2 ⟨r',J,e'⟩)
  ·rcases n3 k e' with M|M
   ·exact .inl (List.mem_filterMap.2 ⟨r,List.mem_of_getElem? hr,M⟩)
   ·exact .inr M
 refine u w3 _ ⟨z2.drew.ch c3 (O (j.g.ty j.b (by decide)) (h.b.ne h.g.b (by decide))),p2.drew.ch c3 fun k I M=>h.gq k M I,g3,(o2.below (Below.refl _ w2).drew).ch c3 (O (j.g.ty j.h.b (by decide)) (h.h.b.ne h.g.b (by decide))) (O h.ml (h.h.mb' h.g.b).symm),(f2.below (Below.refl _ w2).drew).ch c3 (O (j.g.ty j.e.b (by decide)) (h.e.b.ne h.g.b (by decide))),h.pq,fun k I=>?_,h.hq,h.mq,h.eq,fun r' J=>?_,by omega⟩ ?_ fun k I=>(U k I).imp id fun M=>by omega
 ·rcases List.mem_cons.1 I with rfl|I
  ·exact h.gq _ (by simp)
  ·rcases U k I with M|M
   ·exact h.gq k (List.mem_cons_of_mem _ M)
   ·exact fun hq=>by have:=ag k hq;omega
 ·rcases List.mem_or_eq_of_mem_set J with J|rfl
  ·have:=h.few r' J;omega
  ·simp;omega
 ·have a1:Ch (RpF R Rw) w w1.drew:=Ch.of_below b1.drew;have a2:Ch (RpF R Rw) w w2:=a1.trans X fun x hx=>.inl (gD.2 (.inl hx));have a3:Ch (RpF R Rw) w w2.drew:=a2.trans am fun x hx=>.inl (gD.2 (.inl hx));exact a3.trans c3 fun x hx=>.inl (gD.2 ((List.mem_cons.1 hx).elim (fun h=>.inr (.inl h)) fun h=>.inr (.inr (.inl h))))
end
end
section
attribute [local irreducible] bin un conv call bY blt slc af fld aV idx lkp dO gY eSt rng nxt ent ext alc box bld bT ld sto aU dE mkS ifc pick rdy wts aI sti cond bp Gives ae fh fT cOp
open Go.RowKit
theorem Qu {i:Int}(h:A.length=54):((iO A i x).1).length=54:=by
 unfold iO;split
 ·rfl
 split
 ·rfl
 unfold rY;split
 ·rfl
 ·simp[h]
def BB (l:LG)(i:Nat)(x:ND):LG:={l with s:={l.s with nodes:=l.s.nodes.set i x} }
section
variable {w:World}{K:KV}{B p:Nat}{l:LG}
theorem Pb {x:ND}(d:LM w B p l)(Z:l.s.nodes[i]? = some x)(I:xs.length=54)(u:Opn w B 52 56 l.s.nodes.length l.s.nc g cs (l.s.nodes.flatMap ndE))(ha:l.s.na=some ⟨g,0,none⟩)(ho:o=i*56+2)(h:∀w',LM w' B p (BB l i {x with A:=xs})→Oth g w w'→K undef w'):sto Tryz.prog 50 (.pointer (some ⟨g,o,none⟩)) (.agg (xs.map iv).toArray) K w:=by
 have hi:i<l.s.nodes.length:=(List.getElem?_eq_some_iff.1 Z).1;have h1:(i+1)*56≤l.s.nodes.length*56:=Nat.mul_le_mul_right _ hi;have h2:l.s.nodes.length*56≤l.s.nc*56:=Nat.mul_le_mul_right _ u.nc;rw[Nat.succ_mul]at h1;have ad:=u.len;have O:=u.elem fC rfl Z;refine jP (n:=54) (vs:=xs.map iv) (by kernel_rfl) (by simp[I]) u.blk (by omega) (vA _) fun w' X U=>?_
 have e2:(cs.drop (i*56)).take 2=[u6 x.id,u6 x.par]:=by
  have:(cs.drop (i*56)).take 2=((cs.drop (i*56)).take 56).take 2:=by rw[List.take_take];rfl
  rw[this,O];rfl
 have e3:cs.take o++xs.map iv++cs.drop (o+54)=cs.take (i*56)++ndE {x with A:=xs}++cs.drop (i*56+56):=by
  rw[ho,List.take_add,e2,show i*56+2+54=i*56+56 by omega]
  have:ndE {x with A:=xs} = u6 x.id::u6 x.par::xs.map iv:=by
   unfold ndE;rw[Cy (x:={x with A:=xs}) I]
  rw[this];simp
 rw[e3]at X;have M:=u.set (x:={x with A:=xs}) fC rfl hi X;have hk:Keep yd B w w':=U.keep u.blk (by simp) u.lo;have j:(l.s.nodes.set i {x with A:=xs}).length=l.s.nodes.length:=List.length_set ..;refine h w' (d.nodes' (N:=l.s.nodes.set i {x with A:=xs}) (a:=l.s.na) (c:=l.s.nc) hk (by decide) (by decide) (by decide) (by decide) ?_ ?_ ?_) U
 ·rw[←Dy d.i6 d.l6 d.v6,j]
  have:(lgC l).set 18 (.slice l.s.na l.s.nodes.length l.s.nc)=lgC l:=by
   have:=d.cN
   obtain⟨J,he⟩:=List.getElem?_eq_some_iff.1 this
   conv=>lhs;rw[←he]
   exact List.set_getElem_self J
  rw[this];exact U.blk d.cl (fun J=>d.cl.ne u.blk (by decide) J)
 ·rw[j,ha];exact Opn.own M
 ·intro y hy;rcases List.mem_or_eq_of_mem_set hy with J|J
  ·exact d.A54 y J
  ·rw[J];exact I
end
structure SL (l l':LG):Prop where
 T:l'.T=l.T
 G:l'.G=l.G
 R:l'.R=l.R
 V:l'.s.V=l.s.V
 ids:l'.s.nodes.map (·.id)=l.s.nodes.map (·.id)
end
section
open Go.RowKit
theorem LM.grants' {l:LG}{Ts:List TypeId}{G:List GR}(h:LM w B p l)(u:Keep Ts B w w')(M:52∉Ts)(O:188∉Ts)(U:277∉Ts)(X:31∉Ts)(d:blk w' p 123 (lgC {l with s:={l.s with gv:=.slice a G.length c},G:=G,ga:=a,gc:=c}))(j:w'.ownsRow B 126 5 (.slice a G.length c) G.length (G.flatMap grC)):LM w' B p {l with s:={l.s with gv:=.slice a G.length c},G:=G,ga:=a,gc:=c} :=
 {h with
  cl:=d
  gv:=rfl
  nd:=ff h.nd u M
  gr:=j
  tm:=h.tm.keep u O U
  rq:=fun k I => (h.rq k I).imp fun a=>Exists.imp fun c J=>⟨J.1,ff J.2 u X⟩}
theorem Bu {L:List α}{x d:α}(u:j<L.length):(L.set j x).getD k d=if j=k then x else L.getD k d:=by
 rw[List.getD_eq_getElem?_getD,List.getElem?_set,List.getD_eq_getElem?_getD];by_cases h:j=k
 ·subst h;simp[u]
 ·simp[h]
theorem LM.req' {l:LG}(h:LM w B p l)(hj:j<6)(hq:l.q[j]? = some (.slice a (l.R.getD j []).length c))(hg:w.grownBy w' (Value.slice a (l.R.getD j []).length c).ownBlock)(hr:w'.ownsRow B 31 1 (.slice av ((l.R.getD j []).length+1) n) ((l.R.getD j []).length+1) ((l.R.getD j []++[x]).flatMap uC))(a3:(Value.slice av ((l.R.getD j []).length+1) n).ownBlock=(Value.slice a (l.R.getD j []).length c).ownBlock∨(Value.slice av ((l.R.getD j []).length+1) n).ownBlock=some w.heap.size)(ar:blk w0 p 123 ((lgC l).set (21+j) (.slice av ((l.R.getD j []).length+1) n)))(o:Oth p w' w0):LM w0 B p {l with q:=l.q.set j (.slice av ((l.R.getD j []).length+1) n),R:=l.R.set j (l.R.getD j []++[x])}:=by
 obtain⟨a0,c0,am,O⟩:=h.rq j hj;rw[hq]at am;cases am;have u:blk w' p 123 (lgC l):=fL h.cl O (by decide) hg;have an:∀k,(l.q.set j (.slice av ((l.R.getD j []).length+1) n))[k]? = if j=k then some (.slice av ((l.R.getD j []).length+1) n)else l.q[k]? := by
  intro k;rw[List.getElem?_set];by_cases d:j=k
  ·subst d;simp[h.q6,hj]
  ·simp[d]
 have al:∀(k:Nat) (v:Value) (b:Nat),l.q[k]? = some v→v.ownBlock=some b→b<w.heap.size:=by
  intro k v b I J;have aS:k<6:=by rw[←h.q6];exact(List.getElem?_eq_some_iff.1 I).1
  obtain⟨a2,c2,M,X⟩:=h.rq k aS;rw[I]at M;cases M;exact(World.ownsRow.lt X b J).2
 have Z:∀(k:Nat) (v:Value) (b:Nat),j≠k→l.q[k]? = some v→v.ownBlock=some b→(Value.slice av ((l.R.getD j []).length+1) n).ownBlock≠some b:=by
  intro k v b d I J U;rcases a3 with h1|h1
  ·rw[h1]at U;exact h.ne j k _ _ b d hq I U J
  ·rw[h1]at U;cases U
   have:=al k v _ I J
   omega
 exact {
  i6:=h.i6
  l6:=h.l6
  v6:=h.v6
  q6:=by show (l.q.set _ _).length=6;rw[List.length_set];exact h.q6
  r6:=by show (l.R.set _ _).length=6;rw[List.length_set];exact h.r6
  A54:=h.A54
  cl:=by rw[←LX h.i6 h.l6 h.v6 (l:={l with R:=l.R.set j (l.R.getD j []++[x])})];exact ar
  lo:=h.lo
  gv:=h.gv
  nd:=eZ (sR h.nd O (by decide) hg) u (by decide) o
  gr:=eZ (sR h.gr O (by decide) hg) u (by decide) o
  tm:=by
   obtain⟨ta,tc,tb,tr⟩:=h.tm.row;have ap:=fL tb O (by decide) hg;exact⟨⟨ta,tc,o.blk ap (fun U=>ap.ne u (by decide) U),eZ (sR tr O (by decide) hg) u (by decide) o⟩,h.tm.lo⟩
  rq:=fun k I=>by
   show ∃a c,(l.q.set j _)[k]? = some (.slice a ((l.R.set j _).getD k []).length c)∧_;rw[an,Bu (by rw[h.r6];exact hj)];by_cases d:j=k
   ·subst d;rw[if_pos rfl,if_pos rfl];have ag:(l.R.getD j []++[x]).length=(l.R.getD j []).length+1:=by simp
    rw[ag];exact⟨av,n,rfl,eZ hr u (by decide) o⟩
   ·rw[if_neg d,if_neg d];obtain⟨a2,c2,M,X⟩:=h.rq k I;refine⟨a2,c2,M,eZ (cJ X fun b J=>hg.block b (World.ownsRow.lt X b J).2 (fun U=>?_)) u (by decide) o⟩;exact h.ne j k _ _ b d hq M U.symm J
  ne:=fun i k v v' b az hi I J=>by
   replace hi:(l.q.set j _)[i]? = some v:=hi
   replace I:(l.q.set j _)[k]? = some v':=I
   rw[an]at hi I;by_cases ad:j=i
   ·rw[if_pos ad]at hi;cases hi;by_cases d:j=k
    ·omega
    ·rw[if_neg d]at I;intro U;exact Z k v' b d I U J
   ·rw[if_neg ad]at hi;by_cases d:j=k
    ·rw[if_pos d]at I;cases I;exact Z i v b ad hi J
    ·rw[if_neg d]at I;exact h.ne i k v v' b az hi I J}
end
section
attribute [local irreducible] bin un conv call bY blt slc af fld aV idx lkp dO gY eSt rng nxt ent ext alc box bld bT ld sto aU dE mkS ifc pick rdy wts aI sti cond bp Gives ae fh fT cOp
open Go.RowKit
abbrev Ew :List TypeId:=[123,126]
theorem LM.gn {l:LG}(h:LM w B p l):∀k,(Value.slice l.ga l.G.length l.gc).ownBlock=some k→k<w.heap.size:=fun k d=>(World.ownsRow.lt h.gr k d).2
theorem Ps {i:Int}(h:A.length=54):((iH A i x).1).length=54:=by
 unfold iH;split
 ·rfl
 split
 ·rfl
 ·simp[h]
def SI (l:LG)(i:Nat)(x:GR):LG:={l with s:={l.s with gv:=.slice l.ga (l.G.set i x).length l.gc},G:=l.G.set i x}
section
variable {w:World}{K:KV}{B p:Nat}{l:LG}
theorem Wo {x:GR}(j:LM w B p l)(O:l.G[i]? = some x)(u:Opn w B 126 5 l.G.length l.gc g cs (l.G.flatMap grC))(X:l.ga=some ⟨g,0,none⟩)(ho:o=i*5+4)(h:∀w',LM w' B p (SI l i {x with b:=r})→Oth g w w'→K undef w'):sto Tryz.prog 31 (.pointer (some ⟨g,o,none⟩)) (u6 r) K w:=by
 have hi:i<l.G.length:=(List.getElem?_eq_some_iff.1 O).1;have U:(i+1)*5≤l.G.length*5:=Nat.mul_le_mul_right _ hi;have h2:l.G.length*5≤l.gc*5:=Nat.mul_le_mul_right _ u.nc;rw[Nat.succ_mul]at U;have ad:=u.len;subst ho;refine eB (fun _=>by kernel_rfl) u.blk (by omega) rfl fun w' Z M=>?_;have I:=u.set1 (x':={x with b:=r}) (v:=u6 r) iI rfl O (show 4<5 by omega) rfl Z
 have hk:Keep Ew B w w':=M.keep u.blk (by simp) u.lo;have d:(l.G.set i {x with b:=r}).length=l.G.length:=List.length_set ..;refine h w' (j.grants' (G:=l.G.set i {x with b:=r}) (a:=l.ga) (c:=l.gc) hk (by decide) (by decide) (by decide) (by decide) ?_ ?_) M
 ·rw[←Hs j.i6 j.l6 j.v6,d]
  have:(lgC l).set 19 (.slice l.ga l.G.length l.gc)=lgC l:=by
   have:=j.cG
   obtain⟨J,he⟩:=List.getElem?_eq_some_iff.1 this
   conv=>lhs;rw[←he]
   exact List.set_getElem_self J
  rw[this];exact M.blk j.cl (fun J=>j.cl.ne u.blk (by decide) J)
 ·rw[d,X];exact Opn.own I
end
theorem Vj {e:EV}(h:dK e=true):0≤e.a∧e.a≤1125899906842624:=by
 unfold dK at h;simp only[Bool.and_eq_true,decide_eq_true_eq]at h;obtain⟨_,_,_,_,_,M,d⟩:=h;unfold fdE at d;have j : ¬(e.k=1∨e.k=2∨e.k=3∨e.k=5)→e.a=0:=fun O=>by
  have:=congrArg EV.a M
  unfold pn at this;simp only at this;rw[if_neg O]at this;exact this
 by_cases u:e.k=1
 ·rw[if_pos u]at d;simp only[Bool.and_eq_true,decide_eq_true_eq]at d;omega
 rw[if_neg u]at d;by_cases I:e.k=2
 ·rw[if_pos I]at d;unfold smE at d;simp only[Bool.and_eq_true,decide_eq_true_eq]at d;omega
 rw[if_neg I]at d;by_cases J:e.k=3
 ·rw[if_pos J]at d;unfold smE at d;simp only[Bool.and_eq_true,decide_eq_true_eq]at d;omega
 rw[if_neg J]at d;by_cases U:e.k=4
 ·have:=j (by omega);omega
 rw[if_neg U]at d;by_cases X:e.k=5
 ·rw[if_pos X]at d;unfold smE at d;simp only[Bool.and_eq_true,decide_eq_true_eq]at d;omega
 ·have:=j (by omega);omega
theorem Vk {e:EV}(h:dK e=true)(j:e.k=6):1≤e.t∧e.t≤6:=by
 unfold dK at h;simp only[Bool.and_eq_true,decide_eq_true_eq]at h;obtain⟨_,_,_,_,_,u,d⟩:=h;unfold fdE at d;rw[if_neg (by omega),if_neg (by omega),if_neg (by omega),if_neg (by omega),if_neg (by omega),if_pos j]at d;unfold otE bK at d;simp only[Bool.and_eq_true,decide_eq_true_eq]at d;exact d.1
theorem PU {i j:Int}(h:A.length=54):((kQ A i j x).1).length=54:=by
 unfold kQ;split
 ·rfl
 split
 ·rfl
 split
 ·rfl
 split
 ·rfl
 unfold rY;split
 ·rfl
 ·simp[h]
section
variable {w:World}{K:KV}{B p:Nat}{l:LG}
theorem LM.setI {b:Bool}(h:LM w B p l)(M:k<6)(j:blk w' p 123 ((lgC l).set k (.bool b)))(o:Oth p w w'):LM w' B p {l with s:={l.s with I:=l.s.I.set k b} } :=
 have d:Keep [123] B w w':=o.keep h.cl (by simp) h.lo
 {h with
  i6:=by show (l.s.I.set k b).length=6;rw[List.length_set];exact h.i6
  cl:=by rw[←LW h.i6 h.l6 h.v6 M];exact j
  nd:=ff h.nd d (by decide)
  gr:=ff h.gr d (by decide)
  tm:=h.tm.keep d (by decide) (by decide)
  rq:=fun k u => (h.rq k u).imp fun a=>Exists.imp fun c J=>⟨J.1,ff J.2 d (by decide)⟩}
theorem LM.setL {b:Bool}(h:LM w B p l)(J:k<6)(j:blk w' p 123 ((lgC l).set (6+k) (.bool b)))(o:Oth p w w'):LM w' B p {l with s:={l.s with L:=l.s.L.set k b} } :=
 have d:Keep [123] B w w':=o.keep h.cl (by simp) h.lo
 {h with
  l6:=by show (l.s.L.set k b).length=6;rw[List.length_set];exact h.l6
  cl:=by rw[←RD h.i6 h.l6 h.v6 J];exact j
  nd:=ff h.nd d (by decide)
  gr:=ff h.gr d (by decide)
  tm:=h.tm.keep d (by decide) (by decide)
  rq:=fun k u => (h.rq k u).imp fun a=>Exists.imp fun c I=>⟨I.1,ff I.2 d (by decide)⟩}
theorem LM.setV (h:LM w B p l)(J:k<6)(j:blk w' p 123 ((lgC l).set (12+k) (u6 x)))(o:Oth p w w'):LM w' B p {l with s:={l.s with V:=l.s.V.set k x} } :=
 have d:Keep [123] B w w':=o.keep h.cl (by simp) h.lo
 {h with
  v6:=by show (l.s.V.set k x).length=6;rw[List.length_set];exact h.v6
  cl:=by rw[←RE h.i6 h.l6 h.v6 J];exact j
  nd:=ff h.nd d (by decide)
  gr:=ff h.gr d (by decide)
  tm:=h.tm.keep d (by decide) (by decide)
  rq:=fun k u => (h.rq k u).imp fun a=>Exists.imp fun c I=>⟨I.1,ff I.2 d (by decide)⟩}
theorem Wp {q:Nat}{x:ND}(d:LM w B p l)(O:l.s.nodes[i]? = some x)(hq:q<54)(I:Opn w B 52 56 l.s.nodes.length l.s.nc g cs (l.s.nodes.flatMap ndE))(Z:l.s.na=some ⟨g,0,none⟩)(ho:o=i*56+(2+q))(h:∀w',LM w' B p (BB l i {x with A:=x.A.set q v})→Oth g w w'→K undef w'):sto Tryz.prog 2 (.pointer (some ⟨g,o,none⟩)) (iv v) K w:=by
 have hi:i<l.s.nodes.length:=(List.getElem?_eq_some_iff.1 O).1;have X:(i+1)*56≤l.s.nodes.length*56:=Nat.mul_le_mul_right _ hi;have h2:l.s.nodes.length*56≤l.s.nc*56:=Nat.mul_le_mul_right _ I.nc;rw[Nat.succ_mul]at X;have ad:=I.len;have M:=d.A54 x (List.mem_of_getElem? O);subst ho;refine eB (fun _=>by kernel_rfl) I.blk (by omega) rfl fun w' hb U=>?_
 have J:=I.set1 (x':={x with A:=x.A.set q v}) fC rfl O (show 2+q<56 by omega) (NQ M hq v) hb;have hk:Keep yd B w w':=U.keep I.blk (by simp) I.lo;have j:(l.s.nodes.set i {x with A:=x.A.set q v}).length=l.s.nodes.length:=List.length_set ..
 refine h w' (d.nodes' (N:=l.s.nodes.set i {x with A:=x.A.set q v}) (a:=l.s.na) (c:=l.s.nc) hk (by decide) (by decide) (by decide) (by decide) ?_ ?_ ?_) U
 ·rw[←Dy d.i6 d.l6 d.v6,j]
  have:(lgC l).set 18 (.slice l.s.na l.s.nodes.length l.s.nc)=lgC l:=by
   have:=d.cN
   obtain⟨u,he⟩:=List.getElem?_eq_some_iff.1 this
   conv=>lhs;rw[←he]
   exact List.set_getElem_self u
  rw[this];exact U.blk d.cl (fun u=>d.cl.ne I.blk (by decide) u)
 ·rw[j,Z];exact Opn.own J
 ·intro y hy;rcases List.mem_or_eq_of_mem_set hy with u|u
  ·exact d.A54 y u
  ·rw[u];show (x.A.set q v).length=54;rw[List.length_set];exact M
end
def sV (V:List Int):Nat:=(V.getD 0 0+V.getD 1 0+V.getD 2 0+V.getD 3 0+V.getD 4 0+V.getD 5 0).toNat
theorem Vy {V:List Int}(h:V.length=6)(j:∀k,k<6→0≤V.getD k 0)(u:k<6):sV (V.set k (V.getD k 0+1))=sV V+1:=by
 obtain⟨a,b,c,d,e,f,rfl⟩:=rU h;have I:=j 0 (by omega);have J:=j 1 (by omega);have M:=j 2 (by omega);have O:=j 3 (by omega);have U:=j 4 (by omega);have X:=j 5 (by omega);simp only[List.getD_cons_zero,List.getD_cons_succ]at I J M O U X
 match k,u with
 | 0,_=>simp[sV];omega
 | 1,_=>simp[sV];omega
 | 2,_=>simp[sV];omega
 | 3,_=>simp[sV];omega
 | 4,_=>simp[sV];omega
 | 5,_=>simp[sV];omega
end
section
def toP (l:LG):PL:=⟨l.s.I,l.s.L,l.s.V,l.s.nodes,l.G,l.R⟩
structure XI (l:LG) (m:Nat):Prop where
 pi:PI (toP l)
 t:l.T=tr l.s.nodes
 gn:l.G.length≤m
 rn:∀k,k<6→(l.R.getD k []).length≤m
def su (e:EV)(s:PL):PL:=⟨nO e s.I,nP e s.L,s.V,(nop e s).ap s.N,(gop e).ap s.G,kZ e s.R⟩
section
variable {N:List ND}{G:List GR}{x:ND}{k:Nat}
theorem PI.n30 {s:PL}(h:PI s):s.N.length≤30:=by
 rw[JE fun x I=>by
  obtain⟨o,q,a1,d,j,u,a5,_⟩:=h.ids x I;exact⟨o,q,a1,d,j,u,a5⟩]
 have J:=h.own 1;have M:=h.own 2;have O:=h.own 3;have U:=h.own 4;have X:=h.own 5;have Z:=h.own 6;omega
theorem XI.n30 {l:LG}(h:XI l m):l.s.nodes.length≤30:=h.pi.n30
theorem XI.tk {l:LG}(h:XI l m):∃rk,TK l.T rk:=by rw[h.t];exact h.pi.tk
theorem XI.tl {l:LG}(h:XI l m):l.T.length≤30:=by rw[h.t];unfold tr;rw[List.length_map];exact h.n30
theorem PC :∀{N:List ND} {k:Nat},k≤N.length→(∀j y,j<k→N[j]? = some y→¬x.id<y.id)→(∀y,N[k]? = some y→x.id<y.id)→dN x N=fl N k x
 | [],k,hk,_,_=>by
  have:k=0:=by simpa using hk
  subst this;rfl
 | y::N,0,_,_,h=>by
  unfold dN;rw[if_pos (h y rfl)];rfl
 | y::N,k+1,hk,lo,h=>by
  unfold dN;rw[if_neg (lo 0 y (by omega) rfl),PC (N:=N) (k:=k) (by simpa using hk) (fun j z u d=>lo (j+1) z (by omega) (by simpa using d)) (fun z d=>h z (by simpa using d))];rfl
theorem PB {x:GR}:∀{N:List GR} {k:Nat},k≤N.length→(∀j y,j<k→N[j]? = some y→¬ltG x y)→(∀y,N[k]? = some y→ltG x y)→iS x N=fl N k x
 | [],k,hk,_,_=>by
  have:k=0:=by simpa using hk
  subst this;rfl
 | y::N,0,_,_,h=>by
  unfold iS;rw[if_pos (h y rfl)];rfl
 | y::N,k+1,hk,lo,h=>by
  unfold iS;rw[if_neg (lo 0 y (by omega) rfl),PB (N:=N) (k:=k) (by simpa using hk) (fun j z u d=>lo (j+1) z (by omega) (by simpa using d)) (fun z d=>h z (by simpa using d))];rfl
theorem DP {R:α→α→Prop}{L:List α}(h:L.Pairwise R){a b:α}(hi:L[i]? = some a)(J:L[j]? = some b)(d:i<j):R a b:=by
 obtain⟨u,rfl⟩:=List.getElem?_eq_some_iff.1 hi;obtain⟨I,rfl⟩:=List.getElem?_eq_some_iff.1 J;exact List.pairwise_iff_getElem.1 h i j u I d
theorem LP (O:N.Pairwise (·.id < ·.id))(M:k≤N.length)(lo:∀y,0<k→N[k-1]? = some y→¬x.id<y.id)(hi:∀y,N[k]? = some y→x.id<y.id):dN x N=fl N k x:=by
 refine PC M (fun j y U I u=>?_) hi;have J:k-1<N.length:=by omega
 have d:N[k-1]? = some N[k-1]:=List.getElem?_eq_getElem J;refine lo _ (by omega) d ?_;by_cases h:j=k-1
 ·subst h;rw[d]at I;cases I;exact u
 ·have:=DP O I d (by omega);omega
theorem Rv {x:GR}(O:G.Pairwise ltG)(M:k≤G.length)(lo:∀y,0<k→G[k-1]? = some y→¬ltG x y)(hi:∀y,G[k]? = some y→ltG x y):iS x G=fl G k x:=by
 refine PB M (fun j y U I d=>?_) hi;have J:k-1<G.length:=by omega
 have h:G[k-1]? = some G[k-1]:=List.getElem?_eq_getElem J;refine lo _ (by omega) h ?_;by_cases u:j=k-1
 ·subst u;rw[h]at I;cases I;exact d
 ·exact Mc d (DP O I h (by omega))
theorem NH {α:Type}{f:α→Bool}{L:List α}:∀k,k≤L.length→(∀y,0<oG f L k→L[oG f L k-1]? = some y→f y=false)∧(∀j y,oG f L k≤j→j<k→L[j]? = some y→f y=true)
 | 0,_=>⟨fun y h=>absurd h (by simp[oG]),fun j y _ h=>absurd h (by omega)⟩
 | k+1,hk=>by
  have d:L[k]? = some L[k]:=List.getElem?_eq_getElem (by omega);generalize L[k]=x at d;unfold oG;rw[d];simp only;cases M:f x with
  | true =>
   rw[if_pos rfl];have h:=NH (f:=f) (L:=L) k (by omega);refine⟨h.1,fun j y I J u=>?_⟩;by_cases O:j=k
   ·subst O;rw[d]at u;cases u;exact M
   ·exact h.2 j y I (by omega) u
  | false =>
   rw[if_neg (by simp)];refine⟨fun y _ h=>?_,fun j y I J=>absurd J (by omega)⟩;rw[Nat.add_sub_cancel,d]at h;cases h;exact M
theorem SM :(tr N)[j]? = (N[j]?).map fun x=>(x.id,x.par):=by unfold tr;rw[List.getElem?_map]
theorem Uk (J:N.Pairwise (·.id < ·.id)):fl (tr N) (oG (fun y=>decide (x.id<y.1)) (tr N) (tr N).length) (x.id,x.par)=tr (dN x N):=by
 have I:(tr N).length=N.length:=by unfold tr;rw[List.length_map]
 have h:=NH (f:=fun y:Int×Int=>decide (x.id<y.1)) (L:=tr N) (tr N).length (Nat.le_refl _);have d:=NI (f:=fun y:Int×Int=>decide (x.id<y.1)) (L:=tr N) (tr N).length;generalize oG (fun y:Int×Int=>decide (x.id<y.1)) (tr N) (tr N).length=k at h d;rw[I]at h d;rw[LP (k:=k) J d (fun y u j=>by
  have:=h.1 (y.id,y.par) u (by rw[SM,j];rfl)
  simpa using this) (fun y j=>by
  have:=h.2 k (y.id,y.par) (Nat.le_refl _) (List.getElem?_eq_some_iff.1 j).1 (by rw[SM,j];rfl)
  simpa using this)]
 unfold fl tr;rw[List.map_append,List.map_cons,List.map_take,List.map_drop]
theorem Gc {id:Int}(h:bU N id=true):∃x,N[posN N id]? = some x∧posN N id<N.length∧x.id=id:=by
 obtain⟨y,u,e⟩:=mF.1 h;have d:posN N id<N.length:=by
  unfold posN;exact List.findIdx_lt_length_of_exists ⟨y,u,by simp[e]⟩
 refine⟨_,List.getElem?_eq_getElem d,d,?_⟩;have j:=List.findIdx_getElem (p:=fun x:ND=>x.id==id) (w:=d);exact eq_of_beq j
theorem Pr {id:Int}(h:bU N id=false):fdN N id = -1:=by
 unfold fdN;rw[if_neg];refine Kz fun j y d e=>?_
 have:bU N id=true:=mF.2 ⟨y,List.mem_of_getElem? d,e⟩
 rw[h]at this;cases this
theorem GL :N.map (dR [] c v)=N:=by
 conv=>rhs;rw[←List.map_id N]
 exact List.map_congr_left fun y _=>qw (by simp)
theorem Lm {ids:List Int}(X:N.Pairwise (·.id < ·.id))(u:(N.map (dR ids c v))[i]? = some x)(hn:x.id∉ids):N[i]? = some x∧(N.map (dR ids c v)).set i {x with A:=x.A.set c (nA x.A c+v)} = N.map (dR (ids++[x.id]) c v):=by
 rw[List.getElem?_map]at u;cases I:N[i]? with
 | none=>rw[I]at u;cases u
 | some y =>
  rw[I]at u;simp only[Option.map_some,Option.some.injEq]at u;have M:x.id=y.id:=by rw[←u];exact(gV y).1
  have U:x=y:=by rw[←u];exact qw (by rw[←M];exact hn)
  subst U;refine⟨rfl,List.ext_getElem? fun j=>?_⟩;rw[List.getElem?_set,List.getElem?_map,List.getElem?_map];by_cases d:i=j
  ·subst d
   have:=(List.getElem?_eq_some_iff.1 I).1
   rw[if_pos rfl,List.length_map,if_pos this,I];simp only[Option.map_some];rw[sr (by simp)]
  ·rw[if_neg d];cases Z:N[j]? with
   | none=>rfl
   | some z =>
    simp only[Option.map_some,Option.some.injEq];have O:z.id≠x.id:=by
     rcases Nat.lt_or_gt_of_ne d with h|h
     ·have:=DP X I Z h;omega
     ·have:=DP X Z I h;omega
    by_cases J:z.id∈ids
    ·rw[sr J,sr (by simp[J])]
    ·rw[qw J,qw (by simp[J,O])]
theorem To {o q:Int}{g:GR}(h:G[k]? = some g)(u:g.o=o)(I:g.q=q)(M:∀j y,j<k→G[j]? = some y→¬(y.o=o∧y.q=q)):iQ G o q=some g:=by
 unfold iQ;rw[List.find?_eq_some_iff_getElem];obtain⟨U,rfl⟩:=List.getElem?_eq_some_iff.1 h;refine⟨by simp[u,I],k,U,rfl,fun j O=>?_⟩
 have:=M j _ O (List.getElem?_eq_getElem (by omega))
 simp only[Bool.not_eq_true',Bool.and_eq_false_iff,beq_eq_false_iff_ne];by_cases d:(G[j]'(by omega)).o=o
 ·exact .inr fun J=>this ⟨d,J⟩
 ·exact .inl d
theorem Pv {o q:Int}(d:∀(j:Nat) y,G[j]? = some y→¬(y.o=o∧y.q=q)):iQ G o q=none:=by
 unfold iQ;rw[List.find?_eq_none];intro y u;obtain⟨j,h⟩:=List.getElem?_of_mem u
 have:=d j y h
 simp only[Bool.and_eq_true,beq_iff_eq];exact this
theorem So {g:GR}{b:Int}(J:G.Pairwise ltG)(u:G[k]? = some g):G.set k {g with b:=b} = G.map (nD g.o g.q b):=by
 refine List.ext_getElem? fun j=>?_;rw[List.getElem?_set,List.getElem?_map];by_cases d:k=j
 ·subst d
  have:=(List.getElem?_eq_some_iff.1 u).1
  rw[if_pos rfl,if_pos this,u];simp[nD]
 ·rw[if_neg d];cases M:G[j]? with
  | none=>rfl
  | some z =>
   simp only[Option.map_some,Option.some.injEq];have I : ¬(z.o=g.o∧z.q=g.q):=by
    rcases Nat.lt_or_gt_of_ne d with h|h
    ·have:=DP J u M h;unfold ltG at this;omega
    ·have:=DP J M u h;unfold ltG at this;omega
   unfold nD;rw[if_neg I]
theorem HE {id:Int}:(di N id).length=0↔bU N id=false:=by
 cases h:bU N id with
 | true=>obtain⟨l,d⟩:=OF h;rw[d];simp
 | false =>
  unfold di dh cB;rw[if_neg (by rw[kh,h];simp)];simp
theorem Mp {id:Int}(d:∃rk,TK (tr N) rk):(di N id).Nodup:=by
 obtain⟨rk,d⟩:=d
 have:=yY d ((tr N).length+1) id
 unfold di dh;refine this.imp fun h e=>?_;rw[e]at h;omega
theorem Ml {o:Int}{y:ND}(d:N[k]? = some y):gP (N.take (k+1)) o=gP (N.take k) o+if y.id / M40=o then 1 else 0:=by
 unfold gP;rw[List.take_add_one,d,Option.toList_some,List.filter_append,List.length_append]
 congr 1
 by_cases h:y.id / M40=o
 ·rw[if_pos h];simp[h]
 ·rw[if_neg h];simp[h]
end
end
section
attribute [local irreducible] bin un conv call bY blt slc af fld aV idx lkp dO gY eSt rng nxt ent ext alc box bld bT ld sto aU dE mkS ifc pick rdy wts aI sti cond bp Gives ae fh fT cOp
open Go.RowKit
theorem XI.eq {l l':LG}(h:XI l m)(e:toP l'=toP l)(I:l'.T=l.T):XI l' m:=by
 have d:l'.G=l.G:=congrArg PL.G e;have j:l'.R=l.R:=congrArg PL.R e;have u:l'.s.nodes=l.s.nodes:=congrArg PL.N e;exact⟨e ▸ h.pi,by rw[I,u];exact h.t,by rw[d];exact h.gn,by rw[j];exact h.rn⟩
section
variable {w:World}{K:KV}{B p:Nat}{l:LG}
theorem Sr {o q:Int}(I:LM w B p l)(hn:l.G.length≤1000000)(al:iQ l.G o q=none→K (.int .i64 (-1)) w)(h:∀(k:Nat) x,l.G[k]? = some x→iQ l.G o q=some x→K (.int .i64 (k:Nat)) w):call Tryz.prog 154 #[.pointer (some ⟨p,0,none⟩),.int .i64 o,.int .u64 q] K w:=by
 refine aj (goK func154) (yQ ?_);refine xE (Inv:=fun i _ _ _ _ _ _ _ _ _ _ _ wr=>∃k:Nat,i=.int .i64 (k:Nat)∧k≤l.G.length∧wr=w∧∀j y,j<k→l.G[j]? = some y→¬(y.o=o∧y.q=q)) (μ:=fun i _ _ _ _ _ _ _ _ _ _ _ _=>l.G.length-(intOf i).toNat) ⟨0,rfl,by omega,rfl,fun j y hj=>by omega⟩ ?_;rintro _ _ _ _ _ _ _ _ _ _ _ _ dd wr m ⟨k,rfl,hk,rfl,d⟩ hm
 refine ai <|bq <|fj <|lK (v:=.slice l.ga l.G.length l.gc) I.cl I.cG <|bj underlying43 <|aM ?_;by_cases ad:k<l.G.length
 ·refine ax (by omega) <|ai <|bq <|fj <|lK (v:=.slice l.ga l.G.length l.gc) I.cl I.cG ?_;have O:l.G[k]? = some l.G[k]:=List.getElem?_eq_getElem ad;generalize l.G[k]=x at O;have J : ¬(x.o=o∧x.q=q)→∀j y,j<k+1→l.G[j]? = some y→¬(y.o=o∧y.q=q):=fun ag j y hj U=>by
   by_cases Z:j=k
   ·subst Z;rw[O]at U;cases U;exact ag
   ·exact d j y (by omega) U
  refine rd3 (enc:=grC) (s:=5) (f':=0) (v:=iv x.o) underlying43 (fun _=>by kernel_rfl) iI (fun _=>by kernel_rfl) (by kernel_rfl) (by omega) I.gr rfl O rfl fun _ _=>?_;refine bg ?_;by_cases M:x.o=o
  ·refine dD M <|ai <|bq <|fj <|lK (v:=.slice l.ga l.G.length l.gc) I.cl I.cG ?_;refine rd3 (enc:=grC) (s:=5) (f':=1) (v:=u6 x.q) underlying43 (fun _=>by kernel_rfl) iI (fun _=>by kernel_rfl) (by kernel_rfl) (by omega) I.gr rfl O rfl fun _ _=>?_;refine bg <|bO M ?_;by_cases u:x.q=q
   ·exact ax u (h k x O (To O M u d))
   ·refine aq u <|aW (by omega) (by omega) ?_;exact⟨⟨k+1,ivS,by omega,rfl,J fun X=>u X.2⟩,by rw[hm];show l.G.length-((k:Int)+1).toNat<l.G.length-(k:Int).toNat;omega⟩
  ·refine dY M <|bw M <|aO <|aW (by omega) (by omega) ?_;exact⟨⟨k+1,ivS,by omega,rfl,J fun X=>M X.1⟩,by rw[hm];show l.G.length-((k:Int)+1).toNat<l.G.length-(k:Int).toNat;omega⟩
 ·refine aq (by omega) <|xF ?_;exact al (Pv fun j y U=>d j y (by have:=(List.getElem?_eq_some_iff.1 U).1;omega) U)
theorem MW {o q:Int}(M:LM w B p l)(ho:1≤o∧o≤6)(Z:∀k,k<6→(l.R.getD k []).length≤1000000)(h:K (.bool (jB l.R (o-1).toNat q)) w):call Tryz.prog 151 #[.pointer (some ⟨p,0,none⟩),.int .i64 o,.int .u64 q] K w:=by
 refine aj (goK func151) (yO ?_);obtain⟨j,hj⟩:∃j:Nat,j=(o-1).toNat:=⟨_,rfl⟩
 obtain⟨a,c,hq,hr⟩:=M.rq j (by omega);have Z:=Z j (by omega);have u:o-1=(j:Nat):=by omega
 unfold jB at h;rw[←hj]at h;generalize l.R.getD j []=rs at hr hq Z h;have I:(lgC l)[21+j]? = some (.slice a rs.length c):=M.cQ.trans hq;refine xw (Inv:=fun i wr=>∃k:Nat,i=.int .i64 (k:Nat)∧k≤rs.length∧wr=w∧∀j y,j<k→rs[j]? = some y→y≠q) (μ:=fun i _=>rs.length-(intOf i).toNat) ⟨0,rfl,by omega,rfl,fun j y hj=>by omega⟩ ?_;rintro _ dd wr m ⟨k,rfl,hk,rfl,d⟩ hm
 refine bh (by omega) (by omega) <|ai <|qS <|ixQ u (by omega) <|lK (v:=.slice a rs.length c) M.cl (by rw[Nat.zero_add];exact I) <|bj underlying120 <|aM ?_;by_cases X:k<rs.length
 ·refine ax (by omega) <|bh (by omega) (by omega) <|ai <|qS <|ixQ u (by omega) <|lK (v:=.slice a rs.length c) M.cl (by rw[Nat.zero_add];exact I) ?_;have O:rs[k]? = some rs[k]:=List.getElem?_eq_getElem X;generalize rs[k]=x at O;obtain⟨g,ad,rfl,op⟩:=cq hr (by omega);refine dJ underlying120 (s:=1) (fun _=>by kernel_rfl) (by omega) (by omega) ?_;refine lK (v:=u6 x) op.blk (by
   have:=op.cell (enc:=uC) (s:=1) (j:=0) (fun _=>rfl) rfl O (by omega)
   rw[Int.toNat_natCast,Nat.zero_add];exact this) ?_
  refine bg ?_;by_cases J:x=q
  ·refine ax J ?_;rw[show rs.contains q=true from by rw[List.contains_iff_mem, ←J];exact List.mem_of_getElem? O]at h;exact h
  ·refine aq J <|aW (by omega) (by omega) ?_;exact⟨⟨k+1,ivS,by omega,rfl,fun i y hi hy=>by
    by_cases U:i=k
    ·subst U;rw[O]at hy;cases hy;exact J
    ·exact d i y (by omega) hy⟩,by rw[hm];show rs.length-((k:Int)+1).toNat<rs.length-(k:Int).toNat;omega⟩
 ·refine aq (by omega) <|xy ?_;rw[show rs.contains q=false from by
   cases I:rs.contains q with
   | false=>rfl
   | true =>
    obtain⟨i,hi⟩:=List.getElem?_of_mem (List.contains_iff_mem.1 I);exact absurd rfl (d i q (by have:=(List.getElem?_eq_some_iff.1 hi).1;omega) hi)]at h
  exact h
theorem Ur (d:LM w B p l)(hg:XI l m)(hm:m≤100000)(h:∀w' p' l',LM w' w.heap.size p' l'→toP l'=toP l→l'.T=l.T→Below w.heap.size w w'→K (.pointer (some ⟨p',0,none⟩)) w'):call Tryz.prog 86 #[.pointer (some ⟨p,0,none⟩)] K w:=by
 refine aj (goK func86) (Aa ?_);have cs:=hg.n30;have cn:=hg.gn;have cD:=hg.tl;refine ai <|bq <|ldA (n:=20) (vs:=saC l.s) underlying45 rfl (by kernel_rfl) d.cl d.cutS d.sl <|eT (vs:=[my]) (by kernel_rfl) ?_;refine cv fun w1 ht b1 s1=>?_;have ht:blk w1 w.heap.size 188 [my]:=by simpa[Value.cells]using ht
 obtain⟨i0,i1,i2,i3,i4,i5,hI⟩:=rU d.i6;obtain⟨x0,x1,x2,x3,x4,x5,hL⟩:=rU d.l6;obtain⟨v0,v1,v2,v3,v4,v5,hV⟩:=rU d.v6
 let u:LG:={l with T:=[],t:=w.heap.size,q:=HB}
 have a2:lgC u=[.bool i0,.bool i1,.bool i2,.bool i3,.bool i4,.bool i5,.bool x0,.bool x1,.bool x2,.bool x3,.bool x4,.bool x5,.int .u64 v0,.int .u64 v1,.int .u64 v2,.int .u64 v3,.int .u64 v4,.int .u64 v5,.slice l.s.na l.s.nodes.length l.s.nc,.slice l.ga l.G.length l.gc,.pointer (some ⟨w.heap.size,0,none⟩),my,my,my,my,my,my]:=by
  show saC l.s++_=_;unfold saC;rw[hI,hL,hV,d.gv];rfl
 have cg:saC l.s=[.bool i0,.bool i1,.bool i2,.bool i3,.bool i4,.bool i5,.bool x0,.bool x1,.bool x2,.bool x3,.bool x4,.bool x5,.int .u64 v0,.int .u64 v1,.int .u64 v2,.int .u64 v3,.int .u64 v4,.int .u64 v5,.slice l.s.na l.s.nodes.length l.s.nc,.slice l.ga l.G.length l.gc]:=by
  unfold saC;rw[hI,hL,hV,d.gv];rfl
 refine eT (vs:=lgC u) (by rw[a2,cg];kernel_rfl) ?_;refine cv fun w2 hc b2 s2=>?_;have hc:blk w2 w1.heap.size 123 (lgC u):=by
  rw[a2]at hc ⊢;simpa[Value.cells]using hc
 rw[s1]at hc ⊢;have a9:=ac b2 ht ht.lt;have X:Below w.heap.size w w2:=b1.trans (b2.mono (by omega));obtain⟨cL,a3,ce,U,a8⟩:=info_parts NG;refine Pg (base:=w.heap.size) underlying42 a3 U X.size fun w3 an b3=>?_;have Z:=X.trans (b3.mono X.size);have ap:=d.fresh Z;have bs:=ac b3 hc hc.lt;have ch:=ac b3 a9 a9.lt
 refine ai <|bq <|eA <|lK (v:=.slice l.s.na l.s.nodes.length l.s.nc) ap.cl ap.cN ?_;refine Lb (base:=w.heap.size) (s:=56) underlying42 a3 ce U a8 rfl (by omega) an ap.nd (De zD _) (by omega) (by omega) Z.size fun a4 c4 w4 b9 aS b4 _=>?_;have be:=Z.trans b4;have av:=fL bs an (by decide) aS;have cj:=fL ch an (by decide) aS;refine ai <|bq <|eA ?_
 refine eB (fun _=>by kernel_rfl) av (by rw[FW (l:=u) d.i6 d.l6 d.v6 rfl];omega) rfl fun w5 J o5=>?_;have J:blk w5 (w.heap.size+1) 123 (lgC {u with s:={u.s with nodes:=l.s.nodes,na:=a4,nc:=c4} }):=by rw[←Dy (l:=u) d.i6 d.l6 d.v6];exact J
 have ad:=bG be o5 (by omega);have bb:=o5.blk cj (by omega);have a6:=eZ b9 av (by decide) o5;obtain⟨cI,az,b5,O,a0⟩:=info_parts NF;refine Pg (base:=w.heap.size) underlying43 az O ad.size fun w6 M b6=>?_;have ag:=ad.trans (b6.mono ad.size);have ar:=d.fresh ag;have bt:=ac b6 J J.lt;have ck:=ac b6 bb bb.lt
 have ca:=cJ a6 fun q hq=>b6.block q (World.ownsRow.lt a6 q hq).2;refine ai <|bq <|fj <|lK (v:=.slice l.ga l.G.length l.gc) ar.cl ar.cG ?_;refine Lb (base:=w.heap.size) (s:=5) underlying43 az b5 O a0 rfl (by omega) M ar.gr (De rJ _) (by omega) (by omega) ag.size fun a7 c7 w7 b0 I b7 _=>?_;have bi:=ag.trans b7;have al:=fL bt M (by decide) I
 have cm:=fL ck M (by decide) I;have cc:=sR ca M (by decide) I;refine ai <|bq <|fj ?_;refine eB (fun _=>by kernel_rfl) al (by rw[FW (l:={u with s:={u.s with nodes:=l.s.nodes,na:=a4,nc:=c4} }) d.i6 d.l6 d.v6 rfl];omega) rfl fun w8 am o8=>?_;have bd:blk w8 w.heap.size 188 [my]:=o8.blk cm (by omega)
 let l8:LG:={u with s:={u.s with nodes:=l.s.nodes,na:=a4,nc:=c4,gv:=.slice a7 l.G.length c7},ga:=a7,gc:=c7}
 have am:blk w8 (w.heap.size+1) 123 (lgC l8):=by
  have e:=Hs (l:={u with s:={u.s with nodes:=l.s.nodes,na:=a4,nc:=c4} }) d.i6 d.l6 d.v6 l.G a7 c7;exact e ▸ am
 have bW:CP w w8 l l8 (w.heap.size+1) 0:={
   i6:=d.i6
   l6:=d.l6
   v6:=d.v6
   q6:=rfl
   R:=rfl
   cl:=am
   lo:=by omega
   gv:=rfl
   nd:=eZ cc al (by decide) o8
   gr:=eZ b0 al (by decide) o8
   tm:=⟨⟨none,0,bd,World.ownsRow_nil _ _ _ _⟩,Nat.le_refl _⟩
   rq:=fun j hj=>absurd hj (by omega)
   nq:=fun j hj _=>by
    show HB[j]? = some my;unfold HB;rw[List.getElem?_replicate,if_pos hj]
   ne:=fun j k v v' b cp hj hk hb=>by
    rw[NS hj]at hb;cases hb
   bel:=bG bi o8 (by omega)}
 refine SX d (fun k hk=>Nat.le_trans (hg.rn k hk) (by omega)) (by omega) bW d.A54 rfl bd rfl rfl fun w' l' b8 bk e1 e2 e3 e4 e5 e6 e7=>?_;refine h w' _ l' b8 ?_ e6 bk;unfold toP;rw[e1,e2,e3,e4,e5,e7]
end
end
end Go.Proofs.YtkbhfjljieopoaaGreatDoor
