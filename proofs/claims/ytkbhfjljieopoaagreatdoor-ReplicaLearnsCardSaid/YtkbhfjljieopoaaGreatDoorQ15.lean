import Derived.Test.YtkbhfjljieopoaaGreatDoorQ14
import Derived.Test.YtkbhfjljieopoaaGreatDoorQ7
import Derived.Test.YtkbhfjljieopoaaGreatDoorRows
import Derived.WalkKit
import Derived.ProofKit
import Derived.OpenShut
import Derived.ShutString
import Derived.ChangeOld
import Derived.Below
import Derived.JoinedCond
import Derived.Deep.Matrix
import Derived.Deep.Slices
import Derived.Test.YtkbhfjljieopoaaGreatDoorQ8
namespace Go.Proofs.YtkbhfjljieopoaaGreatDoor
set_option maxRecDepth 100000
set_option maxHeartbeats 4000000
open Go.Proofs.Tryz
variable {w w' w0 d9:World}{K:KV}{zf dd:Nat→Value}{b c n k o B i g p m s j z d eb Bw f on D ct cp hi:Nat}{x r v:Int}{xs ys:List Int}{a av:Option Addr}{E t e:TypeId}{cs:List Value}{L:List (Int×Int)}{C:Nat→Int}{F:List Nat}{Z0:List Value→World→Prop}{Y1 Z1 U2 V2 W2 X2 Y2 Z2 U3 V3 W3 X3 Y3 Z3 j4 U4 V4 W4 X4 Y4 Z4 U5 V5 W5 X5 Y5 Z5 K6 T6 U6 V6 W6 X6 Y6 Z6 u7 B7 K7 T7 U7 V7 W7 X7 Y7 Z7 y8 B8:Value}
section
open Go.RowKit
def pickE (E:List EV)(O:List Int)(q:Nat):Nat:=if q<O.length then (O.getD q 0).toNat%E.length else (q-O.length)%E.length
structure LQ (k on:Nat) (E:List EV) (l:PL) (W:HM) (ct q:Nat):Prop where
 r:RHL k E l W ct
 pass:∀(j:Nat) (e:EV),E[j]? = some e→on+j<q→e.s≤l.V.getD e.q 0
 dry:ew l.V W 6=none
theorem LQ.all {E:List EV}{l:PL}{W:HM}{q:Nat}(h:LQ k on E l W ct q)(I:on+E.length≤q):∀f∈E,f.s≤l.V.getD f.q 0:=fun f u=>by
 obtain⟨j,d⟩:=List.getElem?_of_mem u;exact h.pass j f d (by have:=(List.getElem?_eq_some_iff.1 d).1;omega)
theorem LQ.le {E:List EV}{l:PL}{W:HM}{q:Nat}(h:LQ k on E l W ct q):ct≤E.length:=by
 obtain⟨Kn,j,u,I⟩:=h.r.cnt
 have:=pS j fun f d=>((u f).1 d).1
 omega
theorem KA {V:List Int}{W:HM}{x:EV}:nf V W [x]=AD V W x:=rfl
theorem LQ.quiet {E:List EV}{l:PL}{W:HM}{q:Nat}{x:EV}(h:LQ k on E l W ct q)(u:x∈E){l':PL}{W':HM}{F:List EV}(j:DR l (nf l.V W [x]) l' W' F)(I:on+E.length≤q):F=[]:=by
 have d:=h.all I;obtain⟨rfl,_,_⟩:=h.r.full d;rw[KA,h.r.quiet u (d x u)]at j;exact(j.none h.r).1
theorem LQ.step {E:List EV}{l:PL}{W:HM}{q:Nat}{x:EV}{O:List Int}(h:LQ k on E l W ct q)(hO:O.length=on)(hE:E.length≤63)(hx:E[pickE E O q]? = some x){l':PL}{W':HM}{F:List EV}(hd:DR l (nf l.V W [x]) l' W' F)(hn:ew l'.V W' 6=none):LQ k on E l' W' (ct+F.length) (q+1):=by
 have am:=List.mem_of_getElem? hx;obtain⟨p1,p2⟩:=h.r.put am hE;rw[KA]at hd;obtain⟨I,J,d3,d4⟩:=hd.ri p1;refine⟨I,fun j e u an=>?_,hn⟩;by_cases Z:on+j<q
 ·exact Int.le_trans (h.pass j e u Z) (J _)
 ·have d:=(List.getElem?_eq_some_iff.1 u).1;have ag:q=on+j:=by omega
  have ad:pickE E O q=j:=by
   unfold pickE;rw[hO,if_neg (by omega),ag,Nat.add_sub_cancel_left,Nat.mod_eq_of_lt d]
  rw[ad,u]at hx;have M:e=x:=Option.some.inj hx;subst M;have al:E=E.take j++e::E.drop (j+1):=by
   have h1:=List.drop_eq_getElem_cons d;rw[(List.getElem?_eq_some_iff.1 u).2]at h1;rw[←h1];exact(List.take_append_drop j E).symm
  rw[al]at I;refine RHL.knows I (fun f hf=>?_) hn (p2.elim (fun U=>.inl (Int.le_trans U (J _))) fun U=>(d4 _ U).symm);obtain⟨i,hi⟩:=List.getElem?_of_mem hf;have X:i<j:=by
   have:=(List.getElem?_eq_some_iff.1 hi).1
   rw[List.length_take]at this;omega
  rw[List.getElem?_take_of_lt X]at hi;exact Int.le_trans (h.pass i f hi (by omega)) (J _)
theorem LQ.zero {E:List EV}(h:HistL k E):LQ k on E (pl0 k) [] 0 0:=⟨RHL.zero h,fun _ _ _ h=>by omega,Kt 6⟩
end
section
attribute [local irreducible] bin un conv call bY blt slc af fld aV idx lkp dO gY eSt rng nxt ent ext alc box bld bT ld sto aU dE mkS ifc pick rdy wts aI sti cond bp Gives ae fh fT cOp
open Go.RowKit
theorem VZ {q:Nat}{O:List Int}{S:KV→World→Prop}(h:RV w a on b (O.map fun x=>kv8 x))(J:q<on):(∀K:KV,K (.pointer (some (vL a q))) w→aV Tryz.prog 64 (.slice a on b) (iv (q:Nat)) K w)∧(∀K:KV,K (kv8 (O.getD q 0)) w→ld Tryz.prog 5 (.pointer (some (vL a q))) K w):=by
 have I:=RV.len h;rw[List.length_map]at I;have u:(O.map fun x=>kv8 x)[q]? = some (kv8 (O.getD q 0)):=IQ (f:=fun x=>kv8 x) (d:=(0:Int)) (by omega);refine⟨fun K j=>?_,fun K j=>FV (fun _=>by kernel_rfl) (h.cell q _ u) j⟩;exact Ro (iv:=((q:Nat):Int)) underlying64 (fun _=>by kernel_rfl) h (by omega) (by rw[Int.toNat_natCast];exact u) fun _=>by rw[Int.toNat_natCast];exact j
theorem PG {B1 : List Value → World → Prop} {Bb Bz Bw g k ct q on oc z : Nat} {oa : Option Addr} {O : List Int} {Ls : List (Nat × LG)} {E : List EV} {C : Nat → Int} {R : RpB} {l : PL} {W : HM} {Rw : List kN} {n0 acts1 order2 n3 k_7 w_8 i9 r11 heard13 i14 x15 t56 t57 t58 t59 t73 t74 t88 t89 t90 t91 t92 t93 t106 t152 t153 t154 t155 t156 t157 t158 t159 t160 t161 t162 t163 t164 t165 t166 t183 t184 t185 t186 t189 t190 t191 t194 : Value} {zf : Nat → Value}
    (h : RpM w R k l W Rw (ct : Nat) gp0) (hr : LQ k on E l W ct q) (hE : E.length ≤ 60) (hE0 : 0 < E.length) (hk : 2 ≤ k ∧ k ≤ 6) {x0 : EV} (hz : blk w z 54 (evC x0)) (hzz : Bz ≤ z) (hzb : Bb ≤ z) (hql : ∀ k ∈ R.q.l, k < Bz) (hF : ∀ k ∈ RpF R Rw, Bb ≤ k) (hBb : Bb ≤ w.heap.size) (hwm : ∀ w', Below Bb w w' → WM w' Bw g Ls E C) (hq : q ≤ 1000000) (hon : on ≤ 100) (hO : RV w oa on oc (O.map fun x => kv8 x)) (hOb : ∀ x ∈ O, 0 ≤ x ∧ x ≤ 255)
    (e0 : t106 = .bool (decide ((q : Int) < (on : Nat)))) (e1 : order2 = .slice oa on oc) (e2 : i14 = iv (q : Nat)) (e3 : k_7 = iv (k : Nat)) (e4 : w_8 = pB g) (e5 : heard13 = iv (ct : Nat)) (e6 : x15 = pB z) (e7 : r11 = pB R.p)
    (hB : ∀ e w' l' W' Rw' ct', RpM w' R k l' W' Rw' (ct' : Nat) gp0 → LQ k on E l' W' ct' (q + 1) → Below Bb w w' → (∀ k ∈ RpF R Rw', Bb ≤ k) → gd e 13 = iv (ct' : Nat) → gd e 14 = iv ((q : Int) + 1) → B1 e w') : ip K B1 ((aH n0 acts1 order2 n3 k_7 w_8 i9 r11 heard13 i14 x15 t56 t57 t58 t59 t73 t74 t88 t89 t90 t91 t92 t93 t106 t152 t153 t154 t155 t156 t157 t158 t159 t160 t161 t162 t163 t164 t165 t166 t183 t184 t185 t186 t189 t190 t191 t194 zf)) w := by
  subst e0 e1 e2 e3 e4 e5 e6 e7
  have hOl : O.length = on := by have := RV.len hO; rwa [List.length_map] at this
  have hpl : pickE E O q < E.length := by unfold pickE; split <;> exact Nat.mod_lt _ hE0
  have hx : E[pickE E O q]? = some E[pickE E O q] := List.getElem?_eq_getElem hpl
  generalize E[pickE E O q] = x at hx
  have hxE := List.mem_of_getElem? hx
  have bd : Below Bb w w.drew := (Below.refl _ w).drew
  obtain ⟨la, lc, ea, ec, hwb, _, hrow⟩ := (hwm _ bd).row
  obtain ⟨ge, cur, hae, ope⟩ := cq hrow hE0
  have hd := h.below (Below.refl _ w).drew
  have hzd := hz.drew
  have ldx : ∀ K : KV, K (evV x) w.drew → ld Tryz.prog 54 (.pointer (some ⟨ge, 0 + pickE E O q * 14, none⟩)) K w.drew := fun K hK => ldA (n := 14) (vs := evC x) Tryz.underlying54 rfl (by kernel_rfl) ope.blk (by rw [Nat.zero_add]; exact ope.elem vd rfl hx) rfl hK
  have ixx : ∀ K : KV, K (.pointer (some ⟨ge, 0 + pickE E O q * 14, none⟩)) w.drew → aV Tryz.prog 36 (.slice ea E.length ec) (iv (pickE E O q : Nat)) K w.drew := fun K hK => by
    rw [hae]
    exact dJ Tryz.underlying36 (s := 14) (fun _ => by kernel_rfl) (by omega) (by omega) (by rw [Int.toNat_natCast]; exact hK)
  have fin : ∀ {zf : Nat → Value} {w1 : World}, blk w1 z 54 (evC x) → Oth z w.drew w1 → dH K B1 (aH n0 acts1 (.slice oa on oc) n3 (iv (k : Nat)) (pB g) i9 (pB R.p) (iv (ct : Nat)) (iv (q : Nat)) (pB z) t56 t57 t58 t59 t73 t74 t88 t89 t90 t91 t92 t93 (.bool (decide ((q : Int) < (on : Nat)))) t152 t153 t154 t155 t156 t157 t158 t159 t160 t161 t162 t163 t164 t165 t166 t183 t184 t185 t186 t189 t190 t191 t194 zf) w1 := fun {zf w1} z1 o1 => by
    have b1 : Below Bb w w1 := bv bd o1 hzb
    have h1 := hd.othE hql hzd hzz o1
    have s1 : w.heap.size ≤ w1.heap.size := by have := o1.size; have d0 : w.drew.heap.size = w.heap.size := rfl; omega
    refine PJ (Bb := Bb) h1 hr.r hE (Nat.le_trans hr.le hE) hxE hk z1 hF (by omega) (fun w' b' => hwm w' (b1.trans b')) hq hon (fun l' W' F hd hq => hr.quiet hxE hd hq) rfl rfl rfl rfl rfl rfl rfl fun e w' l' W' Rw' F h2 d2 n2 c2 k2 hFl g13 g14 => ?_
    refine hB e w' l' W' Rw' (ct + F.length) (by rw [Int.natCast_add]; exact h2) (hr.step hOl (by omega) hx d2 n2) (b1.trans (c2.below hF (by omega))) (SP hF (by omega) k2) (by rw [Int.natCast_add]; exact g13) g14
  refine wM ?_
  by_cases hqo : q < on
  · have hOd : RV w.drew oa on oc (O.map fun x => kv8 x) := RV.below hO (Below.refl w.heap.size w).drew (Nat.le_refl _)
    obtain ⟨ix, lx⟩ := VZ (S := fun K _ => True) hOd hqo
    have ho := hOb (O.getD q 0) (by
      rw [List.getD_eq_getElem?_getD, List.getElem?_eq_getElem (by omega)]
      exact List.getElem_mem _)
    have hpk : (O.getD q 0) % (E.length : Nat) = ((pickE E O q : Nat) : Int) := by
      unfold pickE
      rw [if_pos (by omega), Int.natCast_emod, Int.toNat_of_nonneg ho.1]
    refine ax (by omega) ?_
    refine aa (fun K hK => ai hK) (aa (fun K hK => mD hK) (aa (v := .slice ea E.length ec) (fun K hK => ld1 (fun _ => by kernel_rfl) hwb rfl hK) ?_))
    refine aa (fun K hK => ix K hK) (aa (fun K hK => lx K hK) ?_)
    refine aa (v := iv (O.getD q 0)) (fun K hK => dS Tryz.underlying5 Tryz.underlying3 (by rw [eK (by omega) (by omega)]; exact hK)) ?_
    refine aa (fun K hK => ai hK) (aa (fun K hK => mD hK) (aa (v := .slice ea E.length ec) (fun K hK => ld1 (fun _ => by kernel_rfl) hwb rfl hK) ?_))
    refine aa (v := iv (E.length : Nat)) (fun K hK => bj Tryz.underlying36 hK) ?_
    refine aa (v := iv (pickE E O q : Nat)) (fun K hK => xX ho.1 (by omega) (by rw [hpk]; exact hK)) ?_
    refine aa (fun K hK => ixx K hK) (aa (fun K hK => ldx K hK) ?_)
    exact lj (e' := x) hzd fun w1 z1 o1 => fin z1 o1
  · have hpk : ((q : Int) - (on : Nat)) % (E.length : Nat) = ((pickE E O q : Nat) : Int) := by
      unfold pickE
      rw [if_neg (by omega), hOl, Int.natCast_emod, show ((q - on : Nat) : Int) = q - on by omega]
    refine aq (by omega) ?_
    refine aa (fun K hK => ai hK) (aa (fun K hK => mD hK) (aa (v := .slice ea E.length ec) (fun K hK => ld1 (fun _ => by kernel_rfl) hwb rfl hK) ?_))
    refine aa (v := iv (on : Nat)) (fun K hK => bj Tryz.underlying64 hK) ?_
    refine aa (v := iv ((q : Int) - (on : Nat))) (fun K hK => bh (by omega) (by omega) hK) ?_
    refine aa (fun K hK => ai hK) (aa (fun K hK => mD hK) (aa (v := .slice ea E.length ec) (fun K hK => ld1 (fun _ => by kernel_rfl) hwb rfl hK) ?_))
    refine aa (v := iv (E.length : Nat)) (fun K hK => bj Tryz.underlying36 hK) ?_
    refine aa (v := iv (pickE E O q : Nat)) (fun K hK => xX (by omega) (by omega) (by rw [hpk]; exact hK)) ?_
    refine aa (fun K hK => ixx K hK) (aa (fun K hK => ldx K hK) ?_)
    exact lj (e' := x) hzd fun w1 z1 o1 => fin z1 o1
theorem PH {q:Nat}{Ls:List (Nat×LG)}{E:List EV}{R:RpB}{l:PL}{W:HM}{Rw:List kN}(h:RpM w R k l W Rw (ct:Nat) gp0)(hr:LQ k on E l W ct q)(hE:E.length≤60)(am:on+E.length≤q∨E.length=0)(hF:∀k∈RpF R Rw,w0.heap.size≤k)(hb:Below w0.heap.size w0 w)(hw:WM w0 Bw g Ls E C)(M:Ls.length=k)(a8:KD w0)(e3:W2=iv (k:Nat))(e4:X2=pB g)(e5:U3=iv (ct:Nat))(e7:Z2=pB R.p)(hW:∀w' K',Below w0.heap.size w0 w'→(∀aS,Below w'.heap.size w' aS→K' cT aS)→call Tryz.prog 6 #[] K' w')(j:∀w',Below w0.heap.size w0 w'→K cT w'):br K ((aH Y1 Z1 U2 V2 W2 X2 Y2 Z2 U3 V3 W3 X3 Y3 Z3 j4 U4 V4 W4 X4 Y4 Z4 U5 V5 W5 X5 Y5 Z5 K6 T6 U6 V6 W6 X6 Y6 Z6 u7 B7 K7 T7 U7 V7 W7 X7 Y7 Z7 y8 B8 zf)) w:=by
 subst e3 e4 e5 e7;have al:∀f∈E,f.s≤l.V.getD f.q 0:=fun f hf=>by
  rcases am with hh|hh
  ·exact hr.all hh f hf
  ·have:=List.eq_nil_of_length_eq_zero hh
   subst this;cases hf
 obtain⟨rfl,a3,hl⟩:=hr.r.full al;have an:=hr.r.pi;have ap:=hw.fresh hb;refine wR ?_;refine PE ap M (by omega) fun w3 B3 l3 p3 O ar X b3=>?_;have sz:=hb.size;refine dZ (z:=.agg (saC ⟨List.replicate 6 false,List.replicate 6 false,List.replicate 6 0,[],none,0,.slice none 0 0⟩).toArray) (by kernel_rfl) fun w4 z4 b4 s4=>?_
 have z4:blk w4 w3.heap.size 45 (saC ⟨List.replicate 6 false,List.replicate 6 false,List.replicate 6 0,[],none,0,.slice none 0 0⟩):=by simpa[Value.cells]using z4
 have a7:∀v∈saC l3.s,v.oneCell'=true:=by
  intro v hv;unfold saC at hv;rw[O.gv]at hv;simp only[List.mem_append,List.mem_map,List.mem_cons,List.not_mem_nil,or_false]at hv;rcases hv with((⟨_,_,rfl⟩|⟨_,_,rfl⟩)|⟨_,_,rfl⟩)|(rfl|rfl)<;>rfl
 refine jP (n:=20) (vs:=saC l3.s) (by kernel_rfl) O.sl z4 (by show 0+20≤20;omega) a7 fun w5 z5 o5=>?_;rw[List.take_zero,List.nil_append,List.drop_of_length_le (by show 20≤0+20;omega),List.append_nil]at z5;have ad:Below w3.heap.size w3 w5:=bv b4 o5 (Nat.le_refl _);have J:Below w.heap.size w w5:=b3.trans (ad.mono b3.size);have g5:=h.below J;have l5:=O.fresh ad;have a6:=ap.fresh J
 obtain⟨la,lc,ea,ec,Z,_,_⟩:=a6.row;have a4:(saC l3.s).length=20:=O.sl;refine aw (fun y=>blk y g 74 [.slice la Ls.length lc,.slice ea E.length ec]∧blk y w3.heap.size 45 (saC l3.s)) ⟨Z.drew,z5.drew⟩ ?_;refine ab (fun y d _ j=>ai j) (ab (fun y d _ j=>mD j) (ab (v:=.slice ea E.length ec) (fun y d _ j=>lK d.1 rfl j) (ab (v:=iv (E.length:Nat)) (fun y d _ j=>bj underlying36 j) ?_)))
 refine ab (v:=.bool true) (fun y d _ j=>bg (by rw[a3];simpa using j)) ?_;refine gE (x:=pB R.p) rfl (fun y d _ j=>j) (gE (x:=.agg (saC l3.s).toArray) rfl (fun y d _ j=>ldA (n:=20) (vs:=saC l3.s) underlying45 rfl (by kernel_rfl) d.2 (by rw[List.drop_zero,List.take_of_length_le (by omega)]) a4 j) ?_);have a0:=g5.below (Below.refl _ w5).drew;have hG:l.G.length≤1000000:=by
  rw[hl, ←X]
  have:=ar.gn
  have hs:sV l3.s.V≤E.length:=by
   have:=Vu hw.wp.hist hw.ev hw.c0 hw.sum E.length
   rw[List.take_length,M]at this;rw[M.symm]at this;rwa[M, ←X]at this
  show l3.G.length≤_;omega
 refine Ce rfl (Si a0 an hG fun w6 t ga gc so b6=>?_);have u:Below w5.heap.size w5 w6:=(Below.refl _ w5).drew.trans b6;have I:l=toP l3:=hl.trans X.symm;have l6:=l5.fresh u;refine aE ⟨ac u Z Z.lt,ac u z5 z5.lt⟩ (Ce rfl ?_);have a2:l.G=l3.G:=by rw[I];rfl
 have av:=so.gr;have az:=so.gv;rw[a2]at av az hG;refine VC (so.sk an) (l6.sk (by have:=ar.n30;omega)) (by rw[so.eI,I];rfl) (by rw[so.eL,I];rfl) (by rw[so.eV,I];rfl) (by rw[so.eN,I];rfl) az l6.gv av l6.gr hG fun w7 b7=>?_;have ag:=u.trans (b7.mono u.size);have g7:=g5.below ag
 refine aw (fun _=>True) trivial (ab (v:=.bool true) (fun y _ _ j=>bX j) (gE (x:=pB R.p) rfl (fun y _ _ j=>j) (Ce rfl (Ua g7 ?_))));refine aw (fun _=>True) trivial (gE (x:=.bool true) rfl (fun y _ _ j=>bg (by simpa using j)) (ab (v:=.bool true) (fun y _ _ j=>bX j) (Ce rfl ?_)));have U:Below w0.heap.size w0 w7:=(hb.trans (J.mono sz)).trans (ag.mono (Nat.le_trans sz J.size))
 exact hW w7 _ U fun w8 b8=>aw (fun _=>True) trivial (ab (v:=.bool true) (fun y _ _ j=>bX j) (j w8 (U.trans (b8.mono U.size))))
theorem Ft (c2:KD w0){X:List AC}{O:List Int}(hn:0≤r∧r≤255)(hX:AR w0 a m c X)(hO:RV w0 av on b (O.map fun x=>kv8 x))(cX:∀x∈O,0≤x∧x≤255)(hW:∀w' K',Below w0.heap.size w0 w'→(∀cp,Below w'.heap.size w' cp→K' cT cp)→call Tryz.prog 6 #[] K' w')(hK:∀w',Below w0.heap.size w0 w'→K cT w'):call Tryz.prog 4 #[kv8 r,.slice a m c,.slice av on b] K w0:=by
 refine aj (goK func4) (yf ?_);refine aj (goK func14) (Hm (bj underlying63 (fU (tO ?_))));have wk:call Tryz.prog 6 #[] K w0:=hW w0 K (Below.refl _ _) hK;by_cases hm:m≤60
 case neg=>exact jy (by omega) (bO (by omega) (bu wk))
 refine dX (by omega) (bj underlying64 (de (bw (by omega) ?_)));by_cases ho:on≤100
 case neg=>exact ax (by omega) wk
 refine aq (by omega) (dS underlying5 underlying3 ?_);rw[eK (by omega) (by omega)];refine xX hn.1 (by omega) ?_;have h5:0≤r%5∧r%5<5:=⟨Int.emod_nonneg _ (by omega),Int.emod_lt_of_pos _ (by omega)⟩
 obtain⟨k,c3⟩:∃k:Nat,2+r%5=(k:Nat):=⟨(2+r%5).toNat,by omega⟩
 have hk:2≤k∧k≤6:=by omega
 refine aW (by omega) (by omega) ?_;rw[c3];refine OC (n:=k) (by omega) (by omega) fun w1 g L1 c6 cR b1=>?_;refine wN (Inv:=fun i _ _ _ _ wr=>∃(j:Nat) (L:List (Nat×LG)) (E:List EV) (C:Nat→Int),i=iv (j:Nat)∧j≤m∧WM wr w0.heap.size g L E C∧L.length=k∧E.length≤j∧Below w0.heap.size w0 wr) (μ:=fun i _ _ _ _ _=>m-(intOf i).toNat)
  ⟨0,L1,[],_,rfl,Nat.zero_le _,c6,cR,Nat.le_refl _,b1⟩ ?_
 rintro _ _ _ _ _ dd w2 mu ⟨j,L,E,C,rfl,hj,hw,hL,d6,b2⟩ ag;refine bj underlying63 (aM ?_);by_cases ad:j<m
 ·refine ax (by omega) ?_;have c1:j<X.length:=by rw[hX.len];exact ad
  have hx:X[j]? = some X[j]:=List.getElem?_eq_getElem c1;refine PF hw b2.size (by omega) (hX.bel b2 (Nat.le_refl _)) hx ad (by omega) hk rfl rfl rfl rfl fun e w' L' E' C' c5 cQ d5 b' ge=>?_;refine⟨⟨j+1,L',E',C',by rw[ge];exact congrArg iv (by push_cast;rfl),ad,c5,cQ.trans hL,by omega,b2.trans b'⟩,?_⟩;rw[ag,ge];show m-((j:Int)+1).toNat<m-(j:Int).toNat;omega
 refine aq (by omega) (wP ?_);have U:E.length≤60:=by omega
 have a6:KD w2:=c2.below b2;have s2:=b2.size;refine Qm a6 (by omega) hk.2 ⟨by omega,hk.2⟩ fun w3 R h3 cL b3 _=>cZ (db (bN (dX (by simp) (wy (bw (by simp) (aO ?_))))));have c4:∀x∈R.q.l,x<w3.heap.size:=h3.pm.lt;have a0:=hw.wp.hist;have d7:O.length=on:=by have:=RV.len hO;rwa[List.length_map]at this
 have d4:=b3.size
 -- the events,told one by one
 refine wO (Inv:=fun hd i _ _ _ _ _ _ _ _ _ _ _ _ _ _ _ _ _ _ _ _ _ wr=>∃(q ct:Nat) (l:PL) (W:HM) (Rw:List kN),hd=iv (ct:Nat)∧i=iv (q:Nat)∧q≤on+2*E.length∧RpM wr R k l W Rw (ct:Nat) gp0∧LQ k on E l W ct q∧(∀k∈RpF R Rw,w2.heap.size≤k)∧Below w2.heap.size w2 wr∧w3.heap.size≤wr.heap.size) (μ:=fun _ i _ _ _ _ _ _ _ _ _ _ _ _ _ _ _ _ _ _ _ _ _ _=>on+2*E.length-(intOf i).toNat)
  ⟨0,0,_,_,_,rfl,rfl,Nat.zero_le _,h3,LQ.zero (by rw[←hL];exact a0),cL,b3,Nat.le_refl _⟩ ?_
 rintro _ _ _ _ _ _ _ _ _ _ _ _ _ _ _ _ _ _ _ _ _ _ _ dd w4 mu ⟨q,ct,l,W,Rw,rfl,rfl,hq,h4,az,ar,b4,s4⟩ ag;have c7:=hw.fresh b4;obtain⟨la,lc,ea,ec,al,_,a2⟩:=c7.row;refine bj underlying64 (ai (mD (lK (v:=.slice ea E.length ec) al rfl (bj underlying36 (DI (by omega) (by omega) (aW (by omega) (by omega) (aM ?_)))))))
 have am:∀{r Z J n3 a4 cs i9 a7 d c8 d3 c9 da dg dj dk dm dp dr dz d0 d1 d2 a8 a9 bb bd be bi bk bs bt bW b0 b6 b8 b9 ca cc ce cg ch cj ck cl cm cn:Value} {zf:Nat→Value},(on+E.length≤q∨E.length=0)→a4=iv (k:Nat)→cs=pB g→d=iv (ct:Nat)→a7=pB R.p→br K ((aH r Z J n3 a4 cs i9 a7 d c8 d3 c9 da dg dj dk dm dp dr dz d0 d1 d2 a8 a9 bb bd be bi bk bs bt bW b0 b6 b8 b9 ca cc ce cg ch cj ck cl cm cn zf)) w4:=fun aS e3 e4 e5 e7 =>
  PH h4 az U aS ar b4 hw hL a6 e3 e4 e5 e7 (fun w' K' b' => hW w' K' (b2.trans (b'.mono s2))) fun w' b' => hK w' (b2.trans (b'.mono s2))
 by_cases I:(q:Int)<(on:Nat)+2*(E.length:Nat)
 case neg =>
  exact dY I (bw I (aO (am (.inl (by omega)) rfl rfl rfl rfl)))
 refine dD I (ai (mD (lK (v:=.slice ea E.length ec) al rfl (bj underlying36 (de (bO I ?_))))));by_cases ap:(0:Int)<(E.length:Nat)
 case neg =>
  exact aq ap (am (.inr (by omega)) rfl rfl rfl rfl)
 refine ax ap (ai (mD (lK (v:=.slice ea E.length ec) al rfl ?_)));have M:0<E.length:=by omega
 have a3:E[0]? = some E[0]:=List.getElem?_eq_getElem M;generalize E[0]=x0 at a3;refine Ge (i:=0) (enc:=evC) (s:=14) underlying36 (fun _=>by kernel_rfl) underlying54 rfl (by kernel_rfl) vd a2 rfl a3 fun _=>?_;refine nG fun w5 z5 b5 s5=>lj (e':=x0) z5 fun w6 z6 o6=>?_;have h:Below w4.heap.size w4 w6:=bv b5 o6 (Nat.le_refl _);have d8:=h.size;have u:=b4.size
 refine wL (bj underlying64 (aM ?_));refine PG (Bb:=w2.heap.size) (Bz:=w3.heap.size) (h4.below h) az U M hk z6 s4 u c4 ar (by omega) (fun w' b' => hw.fresh ((b4.trans (h.mono u)).trans b')) (by omega) ho (RV.below hO (b2.trans ((b4.trans (h.mono u)).mono s2)) (Nat.le_refl _)) cX rfl rfl rfl rfl rfl rfl rfl rfl fun e w' l' W' cD cG h7 cV b7 cO cI an=>?_;have d9:=b7.size
 refine⟨⟨q+1,cG,l',W',cD,cI,by rw[an];exact congrArg iv (by push_cast;rfl),by omega,h7,cV,cO,(b4.trans (h.mono u)).trans b7,by omega⟩,?_⟩;rw[ag,an];show on+2*E.length-((q:Int)+1).toNat<on+2*E.length-(q:Int).toNat;omega
section
variable {w:World}{K:KV}{R:RpB}
theorem Lq {x wB:World}{e0:EV}(h:RpM w0 R 1 (pl0 2) [] lr0 0 gp0)(p2:PM x R.q (eff wE (pl0 2)))(c2:Ch R.q.wv w0 x)(hz:blk x z 54 (evC wE))(ht:blk x b 54 (evC e0))(ap:∀k∈R.q.l,k<z)(ad:∀k∈R.q.l,k<b)(hb:Below wB.heap.size wB w0)(am:wB.heap.size≤b)(O:∀w' a cp,RpM w' R 1 (eff wE (pl0 2)) [] (lr1 a cp) 1 gp0→Ch (RpF R lr0) wB w'→K (.tuple #[evV wE,ci 0]) w'):jz K (ef (pB R.p) Y1 Z1 (pB b) (pB z) (ci 0) (.bool true) zf) x:=by
 have hn:∀k,k∉R.q.l→k∉R.q.wv:=fun k j=>h.wq j;have z2:=h.b.ch c2 (hn _ h.pq);have g2:=h.g.ch c2 fun k j=>hn _ (h.gq k j);have o2:=h.h.ch c2 (hn _ h.hq) (hn _ h.mq);have f2:=h.e.ch c2 (hn _ h.eq);refine zt (bu ?_);refine aw (fun y=>blk y R.p 91 [iv (1:Nat),pB R.q.p,pB R.g,pB R.h,pB R.e,pB R.d]∧blk y z 54 (evC wE)) ⟨z2.drew,hz.drew⟩ ?_
 refine ab (fun y d _ O=>ai O) (ab (fun y d _ O=>Ha O) (ab (v:=pB R.g) (fun y d _ O=>lK d.1 rfl O) (ab (fun y d _ O=>gB d.2 O) ?_)));have al:=g2.below (Below.refl _ x).drew;have d2:x.drew.heap.size=x.heap.size:=rfl;refine PY (e:=wE) (r:=⟨none,0,[]⟩) al rfl (by decide) (fun k j=>((rh 2).vb k j).1) (by omega) (by decide) fun w3 a' u g3 n3 X=>?_
 have I:∀{k:Nat},k∉lrB lr0→k≠R.g→k∉R.g::lrB lr0:=fun h1 h2 J=>(List.mem_cons.1 J).elim h2 h1;have lb:lrB lr0=[]:=rfl;have Z:∀k,k∉lrB lr0:=fun k j=>by rw[lb]at j;cases j
 have an:=hz.drew.ch X (I (Z _) (hz.ne g2.b (by decide)));have U:=ht.drew.ch X (I (Z _) (ht.ne g2.b (by decide)));have g3:LoM w3 R.g (lr1 a' u) (eff wE (pl0 2)).V 1:=g3;have ag:∀k∈lrB (lr1 a' u),x.heap.size≤k:=fun k j=>by
  obtain⟨r',M,e'⟩:=List.mem_filterMap.1 j;simp only[List.mem_cons,List.not_mem_nil,or_false]at M;rcases M with rfl|rfl|rfl|rfl|rfl|rfl
  ·rcases n3 k e' with J|J
   ·cases J
   ·exact J
  all_goals cases e'
 have p3:=p2.drew.ch X fun k j J=>h.gq k (by rcases List.mem_cons.1 J with e|J;exact e ▸ List.mem_cons_self;exact absurd J (Z _)) j
 have r3:RpM w3 R 1 (eff wE (pl0 2)) [] (lr1 a' u) 1 gp0:=⟨z2.drew.ch X (I (Z _) (h.b.ne h.g.b (by decide))),p3,g3,(o2.below (Below.refl _ x).drew).ch X (I (Z _) (h.h.b.ne h.g.b (by decide))) (I (Z _) (h.h.mb' h.g.b).symm),(f2.below (Below.refl _ x).drew).ch X (I (Z _) (h.e.b.ne h.g.b (by decide))),h.pq,fun k j=>by
  rcases List.mem_cons.1 j with rfl|j
  ·exact h.gq _ (by simp)
  ·exact fun hq=>by have:=ag k j;have:=h.pm.lt k hq;have:=c2.size;omega,h.hq,h.mq,h.eq,fun r' M => by
   simp only[List.mem_cons,List.not_mem_nil,or_false]at M;rcases M with rfl|rfl|rfl|rfl|rfl|rfl
   ·show (1:Int)≤1;omega
   all_goals decide,by omega⟩
 refine zv (gB an (lj (e':=wE) U fun w4 t4 o4=>Ix t4 (O w4 a' u (r3.keep fun k j=>o4.other k fun e=>?_) ?_)))
 ·subst e;rcases j with rfl|rfl|j|j
  ·exact absurd rfl (U.ne r3.b (by decide))
  ·exact absurd rfl (U.ne r3.h.b (by decide))
  ·have:=ad _ j;omega
  ·exact r3.out U (by decide) (by decide) (by decide) (fun J=>by have:=ad _ J;omega) j
 ·have Y1:Ch (RpF R lr0) wB w0:=Ch.of_below hb;have a2:Ch (RpF R lr0) wB x:=Y1.trans c2 fun y hy=>.inl (gD.2 (.inl hy));have Z1:Ch (RpF R lr0) wB x.drew:=a2.add (Below.refl _ x).drew;have a4:=Z1.trans X fun y hy=>.inl (gD.2 ((List.mem_cons.1 hy).elim (fun h=>.inr (.inl h)) fun h=>.inr (.inr (.inl h))));exact a4.add (bv (Below.refl _ w3) o4 am)
theorem Sx :∀r:Bool,(r=true↔evC wE=evC evZ)→r=false:=fun r d=>by
 cases r with
 | false=>rfl
 | true =>
  have:=congrArg (fun l=>l[0]?) (d.1 rfl)
  simp[evC,wE,iv]at this
theorem UM (h:RpM w R 1 (pl0 2) [] lr0 0 gp0)(j:∀w' a cp,RpM w' R 1 (eff wE (pl0 2)) [] (lr1 a cp) 1 gp0→Ch (RpF R lr0) w w'→K (.tuple #[evV wE,ci 0]) w'):call Tryz.prog 26 #[pB R.p,.agg aC.toArray] K w:=by
 have u:=h.pm.lt;refine aj (goK func26) (Bm (FM fun w1 z1 b1 s1=>nG fun O t2 b2 s2=>?_));have X:=b1.trans (b2.mono (by omega));have h2:=h.below X;have z2:=ac b2 z1 z1.lt;have lz:=z1.lt;refine aw (fun y=>blk y R.p 91 [iv (1:Nat),pB R.q.p,pB R.g,pB R.h,pB R.e,pB R.d]∧blk y w.heap.size 33 aC) ⟨h2.b.drew,z2.drew⟩ ?_
 refine ab (fun y d _ j=>ai j) (ab (fun y d _ j=>uN j) (ab (v:=pB R.q.p) (fun y d _ j=>lK d.1 rfl j) ?_));refine ab (fun y d _ j=>ai j) (ab (fun y d _ j=>wG j) (ab (v:=iv 1) (fun y d _ j=>lK d.1 rfl j) (ab (fun y d _ j=>Ij d.2 j) ?_)));have I:=h2.below (Below.refl _ O).drew;have J:Below w.heap.size w O.drew:=X.drew
 have nq:∀k,w.heap.size≤k→k∉R.q.wv:=fun k M hh=>by have:=u k (LB.wl k hh);omega
 have l2:=t2.lt;refine⟨?_,?_⟩
 ·refine Qn I.pm fun w3 p3 c3=>?_;have t3:=t2.drew.ch c3 (nq _ (by omega));have ag:=c3.size;have ad:O.drew.heap.size=O.heap.size:=rfl;refine aw (fun _=>True) trivial (ab (fun y _ _ j=>cZ j) (ab (fun y _ _ j=>db j) ?_));refine nG fun w4 z4 b4 s4=>aE trivial (lj (e':=wE) z4 fun w5 z5 o5=>aE trivial ?_);have U:Below w3.heap.size w3 w5:=bv b4 o5 (Nat.le_refl _)
  refine gB z5 (eT (vs:=evC evZ) (by kernel_rfl) (wu 6 (by omega) (by kernel_rfl) (by kernel_rfl) (by kernel_rfl) (by kernel_rfl) fun r hr=>?_));rw[Sx r hr];refine Lq (wB:=w) I (p3.below U) (c3.add (U.mono ag)) z5 (ac U t3 t3.lt) (fun k M=>by have:=u k M;omega) (fun k M=>by have:=u k M;omega) J (by omega) j
 ·refine nG fun w3 z3 Z s3=>aE (by
   have:=I.below Z
   exact⟨this.b,ac Z z2.drew z2.drew.lt⟩) ?_
  have h3:=I.below Z;have ad:O.drew.heap.size=O.heap.size:=rfl;have t3:=ac Z t2.drew t2.drew.lt;refine Qn h3.pm fun w4 p4 c4=>?_;have z4:=z3.ch c4 (nq _ (by omega));have t4:=t3.ch c4 (nq _ (by omega));refine aw (fun _=>True) trivial (ab (fun y _ _ j=>cZ j) (ab (fun y _ _ j=>db j) ?_));refine lj (e':=wE) z4 fun w5 z5 o5=>aE trivial ?_;have al:=c4.size
  refine gB z5 (eT (vs:=evC evZ) (by kernel_rfl) (wu 6 (by omega) (by kernel_rfl) (by kernel_rfl) (by kernel_rfl) (by kernel_rfl) fun r hr=>?_));rw[Sx r hr];have c5:Ch R.q.wv O.drew w5:=((Ch.of_below Z:Ch R.q.wv O.drew w3).trans c4 fun y hy=>.inl hy).add (bv (Below.refl _ w4) o5 (by omega))
  refine Lq (wB:=w) I (p4.oth o5 fun hh=>by have:=u _ hh;omega) c5 z5 (o5.blk t4 (by omega)) (fun k M=>by have:=u k M;omega) (fun k M=>by have:=u k M;omega) J (by omega) j
theorem Wg (h:RpM w R 1 (pl0 2) [] lr0 0 gp0)(hK:∀w' a cp,RpM w' R 1 (eff wE (pl0 2)) [] (lr1 a cp) 1 gp0→Ch (RpF R lr0) w w'→K (.tuple #[evV wE,ci 0]) w'):call Tryz.prog 9 #[pB R.p,.agg aC.toArray,cu x] K w:=by
 have j:=h.pm.lt;refine aj (goK func9) (CI (FM fun J z1 b1 s1=>nG fun w2 I b2 s2=>wy (aO ?_)));have d:=b1.trans (b2.mono (by omega));have lz:=I.lt;have O:=h.below d;refine Ij (ac b2 z1 z1.lt) (UM O fun w3 a cp U M=>cZ (db ?_));have tq:J.heap.size∉R.q.l:=fun hh=>by have:=j _ hh;omega
 have t3:=I.ch M (O.out I (by decide) (by decide) (by decide) tq);refine lj (e':=wE) t3 fun w4 t4 Z=>bg (dY (by decide) (bw (by decide) (Bh (aO (Bi (gB t4 (lj (e':=wE) t4 fun w5 t5 o5=>Ix t5 ?_)))))));have X:∀k,k=R.p∨k=R.h∨k∈R.q.l∨k∈RpF R (lr1 a cp)→k≠J.heap.size:=U.neE (B:=J.heap.size) (fun k u=>by have:=j k u;omega) t3 (Nat.le_refl _)
 refine hK w5 a cp (U.keep fun k u=>(o5.other k (X k u)).trans (Z.other k (X k u))) ?_;exact(((Ch.of_below d:Ch (RpF R lr0) w w2).trans M fun y hy=>.inl hy).add (bv (Below.refl _ w3) Z (by omega))).add (bv (Below.refl _ w4) o5 (by omega))
end
abbrev wS :PL:=eff wE (pl0 2)
theorem VJ :vp wS.I wS.L 6=[1,2]:=by decide
theorem SN :PI wS:=(rh 2).eff ((vc (rh 2)).1 Le)
def msC (x:Value):List Value:=mgC 1 1 2 wS.V x 0 0
theorem TE :∀v∈msC (.slice a n c),v.oneCell'=true:=by
 intro v d;unfold msC mgC at d;simp only[List.mem_append,List.mem_cons,List.not_mem_nil,or_false]at d;rcases d with(rfl|rfl|rfl)|(d|rfl|rfl|rfl)
 ·rfl
 ·rfl
 ·rfl
 ·exact CM v d
 ·rfl
 ·rfl
 ·rfl
theorem Rt :(Tryz.prog.info? 38).map (fun i=>(i.zero,i.size,i.bytes))=some (some (.agg (mgC 0 0 0 v0 (.slice none 0 0) 0 0).toArray),12,112):=by kernel_rfl
section
variable {w:World}{K:KV}{R:RpB}
theorem VP (O:ON w B a 2 c [1,2])(h:K cT w):call Tryz.prog 30 #[.slice a 2 c,iv 1] K w:=by
 refine aj (goK func30) (yH (aj (goK func60) (Bn (bj underlying96 ?_))));obtain⟨U,d,J,j⟩:=cq O (by omega);refine zx (Inv:=fun i wr=>i=ci 0∧w=wr) (μ:=fun _ _=>0) ⟨rfl,rfl⟩ ?_;rintro _ dd _ X ⟨rfl,rfl⟩ M;have c0:d[0]? = some (iv 1):=by
  have u:=j.take;have I:(d.take (2*1))[0]? = some (iv 1):=by rw[u];rfl
  rwa[List.getElem?_take_of_lt (by omega)]at I
 rw[J];refine aM (ax (by omega) (dJ underlying96 (s:=1) (fun _=>by kernel_rfl) (by omega) (by omega) (lK (v:=iv 1) j.blk c0 (bg (ax rfl (bM ?_))))));simpa using h
theorem U9 {a:Option Nat}(h:RpM w R 1 wS [] (lr1 a cp) 1 gp0)(hd:DmM w R.d m)(j:∀w' oa oc u I,w'.ownsRow w.heap.size 38 12 (.slice oa 1 oc) 1 ([()].flatMap fun _=>msC (.slice u 1 I))→w'.ownsRow w.heap.size 54 14 (.slice u 1 I) 1 ([wE].flatMap evC)→Below w.heap.size w w'→K (.slice oa 1 oc) w'):call Tryz.prog 10 #[pB R.p,cu x] K w:=by
 refine aj (goK func10) (Bl (wy (aO (ai (uN (lK (v:=pB R.q.p) h.b rfl ?_))))));refine HG h.pm SN (by show 0≤1000000;omega) fun w1 t ga gc O b1=>?_;have hi:=SN;have tl:(saC t).length=20:=rA (by rw[O.eI];exact hi.i6) (by rw[O.eL];exact hi.l6) (by rw[O.eV];exact hi.v6);have a9:∀v∈saC t,v.oneCell'=true:=by
  intro v hv;unfold saC at hv;rw[O.gv]at hv;simp only[List.mem_append,List.mem_map,List.mem_cons,List.not_mem_nil,or_false]at hv;rcases hv with((⟨_,_,rfl⟩|⟨_,_,rfl⟩)|⟨_,_,rfl⟩)|(rfl|rfl)<;>rfl
 refine dZ (z:=.agg (saC ⟨List.replicate 6 false,List.replicate 6 false,List.replicate 6 0,[],none,0,.slice none 0 0⟩).toArray) (by kernel_rfl) fun w2 z2 b2 s2=>?_;have z2:blk w2 w1.heap.size 45 (saC ⟨List.replicate 6 false,List.replicate 6 false,List.replicate 6 0,[],none,0,.slice none 0 0⟩):=by simpa[Value.cells]using z2
 refine jP (n:=20) (vs:=saC t) (by kernel_rfl) tl z2 (by show 0+20≤20;omega) a9 fun w3 z3 o3=>?_;rw[List.take_zero,List.nil_append,List.drop_of_length_le (by show 20≤0+20;omega),List.append_nil]at z3;have av:Below w1.heap.size w1 w3:=bv b2 o3 (Nat.le_refl _);have am:=b1.trans (av.mono b1.size)
 refine ldA (n:=20) (vs:=saC t) underlying45 rfl (by kernel_rfl) z3 (by rw[List.drop_zero,List.take_of_length_le (by omega)]) tl ?_;refine Vg ((O.fresh av).sk hi) fun w4 la lc ho b4=>?_;rw[O.eI,O.eL,VJ]at ho ⊢;have ho:ON w4 w3.heap.size la 2 lc [1,2]:=ho;have U:=am.trans (b4.mono am.size);have h4:=h.below U;have z4:=ac b4 z3 z3.lt
 refine ai (wG (lK (v:=iv 1) h4.b rfl (VP ho (dB (aO (ai (LD (lK (v:=pB R.d) h4.b rfl ?_))))))));refine SZ (hd.below U) fun w5 b5=>bj underlying99 ?_;have ar:=U.trans (b5.mono U.size);have a8:ON w5 w3.heap.size la 2 lc [1,2]:=cJ ho fun k J=>b5.block k (World.ownsRow.lt ho k J).2;have z5:=ac b5 z4 z4.lt;obtain⟨lb,ag,a0,ap⟩:=cq a8 (by omega);subst a0;have s3:=am.size
 have cutV:=(JW (t:=t) (by rw[O.eI];exact hi.i6) (by rw[O.eL];exact hi.l6) (by rw[O.eV];exact hi.v6)).2.2;rw[O.eV]at cutV;obtain⟨mi,a3,a7,a4,a2⟩:=info_parts Rt;refine ze (Inv:=fun i wr=>i=ci 0∧w5=wr) (μ:=fun _ _=>0) ⟨rfl,rfl⟩ ?_;rintro _ dd _ mu ⟨rfl,rfl⟩ a6;refine aM (aq (by omega) (zl (bj underlying96 ?_)))
 refine zh (Inv:=fun Z i wr=>Below w5.heap.size w5 wr∧((i=ci 0∧Z=.slice none 0 0)∨(i=ci 1∧Z=.slice none 0 0)∨(i=ci 2∧∃oa oc u I,Z=.slice oa 1 oc∧wr.ownsRow w.heap.size 38 12 (.slice oa 1 oc) 1 ([()].flatMap fun _=>msC (.slice u 1 I))∧wr.ownsRow w.heap.size 54 14 (.slice u 1 I) 1 ([wE].flatMap evC)))) (μ:=fun _ i _=>2-(intOf i).toNat) ⟨Below.refl _ _,.inl ⟨rfl,rfl⟩⟩ ?_
 rintro Z _ dd w6 be ⟨b6,aS⟩ ad;have M:=ar.trans (b6.mono ar.size);have h6:=h.below M;have al:=ac b6 ap.blk ap.blk.lt;have lv:∀(k:Nat) (v:Int),k<2→([1,2]:List Int)[k]? = some v→ag[k]? = some (iv v):=fun k v J hv=>by
  have h2:(ag.take (2*1))[k]? = some (iv v):=by rw[ap.take,List.getElem?_map,hv];rfl
  rwa[List.getElem?_take_of_lt (by omega)]at h2
 rcases aS with⟨rfl,rfl⟩|⟨rfl,rfl⟩|⟨rfl,oa,oc,u,I,rfl,r6,e6⟩
 ·refine aM (ax (by decide) (rV ?_));refine dJ underlying96 (s:=1) (fun _=>by kernel_rfl) (by decide) (by decide) (lK (v:=iv 1) al (lv 0 1 (by omega) rfl) ?_);refine ai (wG (lK (v:=iv 1) h6.b rfl (bN (aq (by simp) (rW (aW (by omega) (by omega) ⟨⟨b6,.inr (.inl ⟨rfl,rfl⟩)⟩,by rw[ad];show 2-((0:Int)+1).toNat<2-(0:Int).toNat;decide⟩))))))
 ·refine aM (ax (by decide) (rV ?_));refine dJ underlying96 (s:=1) (fun _=>by kernel_rfl) (by decide) (by decide) (lK (v:=iv 2) al (lv 1 2 (by omega) rfl) ?_);refine ai (wG (lK (v:=iv 1) h6.b rfl (bN (ax (by decide) ?_))));have z6:=ac b6 z5 z5.lt;have an:=h6.below (Below.refl _ w6).drew
  refine aw (fun y=>blk y R.p 91 [iv (1:Nat),pB R.q.p,pB R.g,pB R.h,pB R.e,pB R.d]∧blk y w1.heap.size 45 (saC t)) ⟨an.b,z6.drew⟩ ?_;refine ab (fun y d _ j=>ai j) (ab (fun y d _ j=>wG j) (ab (v:=iv 1) (fun y d _ j=>lK d.1 rfl j) ?_));refine ab (fun y d _ j=>ot j) (ab (fun y d _ j=>ldA (n:=6) (vs:=vCs wS.V) underlying35 rfl (by kernel_rfl) d.2 cutV rfl j) ?_)
  refine ab (fun y d _ j=>ai j) (ab (fun y d _ j=>LA j) (ab (v:=pB R.e) (fun y d _ j=>lK d.1 rfl j) ?_));refine ab (fun y d _ j=>ai j) (ab (fun y d _ j=>Ha j) (ab (v:=pB R.g) (fun y d _ j=>lK d.1 rfl j) ?_));refine Tw an.e an.g fun w7 u I r7 b7=>?_;have X:Below w6.heap.size w6 w7:=(Below.refl _ w6).drew.trans b7
  refine aE ⟨(h6.below X).b,ac X z6 z6.lt⟩ <|ab (v:=.agg (msC (.slice u 1 I)).toArray) (fun y d _ j=>eT (vs:=msC (.slice u 1 I)) (by kernel_rfl) j) ?_;refine mY [.agg (msC (.slice u 1 I)).toArray] underlying30 (s:=12) (by kernel_rfl) (by kernel_rfl) (by omega) rfl (by simp) (by decide) rfl (by
   intro v hv;rw[List.mem_singleton.1 hv];rfl) fun w8 m8 b8 s8=>?_
  have m8:blk w8 w7.heap.size 38 (msC (.slice u 1 I)):=by simpa[Value.cells]using m8
  have bd:=M.size;have bi:=X.size;have bk:=b8.size;have r8:=cJ (Ku r7 (show w.heap.size≤w6.drew.heap.size from bd)) (w':=w8) fun k J=>b8.block k (World.ownsRow.lt r7 k J).2
  refine aw (fun _=>True) trivial (FK (s:=12) (m:=1) (g:=w7.heap.size) (q:=0) (zs:=msC (.slice u 1 I)) (ys:=msC (.slice u 1 I)) underlying30 a3 a7 a4 a2 rfl (by omega) (World.ownsRow_nil w8 w.heap.size _ _) m8 rfl rfl TE (by omega) (by omega) (by omega) fun a' c' w9 r9 g9=>?_);have az:Below w8.heap.size w8 w9:=dW g9 (Nat.le_refl _) fun k J=>by cases J
  have bb:=cJ r8 (w':=w9) fun k J=>az.block k (World.ownsRow.lt r8 k J).2;refine aw (fun _=>True) trivial (rW (aW (by omega) (by omega) ⟨⟨((b6.trans (X.mono b6.size)).trans (b8.mono (by have:=b6.size;omega))).trans (az.mono (by have:=b6.size;omega)),.inr (.inr ⟨rfl,a',c',u,I,rfl,r9,bb⟩)⟩,by rw[ad];show 2-((1:Int)+1).toNat<2-(1:Int).toNat;decide⟩))
 ·refine aM (aq (by decide) (zo (ai (LD (lK (v:=pB R.d) h6.b rfl ?_)))));refine UJ (hd.below M) fun w7 b7=>bj underlying99 <|zj (Inv:=fun o i wr=>o=.slice oa 1 oc∧i=ci 0∧w7=wr) (μ:=fun _ _ _=>0) ⟨rfl,rfl,rfl⟩ ?_;rintro _ _ dd _ mu ⟨rfl,rfl,rfl⟩ a6
  exact aM (aq (by omega) (zq (j w7 oa oc u I (cJ r6 fun k J=>b7.block k (World.ownsRow.lt r6 k J).2) (cJ e6 fun k J=>b7.block k (World.ownsRow.lt e6 k J).2) (M.trans (b7.mono M.size)))))
end
theorem Qx (hkd : KD w) (h : ∀ w', Below w.heap.size w w' → K cT w') : call Tryz.prog 6 #[] K w := by
  refine aj (goK Tryz.func6) (ER ?_)
  refine Qm (n := 2) (i := 1) hkd (by omega) (by omega) ⟨by omega, by omega⟩ fun w1 R h1 hF1 b1 hdm => ?_
  obtain ⟨m, hd1, hlt⟩ := hdm
  refine cZ (db (bN (dX (by simp) (wy (bw (by simp) (aO ?_))))))
  refine eT (vs := aC) (by kernel_rfl) (Wg h1 fun w2 a cp h2 c2 => cZ (db ?_))
  have hd2 := hd1.ch c2 (fun hh => by have := (hlt _ hh).2; omega) fun hh => by have := (hlt _ hh).1; omega
  have b02 : Below w.heap.size w w2 := b1.trans (c2.below hF1 b1.size)
  refine nG fun w3 z3 b3 s3 => lj (e' := wE) z3 fun w4 z4 o4 => ?_
  have b24 : Below w2.heap.size w2 w4 := bv b3 o4 (Nat.le_refl _)
  refine U9 (h2.below b24) (hd2.below b24) fun w5 oa oc fa fc r5 e5 b5 => ?_
  have z5 := ac b5 z4 z4.lt
  have b05 := (b02.trans (b24.mono b02.size)).trans (b5.mono (Nat.le_trans b02.size b24.size))
  obtain ⟨mb, mc, hma, mop⟩ := cq r5 (by omega)
  obtain ⟨eb, ec, hea, eop⟩ := cq e5 (by omega)
  subst hma hea
  have mt : mc.take 12 = msC (.slice (some ⟨eb, 0, none⟩) 1 fc) := mop.take
  have lm : ∀ k v, k < 12 → (msC (.slice (some ⟨eb, 0, none⟩) 1 fc))[k]? = some v → mc[k]? = some v := fun k v hk hv => by
    rw [← mt, List.getElem?_take_of_lt hk] at hv; exact hv
  have et : ec.take 14 = evC wE := eop.take
  have mx : ∀ {x : World} {K : KV}, K (.pointer (some ⟨mb, 0 + 0 * 12, none⟩)) x → aV Tryz.prog 30 (.slice (some ⟨mb, 0, none⟩) 1 oc) (ci 0) K x := fun hK => dJ Tryz.underlying30 (s := 12) (fun _ => by kernel_rfl) (by decide) (by decide) hK
  have mblk := mop.blk.drew
  refine Dm ?_
  refine aa (v := .bool true) (fun K hK => bg (by simpa using hK)) (kS ?_)
  refine aa (fun K hK => iZ hK) (aa (v := u6 1) (fun K hK => ld1 (fun _ => by kernel_rfl) z5.drew rfl hK) (aa (v := .bool true) (fun K hK => bg (by simpa using hK)) ?_))
  refine aa (v := .bool true) (fun K hK => bX hK) (kS ?_)
  refine aa (fun K hK => bj Tryz.underlying30 hK) (aa (v := .bool true) (fun K hK => bg (by simpa using hK)) ?_)
  refine aa (v := .bool true) (fun K hK => bX hK) (kS ?_)
  refine aa (fun K hK => mx hK) (aa (fun K hK => Da hK) (aa (v := iv 2) (fun K hK => ld1 (fun _ => by kernel_rfl) mblk (lm 2 _ (by omega) rfl) hK) (aa (v := .bool true) (fun K hK => bg (by simpa using hK)) ?_)))
  refine aa (v := .bool true) (fun K hK => bX hK) (kS ?_)
  refine aa (fun K hK => mx hK) (aa (fun K hK => GX hK) (aa (v := .int .u8 1) (fun K hK => ld1 (fun _ => by kernel_rfl) mblk (lm 0 _ (by omega) rfl) hK) (aa (v := .bool true) (fun K hK => bg (by simpa using hK)) ?_)))
  refine aa (v := .bool true) (fun K hK => bX hK) (kS ?_)
  refine aa (fun K hK => mx hK) (aa (fun K hK => zP hK) (aa (v := .slice (some ⟨eb, 0, none⟩) 1 fc) (fun K hK => ld1 (fun _ => by kernel_rfl) mblk (lm 9 _ (by omega) rfl) hK) (aa (fun K hK => bj Tryz.underlying36 hK) (aa (v := .bool true) (fun K hK => bg (by simpa using hK)) ?_))))
  refine aa (v := .bool true) (fun K hK => bX hK) (kS ?_)
  refine aa (fun K hK => mx hK) (aa (fun K hK => zP hK) (aa (v := .slice (some ⟨eb, 0, none⟩) 1 fc) (fun K hK => ld1 (fun _ => by kernel_rfl) mblk (lm 9 _ (by omega) rfl) hK) ?_))
  refine aa (v := .pointer (some ⟨eb, 0 + 0 * 14, none⟩)) (fun K hK => dJ Tryz.underlying36 (s := 14) (fun _ => by kernel_rfl) (by decide) (by decide) hK) ?_
  refine aa (v := evV wE) (fun K hK => ldA (n := 14) (vs := evC wE) Tryz.underlying54 rfl (by kernel_rfl) eop.blk.drew et rfl hK) (aa (v := evV wE) (fun K hK => gB z5.drew hK) ?_)
  refine aa (v := .bool true) (fun K hK => Cf 6 (by omega) (by kernel_rfl) (by kernel_rfl) (by kernel_rfl) (by kernel_rfl) fun r hr => by rw [hr.2 rfl]; exact hK) ?_
  exact aa (v := .bool true) (fun K hK => bX hK) (h _ b05.drew)
end
section
open Go.ChangeShapes Go.WideShapes Go.ChangeAt Go.RowKit Go.Deep
section
variable {H:Type}{enc:TypeId×Value→H}{W:World}{base:Nat}{held:Bool}
theorem MP (h:(Lit.int .u8 x).wf=true):0≤x∧x≤255:=by simpa[Lit.wf,IntKind.min,IntKind.max,IntKind.signed,IntKind.bits]using h
theorem RX {fuel:Nat}{x:DataW H×List MemPlace}(h:DataW.trod enc Tryz.prog W base (fun _=>true) held fuel 70 cs=some x):∃y:AC,cs=acC y∧Fm y:=by
 obtain⟨xs,n,rfl,rfl,j,I,d⟩:=DataW.trod_struct underlying70 h;have h9:cs.length=9:=by rw[j];kernel_rfl
 match cs,h9 with
 | [c0,c1,c2,c3,c4,c5,c6,c7,c8],_ =>
  have u:xs.length=9:=I
  match xs,u with
  | [x0,x1,x2,x3,x4,x5,x6,x7,x8],_ =>
   have h0:DataW.trod enc Tryz.prog W base (fun _=>true) held n 5 [c0]=some x0:=Eq.mp (by kernel_rfl) (d 0 _ rfl);have h1:DataW.trod enc Tryz.prog W base (fun _=>true) held n 4 [c1]=some x1:=Eq.mp (by kernel_rfl) (d 1 _ rfl);have h2:DataW.trod enc Tryz.prog W base (fun _=>true) held n 5 [c2]=some x2:=Eq.mp (by kernel_rfl) (d 2 _ rfl)
   have h3:DataW.trod enc Tryz.prog W base (fun _=>true) held n 5 [c3]=some x3:=Eq.mp (by kernel_rfl) (d 3 _ rfl);have h4:DataW.trod enc Tryz.prog W base (fun _=>true) held n 5 [c4]=some x4:=Eq.mp (by kernel_rfl) (d 4 _ rfl);have h5:DataW.trod enc Tryz.prog W base (fun _=>true) held n 5 [c5]=some x5:=Eq.mp (by kernel_rfl) (d 5 _ rfl)
   have h6:DataW.trod enc Tryz.prog W base (fun _=>true) held n 68 [c6]=some x6:=Eq.mp (by kernel_rfl) (d 6 _ rfl);have h7:DataW.trod enc Tryz.prog W base (fun _=>true) held n 5 [c7]=some x7:=Eq.mp (by kernel_rfl) (d 7 _ rfl);have h8:DataW.trod enc Tryz.prog W base (fun _=>true) held n 5 [c8]=some x8:=Eq.mp (by kernel_rfl) (d 8 _ rfl);obtain⟨z0,J,_,w0⟩:=DataW.trod_int underlying5 h0
   obtain⟨z1,M,_⟩:=DataW.trod_bool underlying4 h1;obtain⟨z2,O,_,w2⟩:=DataW.trod_int underlying5 h2;obtain⟨z3,U,_,w3⟩:=DataW.trod_int underlying5 h3;obtain⟨z4,X,_,w4⟩:=DataW.trod_int underlying5 h4;obtain⟨z5,Z,_,w5⟩:=DataW.trod_int underlying5 h5;obtain⟨z6,e6,_,w6⟩:=DataW.trod_int underlying68 h6;obtain⟨z7,e7,_,w7⟩:=DataW.trod_int underlying5 h7
   obtain⟨z8,e8,_,w8⟩:=DataW.trod_int underlying5 h8;simp only[List.cons.injEq,and_true]at J M O U X Z e6 e7 e8;subst J M O U X Z e6 e7 e8;exact⟨⟨z0,z1,z2,z3,z4,z5,z6,z7,z8⟩,rfl,MP w0,MP w2,MP w4,by simpa[Lit.wf,IntKind.min,IntKind.max,IntKind.signed,IntKind.bits]using w6⟩
theorem Om {fuel:Nat}{x:DataW H×List MemPlace}(hc:cs=[.slice a n c])(hf:DataW.trod enc Tryz.prog W base (fun _=>true) held fuel 63 cs=some x):(∃L,AR W a n c L)∧n≤c∧c≤9223372036854775807:=by
 obtain⟨d,p⟩:=x;rcases open_slice underlying63 hf with⟨I,_⟩|⟨M,av,cap,m,k,D,Pl,I,ar,hl,hm,Z,hx,U⟩
 ·rw[hc]at I;simp only[List.cons.injEq,Value.slice.injEq,and_true]at I;obtain⟨rfl,rfl,rfl⟩:=I;exact⟨⟨[],rfl,fun h=>by omega,fun i s h=>by simp at h,fun x hx=>by cases hx⟩,by omega,by omega⟩
 ·rw[hc]at I;simp only[List.cons.injEq,Value.slice.injEq,and_true]at I;obtain⟨rfl,rfl,rfl⟩:=I;simp only[if_true]at Z;subst Z;refine⟨?_,hl,by simpa[maxLen]using hm⟩;have h9:Tryz.prog.cellsOf 70=9:=by kernel_rfl
  have O:∀i,i<n→∃q:AC,Fm q∧∀j u,(acC q)[j]? = some u→W.cell? ((M.add (i*9)).add j)=some u:=by
   intro i hi;obtain⟨ap,X,al⟩:=U i (by omega);rw[h9]at X;obtain⟨_,an,J⟩:=World.cells?_some X;obtain⟨s,rfl,h1⟩:=RX al;refine⟨s,h1,fun j u hu=>?_⟩;have hj:=(List.getElem?_eq_some_iff.1 hu).1;have hj:j<9:=hj;rw[J j hj];exact hu
  haveI:Inhabited AC:=⟨⟨0,false,0,0,0,0,0,0,0⟩⟩
  obtain⟨Q,hQ⟩:=choose_lt O;have ag:0<n→M.spot=none:=by
   intro h0;obtain⟨_,am⟩:=hQ 0 h0
   have:=World.cell?_spot (am 0 _ rfl)
   exact this
  refine⟨(List.range n).map Q,by simp,fun h0=>⟨M.block,M.off,by have:=ag h0;obtain⟨b,o,s⟩:=M;cases this;rfl⟩,fun i s hs b o ha j u hu=>?_,fun x hx=>?_⟩
  ·have hi:i<n:=by have:=(List.getElem?_eq_some_iff.1 hs).1;simpa using this
   simp only[List.getElem?_map,List.getElem?_range hi,Option.map_some,Option.some.injEq]at hs;subst hs;obtain⟨q1,q4⟩:=hQ i hi;cases ha
   have:=q4 j u hu
   rw[Bq,Bq]at this;exact this
  ·obtain⟨i,hi,rfl⟩:=List.mem_map.1 hx;exact(hQ i (List.mem_range.1 hi)).1
end
end
section
open Go.RowKit
def rlG (g:Nat):Option (Nat×List Value):=match Nat.beq g 0 with|true=>some (0,LU)|false=>none
theorem Gv {W : World} {K : KV} (n : Int) (hn : 0 ≤ n ∧ n ≤ 255) (a : Option Addr) (m c : Nat) (X : List AC) (hX : AR W a m c X) (_hc : m ≤ c) (_hcm : c ≤ 9223372036854775807) (oa : Option Addr) (on oc : Nat) (l : List UInt8) (hO : RB W oa on oc l) (_ho : on ≤ oc) (_hom : oc ≤ 9223372036854775807)
    (hg : ∀ g e cs, rlG g = some (e, cs) → gbk W g cs) (h : ∀ w', Below W.heap.size W w' → K (.bool true) w') : call Tryz.prog 4 #[.int .u8 n, .slice a m c, .slice oa on oc] K W := by
  have hk : KD W := hg 0 0 LU rfl
  refine Ft (O := l.map fun x => ((x.toNat : Nat) : Int)) hk hn hX (by rw [List.map_map]; exact hO) (fun x hx => ?_) (fun w' K' b hK' => Qx (hk.below b) hK') h
  obtain ⟨u, _, rfl⟩ := List.mem_map.1 hx
  have := u.toNat_lt
  omega
end
end Go.Proofs.YtkbhfjljieopoaaGreatDoor
