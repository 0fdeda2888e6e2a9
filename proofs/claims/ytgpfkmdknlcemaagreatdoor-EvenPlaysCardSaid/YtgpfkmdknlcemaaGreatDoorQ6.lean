/- Laid together: R09 R09b SR07b R07e R07f SR08 R08 R08b R10. -/
import Derived.Test.YtgpfkmdknlcemaaGreatDoorQ5
import Derived.Test.YtgpfkmdknlcemaaGreatDoorQ4
import Derived.Test.YtgpfkmdknlcemaaGreatDoorQ2
import Derived.Test.YtgpfkmdknlcemaaGreatDoorQ3
namespace Go.Proofs.YtgpfkmdknlcemaaGreatDoor
set_option maxRecDepth 100000
open Go.RowKit
def tnC (x:Int × Int):List Value:=[u6 x.1,u6 x.2]
theorem lh (x:Int × Int):(tnC x).length=2:=rfl
theorem tz (x:Int × Int):∀ v ∈ tnC x,v.oneCell'=true:=by simp [tnC,u6,Value.oneCell']
theorem Hw {L:List (Int × Int)} {id:Int} {k:Nat} {x:Int × Int} (hx:L[k]? = some x) (hid:x.1=id) (hb:∀ j y,j < k→L[j]? = some y→y.1≠id):posT L id=k:=by
 obtain ⟨hk,rfl⟩:=List.getElem?_eq_some_iff.1 hx
 unfold posT
 rw [List.findIdx_eq hk]
 refine ⟨by simp [hid],fun j hj => ?_⟩
 have:=hb j _ hj (List.getElem?_eq_getElem (by omega))
 simpa using this
theorem DE {L:List (Int × Int)} {id:Int} (hb:∀ (j:Nat) y,L[j]? = some y→y.1≠id) : ¬ posT L id < L.length:=by
 intro h
 unfold posT at h
 have:=List.findIdx_getElem (w:=h)
 exact hb _ _ (List.getElem?_eq_getElem h) (by simpa using this)
theorem jz {T:List (Int × Int)} {id:Int}:ef T id=true↔posT T id < T.length:=by
 unfold ef posT
 rw [List.findIdx_lt_length]
 simp
theorem Bu {T:List (Int × Int)} {id:Int}:(decide (fdT T id ≥ 0))=ef T id:=by
 unfold fdT
 cases hq:ef T id with
 | true=>rw [if_pos (jz.1 hq)]; simp
 | false =>
  rw [if_neg (fun h=>by rw [jz.2 h] at hq; cases hq)]
  rfl
theorem zI {T:List (Int × Int)} {id:Int} (h:posT T id < T.length):∃ x,T[posT T id]? = some x∧x.1=id∧x.2=qg T id∧x ∈ T:=by
 have hx:=List.getElem?_eq_getElem h
 have:=List.findIdx_getElem (w:=h) (p:=fun x:Int × Int=>x.1 == id)
 refine ⟨_,hx,eq_of_beq this, ?_,List.getElem_mem h⟩
 unfold qg
 rw [List.getD_eq_getElem?_getD,hx]; rfl
theorem vZ {T:List (Int × Int)} {rk:Int→Nat} (ht:TK T rk):∀ (f g:Nat) (id:Int),upT T rk id≤f→upT T rk id≤g→jN T f id=jN T g id
 | 0,0,_,_,_=>rfl
 | 0,g+1,id,h,_=>by
  have:ef T id=false:=by
   cases hq:ef T id with
   | false=>rfl
   | true=>unfold upT at h; rw [hq] at h; simp at h
  unfold jN; rw [this]; simp
 | f+1,0,id,_,h=>by
  have:ef T id=false:=by
   cases hq:ef T id with
   | false=>rfl
   | true=>unfold upT at h; rw [hq] at h; simp at h
  unfold jN; rw [this]; simp
 | f+1,g+1,id,h1,h2=>by
  unfold jN
  cases hq:ef T id with
  | false=>simp
  | true =>
   simp only [if_true]
   obtain ⟨x,hx,e1,e2,hm⟩:=zI (jz.1 hq)
   have:=uT ht hm
   rw [e1,e2] at this
   rw [vZ ht f g (qg T id) (by omega) (by omega)]
theorem CF {T:List (Int × Int)} {rk:Int→Nat} (ht:TK T rk) {id:Int} (h:ef T id=true):fq T id=id::fq T (qg T id):=by
 obtain ⟨x,hx,e1,e2,hm⟩:=zI (jz.1 h)
 have hs:=uT ht hm
 rw [e1,e2] at hs
 have hl:=IB ht id
 unfold fq
 conv=>lhs; unfold jN
 rw [if_pos h,vZ ht T.length (T.length+1) (qg T id) (by omega) (by omega)]
theorem DF {T:List (Int × Int)} {id:Int} (h:ef T id=false):fq T id=[]:=by
 unfold fq jN; rw [h]; simp
theorem yl {T:List (Int × Int)}:∀ (f:Nat) (id p:Int),p ∈ jN T f id→ef T p=true
 | 0,_,_,h=>by cases h
 | f+1,id,p,h=>by
  unfold jN at h
  split at h
  ·rename_i hq
   rcases List.mem_cons.1 h with rfl | h
   ·exact hq
   ·exact yl f _ _ h
  ·cases h
theorem oI {T:List (Int × Int)}:∀ (f:Nat) (id:Int),(jN T f id).length≤f
 | 0,_=>Nat.le_refl _
 | f+1,id=>by
  unfold jN
  split
  ·have:=oI (T:=T) f (qg T id); simp; omega
  ·simp
structure TM (w:World) (B t:Nat) (T:List (Int × Int)):Prop where
 row:∃ a c,blk w t 140 [.slice a T.length c]∧w.ownsRow B 199 2 (.slice a T.length c) T.length (T.flatMap tnC)
 lo:B≤t
theorem TM.fresh {w w':World} {B t:Nat} {T:List (Int × Int)} (h:TM w B t T) (hb:Below w.heap.size w w'):TM w' B t T:=by
 obtain ⟨a,c,h1,h2⟩:=h.row
 exact ⟨⟨a,c,ae hb h1 h1.lt,bj h2 fun k hk=>hb.block k (World.ownsRow.lt h2 k hk).2⟩,h.lo⟩
theorem TM.keep {w w':World} {B B2 t:Nat} {Ts:List TypeId} {T:List (Int × Int)} (h:TM w B t T) (hk:Keep Ts B2 w w') (h1:140 ∉ Ts) (h2:199 ∉ Ts):TM w' B t T:=by
 obtain ⟨a,c,g1,g2⟩:=h.row
 exact ⟨⟨a,c,hk.blk g1 (.inr h1),bO g2 hk h2⟩,h.lo⟩
theorem eR {w:World} {K:KV} {b o:Nat} (h:K (.pointer (some ⟨b,o+0,none⟩)) w):aa Tryz.prog 140 (.pointer (some ⟨b,o,none⟩)) 0 K w:=aq (by kernel_rfl) h
theorem FB {w:World} {K:KV} {b o:Nat} (h:K (.pointer (some ⟨b,o+0,none⟩)) w):aa Tryz.prog 199 (.pointer (some ⟨b,o,none⟩)) 0 K w:=aq (by kernel_rfl) h
theorem FC {w:World} {K:KV} {b o:Nat} (h:K (.pointer (some ⟨b,o+1,none⟩)) w):aa Tryz.prog 199 (.pointer (some ⟨b,o,none⟩)) 1 K w:=aq (by kernel_rfl) h
attribute [local irreducible] bin un conv call bl blt slc aa fld af idx lkp bL bP eSt rng nxt ent ext alc box bld aJ ld sto aj bm mkS ifc pick rdy wts au sti cond aH Gives ac aW bA cOp
section
variable {w:World} {K:KV} {B t:Nat} {T:List (Int × Int)}
theorem JD {o s:Int} (ho : -9223372036854775808≤o∧o≤9223372036854775807) (hs:0≤s) (h:K (u6 (if o < 1∨6 < o∨s < 1∨1099511627776≤s then 0 else o * 1099511627776+s)) w):call Tryz.prog 103 #[.int .i64 o,.int .u64 s] K w:=by
 refine aE we (wd ?_)
 refine aD ?_
 by_cases h1:o < 1
 ·rw [if_pos (by omega)] at h
  refine de h1 <|bp h1 <|d8 <|bI <|d8 <|bI ?_
  exact aR h
 refine cE h1 <|cD <|bt h1 ?_
 by_cases h2:6 < o
 ·rw [if_pos (by omega)] at h
  refine de h2 <|bp h2 <|d8 <|bI ?_
  exact aR h
 refine cE h2 <|aD <|bt h2 ?_
 by_cases h3:s < 1
 ·rw [if_pos (by omega)] at h
  refine de h3 <|bp h3 ?_
  exact aR h
 refine cE h3 <|dI <|bt h3 ?_
 by_cases h4:1099511627776≤s
 ·rw [if_pos (by omega)] at h
  exact ai h4 h
 rw [if_neg (by omega)] at h
 refine ag h4 <|dy Tryz.underlying3 Tryz.underlying24 ?_
 rw [kU,show o % 18446744073709551616=o by omega]
 refine Hk (by omega) ?_
 have e:o * 2 ^ (min (40:Int).toNat IntKind.u64.bits)=o * 1099511627776:=rfl
 rw [e,kU,show o * 1099511627776 % 18446744073709551616=o * 1099511627776 by omega]
 refine fC ?_
 rw [kU,show (o * 1099511627776+s) % 18446744073709551616=o * 1099511627776+s by omega]
 exact h
theorem xu {id:Int} (ht:TM w B t T) (hn:T.length≤1000000) (h:K (.int .i64 (fdT T id)) w):call Tryz.prog 127 #[.pointer (some ⟨t,0,none⟩),.int .u64 id] K w:=by
 obtain ⟨a,c,hb,ho⟩:=ht.row
 refine aE oT (oS ?_)
 refine nY (Inv:=fun i wr => ∃ k:Nat,i=.int .i64 (k:Nat)∧k≤T.length∧wr=w∧∀ j y,j < k→T[j]? = some y→y.1≠id) (μ:=fun i _=>T.length - (intOf i).toNat) ⟨0,rfl,by omega,rfl,fun j y hj=>by omega⟩ ?_
 rintro _ dd wr m ⟨k,rfl,hk,rfl,hall⟩ hm
 refine ak ?_
 refine eR ?_
 refine ld1 (v:=.slice a T.length c) (fun _=>by kernel_rfl) hb rfl ?_
 refine aI Tryz.underlying138 ?_
 refine aD ?_
 by_cases hkn:k < T.length
 ·refine ai (by omega) ?_
  refine ak ?_
  refine eR ?_
  refine ld1 (v:=.slice a T.length c) (fun _=>by kernel_rfl) hb rfl ?_
  have hx:T[k]? = some T[k]:=List.getElem?_eq_getElem hkn
  generalize T[k]=x at hx
  refine rd3 (enc:=tnC) (s:=2) (f':=0) (v:=u6 x.1) Tryz.underlying138 (fun _=>by kernel_rfl) lh (fun _=>by kernel_rfl) (by kernel_rfl) (by omega) ho rfl hx rfl fun _ _ => ?_
  refine aN ?_
  by_cases he:x.1=id
  ·refine ai he ?_
   have hp:=Hw hx he hall
   unfold fdT at h
   rw [hp,if_pos hkn] at h
   exact h
  ·refine ag he ?_
   refine aF (by omega) (by omega) ?_
   refine ⟨⟨k+1,congrArg (Value.int .i64) (by push_cast; rfl),by omega,rfl,fun j y hj hy => ?_⟩,by rw [hm]; show T.length - ((k:Int)+1).toNat < T.length - (k:Int).toNat; omega⟩
   by_cases hjk:j=k
   ·subst hjk; rw [hx] at hy; cases hy; exact he
   ·exact hall j y (by omega) hy
 ·refine ag (by omega) ?_
  refine nZ ?_
  have hp:=DE (L:=T) (id:=id) fun j y hy=>hall j y (by have:=(List.getElem?_eq_some_iff.1 hy).1; omega) hy
  unfold fdT at h
  rw [if_neg hp] at h
  exact h
theorem zJ {id:Int} (ht:TM w B t T) (hn:T.length≤1000000) (h:K (.bool (ef T id)) w):call Tryz.prog 126 #[.pointer (some ⟨t,0,none⟩),.int .u64 id] K w:=by
 refine aE pu (pr ?_)
 refine xu ht hn <|dI ?_
 rw [show decide (0≤fdT T id)=ef T id from Bu]
 exact h
theorem oJ:(Tryz.prog.info? 24).map (fun i=>(i.zero,i.size,i.bytes))=some (some (u6 0),1,8):=by kernel_rfl
set_option maxHeartbeats 2000000 in
theorem tA {id:Int} {rk:Int→Nat} (htk:TK T rk) (ht:TM w B t T) (hn:T.length≤100000)
  (h:∀ w' a c,w'.ownsRow w.heap.size 24 1 (.slice a (fq T id).length c) (fq T id).length ((fq T id).map u6)→Below w.heap.size w w'→K (.slice a (fq T id).length c) w') :
  call Tryz.prog 106 #[.pointer (some ⟨t,0,none⟩),.int .u64 id] K w:=by
 refine aE oW (oU ?_)
 refine o0 (Inv:=fun iv' out wr => ∃ (d:Int) (O:List Int) (a:Option Addr) (c:Nat),iv'=.int .u64 d∧out=.slice a O.length c∧O++fq T d=fq T id∧wr.ownsRow w.heap.size 24 1 (.slice a O.length c) O.length (O.flatMap uC)∧Below w.heap.size w wr)
  (μ:=fun iv' _ _=>upT T rk (intOf iv')) ⟨id,[],none,0,rfl,rfl,rfl,World.ownsRow_nil _ _ _ _,Below.refl _ _⟩ ?_
 rintro _ _ dd w1 m ⟨d,O,a,c,rfl,rfl,hO,ho,b1⟩ hm
 have ht1:=ht.fresh b1
 have hlen:O.length≤T.length+1:=by
  have:=oI (T:=T) (T.length+1) id
  have h2:=congrArg List.length hO
  rw [List.length_append] at h2
  unfold fq at h2; omega
 refine xu ht1 (by omega) <|dI ?_
 have hf:decide (0≤fdT T d)=ef T d:=Bu
 rw [hf]
 cases hq:ef T d with
 | true =>
  refine aR ?_
  rw [CF htk hq] at hO
  obtain ⟨x,hx,e1,e2,hmem⟩:=zI (jz.1 hq)
  have hup:=uT htk hmem
  rw [e1,e2] at hup
  refine hH (vs:=[.int .u64 d]) Tryz.underlying76 (s:=1) (by kernel_rfl) (by kernel_rfl) (by omega) rfl (by simp) (by simp) (by simp) (by simp [Value.cells]) fun w2 h2 b2 s2 => ?_
  have h2:blk w2 w1.heap.size 24 (uC d):=by simpa [Value.cells,u6,uC] using h2
  obtain ⟨ii,hi',hz,hsz,hby⟩:=info_parts oJ
  have ho2:w2.ownsRow w.heap.size 24 1 (.slice a O.length c) O.length (O.flatMap uC):=bj ho fun q hq=>b2.block q (World.ownsRow.lt ho q hq).2
  have hs1:=b1.size
  refine ka (base:=w.heap.size) (enc:=uC) (x:=d) Tryz.underlying76 hi' hz hsz hby rfl (by omega) (fun _=>rfl) ho2 h2 (by simp [uC,u6,Value.oneCell']) (by omega) (by omega) (by omega) fun a' c' w3 ho3 _ b3 _ => ?_
  have b03:Below w.heap.size w w3:=(b1.trans (b2.mono hs1)).trans b3
  have ht3:TM w3.drew B t T:=(ht.fresh b03).fresh (Below.refl _ w3).drew
  obtain ⟨ta,tc,tb,tro⟩:=ht3.row
  obtain ⟨g,cur,rfl,op⟩:=aZ tro (by have:=jz.1 hq; omega)
  refine aC (fun y=>blk y t 140 [.slice (some ⟨g,0,none⟩) T.length tc]∧blk y g 199 cur) ⟨tb,op.blk⟩ <|ab (fun y hy _=>ak) <|ab (fun y hy _=>eR) <|ab (v:=.slice (some ⟨g,0,none⟩) T.length tc) (fun y hy _=>ld1 (fun _=>by kernel_rfl) hy.1 rfl) <|xu ht3 (by omega) <|bn ⟨tb,op.blk⟩ ?_
  have hfd:fdT T d=(posT T d:Nat):=by unfold fdT; rw [if_pos (jz.1 hq)]
  rw [hfd]
  have hpl:=jz.1 hq
  refine ab (v:=.pointer (some ⟨g,0+((posT T d:Nat):Int).toNat * 2,none⟩)) (fun y hy _=>bJ Tryz.underlying138 (s:=2) (fun _=>by kernel_rfl) (by omega) (by omega)) <|ab (fun y hy _=>FC) <|ab (v:=u6 (qg T d)) (fun y hy _=>ld1 (fun _=>by kernel_rfl) hy.2 (by rw [Int.toNat_natCast,Nat.zero_add,op.cell lh rfl hx (by omega), ← e2]; rfl)) ?_
  refine ⟨⟨qg T d,O++[d],a',c',rfl,by rw [List.length_append]; rfl,by rw [← hO,List.append_assoc]; rfl,by rw [List.length_append]; exact ho3,b03.drew⟩, ?_⟩
  rw [hm]
  exact hup
 | false =>
  refine cW <|od ?_
  rw [DF hq,List.append_nil] at hO
  subst hO
  rw [xy] at ho
  exact h w1 a c ho b1
end
end Go.Proofs.YtgpfkmdknlcemaaGreatDoor
namespace Go.Proofs.YtgpfkmdknlcemaaGreatDoor
set_option maxRecDepth 100000
open Go.RowKit
abbrev gtI (id:Int):Int × Int→Bool:=fun x=>decide (id < x.1)
abbrev qj:List TypeId:=[140,199]
attribute [local irreducible] bin un conv call bl blt slc aa fld af idx lkp bL bP eSt rng nxt ent ext alc box bld aJ ld sto aj bm mkS ifc pick rdy wts au sti cond aH Gives ac aW bA cOp
section
variable {w:World} {K:KV} {B t:Nat} {T:List (Int × Int)}
theorem zK:(Tryz.prog.info? 199).map (fun i=>(i.zero,i.size,i.bytes))=some (some (.agg #[u6 0,u6 0]),2,16):=by kernel_rfl
set_option maxHeartbeats 4000000 in
theorem Bv {t0 id1 parent2 t3 id4 parent5 t6 at7 t8 t9 t10 t11 t12 t13 t14 t15 t16 t17 t18 t19 t20 t21 t22 t23 t24 t25 t26 t27 t28 t29 t30 t31 t32 t33 t34 t35 t36 t37 t38 t39 t40 t41 t42 t43 t44 t45 t46 t47 t48 t49 t50 t51 t52 t53 t54 t55 t56 t57 t58 t59 t60 t61 t62 t63 t64 t65 t66 t67 t68 t69 t70 t71 t72 t73 t74 t75 t76 t77 t78 t79 t80 t81 t82 t83 t84 t85 t86 t87 t88:Value} {id par:Int} (ht:TM w B t T) (hn:T.length≤1000) (hB:B≤w.heap.size) (q1:t0=.pointer (some ⟨t,0,none⟩)) (q2:id1=.int .u64 id) (q3:parent2=.int .u64 par) (q4:at7=.int .i64 (T.length:Nat))
  (h:∀ w',TM w' B t (ee T (nP (gtI id) T T.length) (id,par))→Keep qj B w w'→K (.int .i64 0) w'):fh K ((t0::id1::parent2::t3::id4::parent5::t6::at7::t8::t9::t10::t11::t12::t13::t14::t15::t16::t17::t18::t19::t20::t21::t22::t23::t24::t25::t26::t27::t28::t29::t30::t31::t32::t33::t34::t35::t36::t37::t38::t39::t40::t41::t42::t43::t44::t45::t46::t47::t48::t49::t50::t51::t52::t53::t54::t55::t56::t57::t58::t59::t60::t61::t62::t63::t64::t65::t66::t67::t68::t69::t70::t71::t72::t73::t74::t75::t76::t77::t78::t79::t80::t81::t82::t83::t84::t85::t86::t87::t88::[])) w:=by
 subst q1 q2 q3 q4
 obtain ⟨a,c,hb,ho⟩:=ht.row
 refine oA <|ak <|eR <|ld1 (v:=.slice a T.length c) (fun _=>by kernel_rfl) hb rfl <|eE (vs:=tnC (0,0)) (by kernel_rfl) <|hH (vs:=[.agg (tnC (0,0)).toArray]) Tryz.underlying138 (s:=2) (by kernel_rfl) (by kernel_rfl) (by omega) rfl (by simp) (by simp) (by simp) (by simp [Value.cells,tnC]) fun w1 h1 b1 s1 => ?_
 have h1:blk w1 w.heap.size 199 (tnC (0,0)):=by simpa [Value.cells] using h1
 obtain ⟨ii,hi',hz,hsz,hby⟩:=info_parts zK
 have ho1:w1.ownsRow B 199 2 (.slice a T.length c) T.length (T.flatMap tnC):=bj ho fun q hq=>b1.block q (World.ownsRow.lt ho q hq).2
 have hb1:blk w1 t 140 [.slice a T.length c]:=ae b1 hb hb.lt
 refine ka (base:=B) (x:=(0,0)) Tryz.underlying138 hi' hz hsz hby rfl (by omega) lh ho1 h1 (tz _) (by omega) (by omega) (by omega) fun a2 c2 w2 ho2 hgr b2 _ => ?_
 have k2:Keep qj B w w2:=(Keep.of b1).trans (Keep.grown hgr ho1 (by simp) (Nat.le_refl _))
 have hb2:blk w2 t 140 [.slice a T.length c]:=dv hb1 ho1 (by decide) hgr
 refine ak <|eR <|eD (fun _=>by kernel_rfl) hb2 (by simp) rfl fun w3 hb3 o3 => ?_
 have hb3:blk w3 t 140 [.slice a2 (T.length+1) c2]:=hb3
 have ho3:=bR ho2 hb2 (by decide) o3
 have k3:Keep qj B w w3:=k2.trans (o3.keep hb2 (by simp) ht.lo)
 rw [← zF] at ho3
 refine oC (Inv:=fun atv _ _ _ _ _ _ _ _ _ _ _ wr => ∃ (k:Nat) (z:Int × Int),atv=.int .i64 (k:Nat)∧k≤T.length∧nP (gtI id) T T.length=nP (gtI id) T k∧blk wr t 140 [.slice a2 (T.length+1) c2] ∧
   wr.ownsRow B 199 2 (.slice a2 (T.length+1) c2) (T.length+1) ((ee T k z).flatMap tnC)∧Keep qj B w wr)
  (μ:=fun atv _ _ _ _ _ _ _ _ _ _ _ _=>(intOf atv).toNat) ⟨T.length,(0,0),rfl,Nat.le_refl _,rfl,hb3,ho3,k3⟩ ?_
 rintro _ _ _ _ _ _ _ _ _ _ _ _ dd w4 m ⟨k,z,rfl,hk,hins,hb4,ho4,k4⟩ hm
 have fin:∀ {t0 id1 parent2 t3 id4 parent5 t6 at7 t8 t9 t10 t11 t12 t13 t14 t15 t16 t17 t18 t19 t20 t21 t22 t23 t24 t25 t26 t27 t28 t29 t30 t31 t32 t33 t34 t35 t36 t37 t38 t39 t40 t41 t42 t43 t44 t45 t46 t47 t48 t49 t50 t51 t52 t53 t54 t55 t56 t57 t58 t59 t60 t61 t62 t63 t64 t65 t66 t67 t68 t69 t70 t71 t72 t73 t74 t75 t76 t77 t78 t79 t80 t81 t82 t83 t84 t85 t86 t87 t88:Value} {w5:World},t0=.pointer (some ⟨t,0,none⟩)→id1=.int .u64 id→parent2=.int .u64 par→at7=.int .i64 (k:Nat)→blk w5 t 140 [.slice a2 (T.length+1) c2] →
   w5.ownsRow B 199 2 (.slice a2 (T.length+1) c2) (T.length+1) ((ee T k z).flatMap tnC)→Keep qj B w w5→nP (gtI id) T k=k→cJ K ((t0::id1::parent2::t3::id4::parent5::t6::at7::t8::t9::t10::t11::t12::t13::t14::t15::t16::t17::t18::t19::t20::t21::t22::t23::t24::t25::t26::t27::t28::t29::t30::t31::t32::t33::t34::t35::t36::t37::t38::t39::t40::t41::t42::t43::t44::t45::t46::t47::t48::t49::t50::t51::t52::t53::t54::t55::t56::t57::t58::t59::t60::t61::t62::t63::t64::t65::t66::t67::t68::t69::t70::t71::t72::t73::t74::t75::t76::t77::t78::t79::t80::t81::t82::t83::t84::t85::t86::t87::t88::[])) w5:=by
  intro t0 id1 parent2 t3 id4 parent5 t6 at7 t8 t9 t10 t11 t12 t13 t14 t15 t16 t17 t18 t19 t20 t21 t22 t23 t24 t25 t26 t27 t28 t29 t30 t31 t32 t33 t34 t35 t36 t37 t38 t39 t40 t41 t42 t43 t44 t45 t46 t47 t48 t49 t50 t51 t52 t53 t54 t55 t56 t57 t58 t59 t60 t61 t62 t63 t64 t65 t66 t67 t68 t69 t70 t71 t72 t73 t74 t75 t76 t77 t78 t79 t80 t81 t82 t83 t84 t85 t86 t87 t88 w5 q1 q2 q3 q4 hb5 ho5 k5 hik
  subst q1 q2 q3 q4
  refine oE <|ak <|eR <|ld1 (v:=.slice a2 (T.length+1) c2) (fun _=>by kernel_rfl) hb5 rfl <|eE (vs:=tnC (id,par)) (by kernel_rfl) ?_
  obtain ⟨g,cur,rfl,op⟩:=aZ ho5 (by omega)
  refine bJ Tryz.underlying138 (s:=2) (fun _=>by kernel_rfl) (by omega) (by omega) <|op.sto lh fA (by omega) (by kernel_rfl) (tz _) fun w6 o6 ho6 => ?_
  rw [qf hk] at ho6
  refine h w6 ⟨⟨some ⟨g,0,none⟩,c2, ?_, ?_⟩,ht.lo⟩ (k5.trans (o6.keep op.blk (by simp) op.lo))
  ·rw [fA]; exact o6.blk hb5 (fun hh=>(hb5.ne op.blk (by decide)) hh)
  ·rw [hins,hik,fA]; exact ho6
 refine cD ?_
 by_cases hk0:(0:Int) < (k:Nat)
 ·refine dz hk0 ?_
  obtain ⟨k,rfl⟩:=Nat.exists_eq_succ_of_ne_zero (show k≠0 by omega)
  have ek:((k.succ:Nat):Int) - 1=(k:Nat):=by omega
  have hkn:k < T.length:=by omega
  have hx:T[k]? = some T[k]:=List.getElem?_eq_getElem hkn
  generalize T[k]=x at hx
  have hpre:(ee T k.succ z)[k]? = some x:=by have:=zE (L:=T) (z:=z) (show 0 < k.succ by omega) hk; rw [Nat.succ_sub_one] at this; rw [this]; exact hx
  obtain ⟨g,cur,rfl,op⟩:=aZ ho4 (by omega)
  refine ak <|eR <|ld1 (v:=.slice (some ⟨g,0,none⟩) (T.length+1) c2) (fun _=>by kernel_rfl) hb4 rfl <|bo (by omega) (by omega) ?_
  rw [ek]
  refine bJ Tryz.underlying138 (s:=2) (fun _=>by kernel_rfl) (by omega) (by omega) <|FB <|ld1 (v:=u6 x.1) (fun _=>by kernel_rfl) op.blk (by rw [Int.toNat_natCast,Nat.zero_add]; exact op.cell lh fA hpre (show 0 < 2 by omega)) <|cD <|bp hk0 ?_
  have hI:nP (gtI id) T (k+1)=if id < x.1 then nP (gtI id) T k else k+1:=by
   conv=>lhs; unfold nP
   rw [hx]
   simp [gtI]
  by_cases hgt:id < x.1
  ·refine ai hgt ?_
   rw [if_pos hgt] at hI
   have hb4d:blk w4.drew t 140 [.slice (some ⟨g,0,none⟩) (T.length+1) c2]:=hb4
   have opd:Opn w4.drew B 199 2 (T.length+1) c2 g cur ((ee T k.succ z).flatMap tnC):=⟨op.blk,op.lo,op.nc,op.cm,op.len,op.take,op.xl⟩
   refine a8 (fun _=>ak) <|a8 (fun _=>eR) <|a8 (v:=.slice (some ⟨g,0,none⟩) (T.length+1) c2) (fun _=>ld1 (fun _=>by kernel_rfl) hb4d rfl) <|a8 (fun _=>ak) <|a8 (fun _=>eR) <|a8 (v:=.slice (some ⟨g,0,none⟩) (T.length+1) c2) (fun _=>ld1 (fun _=>by kernel_rfl) hb4d rfl) <|a8 (v:=.int .i64 (k:Nat)) (fun K hK=>bo (by omega) (by omega) (by rw [ek]; exact hK)) <|a8 (v:=.pointer (some ⟨g,0+((k:Nat):Int).toNat * 2,none⟩)) (fun _=>bJ Tryz.underlying138 (s:=2) (fun _=>by kernel_rfl) (by omega) (by omega)) <|a8 (v:=.agg (tnC x).toArray) (fun _=>ldA (n:=2) (vs:=tnC x) Tryz.underlying199 rfl (by kernel_rfl) opd.blk (by rw [Int.toNat_natCast,Nat.zero_add]; exact opd.elem lh fA hpre) rfl) <|a8 (v:=.pointer (some ⟨g,0+((k.succ:Nat):Int).toNat * 2,none⟩)) (fun _=>bJ Tryz.underlying138 (s:=2) (fun _=>by kernel_rfl) (by omega) (by omega)) ?_
   refine opd.sto lh fA (by omega) (by kernel_rfl) (tz _) fun w5 o5 ho5 => ?_
   rw [qf hk] at ho5
   have hsh:ee T k.succ x=ee T k x:=by have:=vX (L:=T) (x:=x) (show 0 < k.succ by omega) (by rw [Nat.succ_sub_one]; exact hx); rwa [Nat.succ_sub_one] at this
   rw [hsh] at ho5
   refine bo (by omega) (by omega) ?_
   refine ⟨⟨k,x,congrArg (Value.int .i64) ek,by omega,by rw [hins]; exact hI,o5.blk hb4d (fun hh=>(hb4d.ne opd.blk (by decide)) hh),ho5,k4.drew.trans (o5.keep opd.blk (by simp) opd.lo)⟩,by rw [hm]; show (((k.succ:Nat):Int) - 1).toNat < ((k.succ:Nat):Int).toNat; omega⟩
  ·refine ag hgt ?_
   rw [if_neg hgt] at hI
   exact fin rfl rfl rfl rfl hb4 ho4 k4 hI
 ·have:k=0:=by omega
  subst this
  refine eK hk0 <|bt hk0 <|cW ?_
  exact fin rfl rfl rfl rfl hb4 ho4 k4 rfl
set_option maxHeartbeats 4000000 in
theorem ID {id par:Int} {rk:Int→Nat} (htk:TK T rk) (ht:TM w B t T) (hn:T.length≤1000) (hB:B≤w.heap.size) (h:∀ w',TM w' B t (qh T id par).1→Keep qj B w w'→K (.int .i64 (qh T id par).2) w') :
  call Tryz.prog 104 #[.pointer (some ⟨t,0,none⟩),.int .u64 id,.int .u64 par] K w:=by
 refine aE px (pw ?_)
 unfold qh at h
 refine aN ?_
 by_cases h0:id=0
 ·rw [if_pos h0] at h
  refine ai h0 ?_
  exact h w ht (Keep.refl _ _ _)
 rw [if_neg h0] at h
 refine ag h0 <|zJ ht (by omega) ?_
 cases hq:ef T id with
 | true =>
  rw [if_pos hq] at h
  refine aR ?_
  exact h w ht (Keep.refl _ _ _)
 | false =>
 rw [if_neg (by rw [hq]; simp)] at h
 refine cW <|dn ?_
 by_cases hp:par≠0∧ef T par=false
 ·rw [if_pos hp] at h
  refine dz hp.1 <|zJ ht (by omega) ?_
  rw [hp.2]
  refine cU <|bp hp.1 <|aR ?_
  exact h w ht (Keep.refl _ _ _)
 rw [if_neg hp] at h
 by_cases hp0:par≠0
 ·have hpt:ef T par=true:=by
   cases hh:ef T par with
   | true=>rfl
   | false=>exact absurd ⟨hp0,hh⟩ hp
  refine dz hp0 <|zJ ht (by omega) ?_
  rw [hpt]
  refine cU <|bp hp0 <|cW ?_
  obtain ⟨a,c,hb,ho⟩:=ht.row
  refine ak <|eR <|ld1 (v:=.slice a T.length c) (fun _=>by kernel_rfl) hb rfl <|aI Tryz.underlying138 <|dI ?_
  by_cases h32:(32:Int)≤(T.length:Nat)
  ·rw [if_pos (.inl (by omega))] at h
   refine de h32 <|bp h32 <|aR ?_
   exact h w ht (Keep.refl _ _ _)
  refine cE h32 <|tA htk ht (by omega) fun w2 ap cp op b2 => ?_
  have ht2:=ht.fresh b2
  obtain ⟨a,c,hb,ho⟩:=ht2.row
  refine aI Tryz.underlying76 <|dI <|bt h32 ?_
  by_cases h4:(4:Int)≤((fq T par).length:Nat)
  ·rw [if_pos (.inr (by omega))] at h
   refine ai h4 ?_
   exact h w2 ht2 (Keep.of b2)
  refine ag h4 ?_
  rw [if_neg (by omega)] at h
  refine ak <|eR <|ld1 (v:=.slice a T.length c) (fun _=>by kernel_rfl) hb rfl <|aI Tryz.underlying138 ?_
  exact Bv ht2 hn (Nat.le_trans hB b2.size) rfl rfl rfl rfl fun w' h1 h2=>h w' h1 ((Keep.of b2).trans h2)
 ·refine eK hp0 <|bt hp0 <|cW ?_
  obtain ⟨a,c,hb,ho⟩:=ht.row
  refine ak <|eR <|ld1 (v:=.slice a T.length c) (fun _=>by kernel_rfl) hb rfl <|aI Tryz.underlying138 <|dI ?_
  by_cases h32:(32:Int)≤(T.length:Nat)
  ·rw [if_pos (.inl (by omega))] at h
   refine de h32 <|bp h32 <|aR ?_
   exact h w ht (Keep.refl _ _ _)
  refine cE h32 <|tA htk ht (by omega) fun w2 ap cp op b2 => ?_
  have ht2:=ht.fresh b2
  obtain ⟨a,c,hb,ho⟩:=ht2.row
  refine aI Tryz.underlying76 <|dI <|bt h32 ?_
  by_cases h4:(4:Int)≤((fq T par).length:Nat)
  ·rw [if_pos (.inr (by omega))] at h
   refine ai h4 ?_
   exact h w2 ht2 (Keep.of b2)
  refine ag h4 ?_
  rw [if_neg (by omega)] at h
  refine ak <|eR <|ld1 (v:=.slice a T.length c) (fun _=>by kernel_rfl) hb rfl <|aI Tryz.underlying138 ?_
  exact Bv ht2 hn (Nat.le_trans hB b2.size) rfl rfl rfl rfl fun w' h1 h2=>h w' h1 ((Keep.of b2).trans h2)
end
end Go.Proofs.YtgpfkmdknlcemaaGreatDoor
namespace Go.Proofs.YtgpfkmdknlcemaaGreatDoor
open Go.RowKit
set_option maxRecDepth 100000
theorem sf {K:KV} {r0 i1 x2:Value} {w:World}
  (h:box Q 36 r0 (fun r3=>ld Q 36 r3 fun A1=>call Q 113 #[A1] fun A2=>un Q UnOp.not A2 fun A3 w=>au A3 false (fun k11=>bin Q BinOp.lss 2 false true x2 (ci 1) (fun A5=>k11 [x2,A5]) w) (fun k=>k [undef,undef] w) fun us11=>pick A3 cT (gd us11 1) fun A6 w=>au A6 false (fun k15=>bin Q BinOp.gtr 2 false true x2 (ci 1125899906842624) (fun A9=>k15 [x2,A9]) w) (fun k=>k [undef,undef] w) fun us15=>pick A6 cT (gd us15 1) fun C0 w=>cond C0 (K (ci 1) w) (call Q 111 #[i1] (fun C2=>un Q UnOp.not C2 fun C3 w=>cond C3 (K (ci 10) w) (K (ci 0) w)) w)) w) :
  Gives Q 110 #[r0,i1,x2] w K:=by
 refine aK Tryz.func110 (by kernel_rfl) ?_
 revert h
 exact fun h=>Eq.mp (by kernel_rfl) h
theorem sg:bD Q 110:=⟨_,Tryz.func110,by kernel_rfl,by kernel_rfl⟩
theorem tR {K:KV} {r0 i1 x2:Value} {w:World}
  (h:box Q 36 r0 (fun r3=>alc Q 36 fun A0=>ld Q 36 r3 fun A3=>call Q 110 #[A3,i1,x2] fun A5=>bin Q BinOp.neq 49 false true A5 (ci 0) fun A7 w=>cond A7 (bld Q 36 #[] (fun A8=>sto Q 36 A0 A8 fun _=>aH Q [(some 36,A0),(none,A5)] K) w) (ld Q 36 r3 (fun C1=>call Q 112 #[C1,i1] fun C3=>bin Q BinOp.gtr 2 false false x2 C3 fun C4 w=>cond C4 (bld Q 36 #[] (fun C5=>sto Q 36 A0 C5 fun _=>aH Q [(some 36,A0),(none,ci 11)] K) w) (bin Q BinOp.sub 3 false true i1 (ci 1) (fun C6=>aa Q 36 r3 1 fun C7=>af Q 33 C7 C6 fun C8=>ld Q 2 C8 fun C9=>bin Q BinOp.add 2 false false C9 x2 fun D1=>bin Q BinOp.gtr 2 false true D1 (ci 1125899906842624) fun D2 w=>cond D2 (bld Q 36 #[] (fun D3=>sto Q 36 A0 D3 fun _=>aH Q [(some 36,A0),(none,ci 6)] K) w) (bin Q BinOp.sub 3 false true i1 (ci 1) (fun D5=>aa Q 36 r3 1 fun D6=>af Q 33 D6 D5 fun D7=>ld Q 2 D7 fun D8=>bin Q BinOp.add 2 false false D8 x2 fun E0=>aa Q 36 r3 1 fun E1=>af Q 33 E1 D5 fun E2=>sto Q 2 E2 E0 fun _=>ld Q 36 r3 fun E3=>sto Q 36 A0 E3 fun _=>aH Q [(some 36,A0),(none,ci 0)] K) w)) w)) w)) w) :
  Gives Q 107 #[r0,i1,x2] w K:=by
 refine aK Tryz.func107 (by kernel_rfl) ?_
 revert h
 exact fun h=>Eq.mp (by kernel_rfl) h
theorem tS:bD Q 107:=⟨_,Tryz.func107,by kernel_rfl,by kernel_rfl⟩
theorem tT {K:KV} {r0 i1 x2:Value} {w:World}
  (h:box Q 36 r0 (fun r3=>alc Q 36 fun A0=>ld Q 36 r3 fun A3=>call Q 110 #[A3,i1,x2] fun A5=>bin Q BinOp.neq 49 false true A5 (ci 0) fun A7 w=>cond A7 (bld Q 36 #[] (fun A8=>sto Q 36 A0 A8 fun _=>aH Q [(some 36,A0),(none,A5)] K) w) (sti (bin Q BinOp.sub 3 false true i1 (ci 1)) (fun C2=>sti (aa Q 36 r3 1) fun C3=>sti (af Q 33 C3 C2) fun C4=>sti (ld Q 2 C4) fun C5=>sti (bin Q BinOp.sub 3 false true i1 (ci 1)) fun C6=>sti (aa Q 36 r3 2) fun C7=>sti (af Q 33 C7 C6) fun C8=>sti (ld Q 2 C8) fun C9=>sti (bin Q BinOp.sub 2 false false C5 C9) fun D0=>sti (bin Q BinOp.gtr 2 false false x2 D0) fun D1 w=>cond D1 (bld Q 36 #[] (fun D2=>sto Q 36 A0 D2 fun _=>aH Q [(some 36,A0),(none,ci 12)] K) w) (bin Q BinOp.sub 3 false true i1 (ci 1) (fun D4=>aa Q 36 r3 2 fun D5=>af Q 33 D5 D4 fun D6=>ld Q 2 D6 fun D7=>bin Q BinOp.add 2 false false D7 x2 fun D9=>aa Q 36 r3 2 fun E0=>af Q 33 E0 D4 fun E1=>sto Q 2 E1 D9 fun _=>ld Q 36 r3 fun E2=>sto Q 36 A0 E2 fun _=>aH Q [(some 36,A0),(none,ci 0)] K) w)) w.drew)) w) :
  Gives Q 109 #[r0,i1,x2] w K:=by
 refine aK Tryz.func109 (by kernel_rfl) ?_
 revert h
 exact fun h=>Eq.mp (by kernel_rfl) h
theorem tU:bD Q 109:=⟨_,Tryz.func109,by kernel_rfl,by kernel_rfl⟩
theorem tV {K:KV} {r0 i1 j2 x3:Value} {w:World}
  (h:box Q 36 r0 (fun r4=>alc Q 36 fun A2=>ld Q 36 r4 fun A4=>call Q 110 #[A4,i1,x3] fun A7=>bin Q BinOp.neq 49 false true A7 (ci 0) fun A9 w=>cond A9 (bld Q 36 #[] (fun C0=>sto Q 36 A2 C0 fun _=>aH Q [(some 36,A2),(none,A7)] K) w) (call Q 111 #[j2] (fun C3=>un Q UnOp.not C3 fun C4 w=>cond C4 (bld Q 36 #[] (fun C5=>sto Q 36 A2 C5 fun _=>aH Q [(some 36,A2),(none,ci 10)] K) w) (bin Q BinOp.eql 3 false false i1 j2 (fun C7 w=>cond C7 (bld Q 36 #[] (fun C8=>sto Q 36 A2 C8 fun _=>aH Q [(some 36,A2),(none,ci 1)] K) w) (ld Q 36 r4 (fun D0=>call Q 112 #[D0,i1] fun D2=>bin Q BinOp.gtr 2 false false x3 D2 fun D3 w=>cond D3 (bld Q 36 #[] (fun D4=>sto Q 36 A2 D4 fun _=>aH Q [(some 36,A2),(none,ci 11)] K) w) (bin Q BinOp.sub 3 false true i1 (ci 1) (fun D6=>bin Q BinOp.sub 3 false true j2 (ci 1) fun D8=>aa Q 36 r4 3 fun D9=>af Q 34 D9 D6 fun E0=>af Q 33 E0 D8 fun E1=>ld Q 2 E1 fun E2=>bin Q BinOp.add 2 false false E2 x3 fun E4=>bin Q BinOp.gtr 2 false true E4 (ci 1125899906842624) fun E5 w=>cond E5 (bld Q 36 #[] (fun E6=>sto Q 36 A2 E6 fun _=>aH Q [(some 36,A2),(none,ci 6)] K) w) (sti (bin Q BinOp.sub 3 false true i1 (ci 1)) (fun E7=>sti (bin Q BinOp.sub 3 false true j2 (ci 1)) fun E8=>sti (aa Q 36 r4 3) fun E9=>sti (af Q 34 E9 E7) fun F0=>sti (af Q 33 F0 E8) fun F1=>sti (ld Q 2 F1) fun F2=>sti (bin Q BinOp.add 2 false false F2 x3) fun F3=>sti (aa Q 36 r4 3) fun F4=>sti (af Q 34 F4 E7) fun F5=>sti (af Q 33 F5 E8) fun F6=>sto Q 2 F6 F3 fun _=>ld Q 36 r4 fun F7=>sto Q 36 A2 F7 fun _=>aH Q [(some 36,A2),(none,ci 0)] K) w.drew)) w)) w)) w)) w)) w) :
  Gives Q 84 #[r0,i1,j2,x3] w K:=by
 refine aK Tryz.func84 (by kernel_rfl) ?_
 revert h
 exact fun h=>Eq.mp (by kernel_rfl) h
theorem tW:bD Q 84:=⟨_,Tryz.func84,by kernel_rfl,by kernel_rfl⟩
end Go.Proofs.YtgpfkmdknlcemaaGreatDoor
namespace Go.Proofs.YtgpfkmdknlcemaaGreatDoor
set_option maxRecDepth 100000
open Go.RowKit
theorem xv {A:List Int} {i x:Int} (h:jQ A i x=0):iB A=true∧1≤x∧x≤MXA∧1≤i∧i≤6:=by
 unfold jQ at h
 split at h
 ·cases h
 ·rename_i h1
  split at h
  ·cases h
  ·rename_i h2
   have h3:iB A=true:=by
    cases hq:iB A with
    | true=>rfl
    | false=>exact absurd (.inl hq) h1
   have h4:f6 i=true:=by simpa using h2
   have:1≤i∧i≤6:=by simpa [f6] using h4
   exact ⟨h3,by omega,by omega,this.1,this.2⟩
theorem qm {w:World} {K:KV} {b o:Nat} (h:K (.pointer (some ⟨b,o+0,none⟩)) w):aa Tryz.prog 36 (.pointer (some ⟨b,o,none⟩)) 0 K w:=aq (by kernel_rfl) h
theorem qn {w:World} {K:KV} {b o:Nat} (h:K (.pointer (some ⟨b,o+6,none⟩)) w):aa Tryz.prog 36 (.pointer (some ⟨b,o,none⟩)) 1 K w:=aq (by kernel_rfl) h
theorem uV {w:World} {K:KV} {b o:Nat} (h:K (.pointer (some ⟨b,o+12,none⟩)) w):aa Tryz.prog 36 (.pointer (some ⟨b,o,none⟩)) 2 K w:=aq (by kernel_rfl) h
theorem uW {w:World} {K:KV} {b o:Nat} (h:K (.pointer (some ⟨b,o+18,none⟩)) w):aa Tryz.prog 36 (.pointer (some ⟨b,o,none⟩)) 3 K w:=aq (by kernel_rfl) h
attribute [local irreducible] bin un conv call bl blt slc aa fld af idx lkp bL bP eSt rng nxt ent ext alc box bld aJ ld sto aj bm mkS ifc pick rdy wts au sti cond aH Gives ac aW bA cOp
section
variable {w:World} {K:KV}
theorem nj (A:List Int):∀ v ∈ A.map iv,v.oneCell'=true:=by simp [iv,Value.oneCell']
theorem pn {A:List Int} {q:Nat} (hq:q < A.length):(A.map iv)[q]? = some (iv (nA A q)):=by simp [nA,List.getD,hq]
theorem si {A:List Int} {i x:Int} (hA:A.length=54) (h:∀ w',Below w.heap.size w w'→K (.int .i64 (jQ A i x)) w'):call Tryz.prog 110 #[.agg (A.map iv).toArray,.int .i64 i,.int .i64 x] K w:=by
 refine aE sg (sf ?_)
 refine bh fun w1 hb b1 s1 => ?_
 have hb:blk w1 w.heap.size 36 (A.map iv):=by simpa [Value.cells] using hb
 have cutA:((A.map iv).drop 0).take 54=A.map iv:=by rw [List.drop_zero,List.take_of_length_le (by simp [hA])]
 refine ldA (n:=54) (vs:=A.map iv) Tryz.underlying36 rfl (by kernel_rfl) hb cutA (by simp [hA]) <|xO hA fun w2 b2 => ?_
 have B2:Below w.heap.size w w2:=b1.trans (b2.mono (by omega))
 have h:=h w2 B2
 unfold jQ at h
 have hM:MXA=1125899906842624:=rfl
 rw [hM] at h
 refine cU ?_
 cases hm:iB A with
 | false =>
  rw [if_pos (.inl hm)] at h
  refine d8 <|bI <|d8 <|bI <|aR ?_
  exact h
 | true =>
  refine jH <|aD <|fe ?_
  by_cases h1:x < 1
  ·rw [if_pos (.inr (.inl h1))] at h
   refine de h1 <|bp h1 <|aR ?_
   exact h
  refine cE h1 <|cD <|bt h1 ?_
  by_cases h2:1125899906842624 < x
  ·rw [if_pos (.inr (.inr h2))] at h
   refine ai h2 ?_
   exact h
  refine ag h2 ?_
  rw [if_neg (by rw [hm]; simp; omega)] at h
  refine xP <|cU ?_
  cases hr:f6 i with
  | false =>
   rw [if_pos hr] at h
   exact aR h
  | true =>
   rw [if_neg (by rw [hr]; simp)] at h
   exact cW h
structure RV3 (w0 w:World) (A:List Int):Prop where
 r:blk w w0.heap.size 36 (A.map iv)
 t:blk w (w0.heap.size+1) 36 (z54.map iv)
 bel:Below w0.heap.size w0 w
theorem RV3.fresh {w0 w':World} {A:List Int} (g:RV3 w0 w A) (hb:Below w.heap.size w w'):RV3 w0 w' A:=⟨ae hb g.r g.r.lt,ae hb g.t g.t.lt,g.bel.trans (hb.mono g.bel.size)⟩
theorem RV3.no {w0:World} {A:List Int} {e:Int} (g:RV3 w0 w A) (h:∀ w',Below w0.heap.size w0 w'→K (.tuple #[.agg (z54.map iv).toArray,.int .i64 e]) w') :
  bld Tryz.prog 36 #[] (fun t w=>sto Tryz.prog 36 (.pointer (some ⟨w0.heap.size+1,0,none⟩)) t (fun _t w=>aH Tryz.prog [(some 36,.pointer (some ⟨w0.heap.size+1,0,none⟩)),(none,.int .i64 e)] K w) w) w:=by
 refine eE (vs:=z54.map iv) (by kernel_rfl) ?_
 exact DL (N:=54) Tryz.underlying36 rfl (by kernel_rfl) g.t rfl rfl (nj _) fun w' o=>h w' (bN g.bel o (by omega))
theorem RV3.yes {w0:World} {A:List Int} {q:Nat} {x:Int} (hA:A.length=54) (hq:q < 54) (g:RV3 w0 w A) (h:∀ w',Below w0.heap.size w0 w'→K (.tuple #[.agg ((A.set q x).map iv).toArray,.int .i64 0]) w') :
  sto Tryz.prog 2 (.pointer (some ⟨w0.heap.size,q,none⟩)) (.int .i64 x) (fun _t w=>ld Tryz.prog 36 (.pointer (some ⟨w0.heap.size,0,none⟩)) (fun t w=>sto Tryz.prog 36 (.pointer (some ⟨w0.heap.size+1,0,none⟩)) t (fun _t w=>aH Tryz.prog [(some 36,.pointer (some ⟨w0.heap.size+1,0,none⟩)),(none,.int .i64 0)] K w) w) w) w:=by
 refine eD (fun _=>by kernel_rfl) g.r (by simp [hA]; exact hq) rfl fun w1 h1 o1 => ?_
 have e:(A.map iv).set q (.int .i64 x)=(A.set q x).map iv:=by rw [List.map_set]; rfl
 rw [e] at h1
 have cutA:(((A.set q x).map iv).drop 0).take 54=(A.set q x).map iv:=by rw [List.drop_zero,List.take_of_length_le (by simp [hA])]
 refine ldA (n:=54) (vs:=(A.set q x).map iv) Tryz.underlying36 rfl (by kernel_rfl) h1 cutA (by simp [hA]) ?_
 exact DL (N:=54) Tryz.underlying36 rfl (by kernel_rfl) (o1.blk g.t (by omega)) rfl (by simp [hA]) (nj _) fun w' o=>h w' (bN (bN g.bel o1 (Nat.le_refl _)) o (by omega))
theorem RV3.make {A:List Int} {K2:Value→KV} (hA:A.length=54) (h:∀ w',RV3 w w' A→w'.heap.size=w.heap.size+2→K2 (.pointer (some ⟨w.heap.size,0,none⟩)) (.pointer (some ⟨w.heap.size+1,0,none⟩)) w') :
  box Tryz.prog 36 (.agg (A.map iv).toArray) (fun r w=>alc Tryz.prog 36 (K2 r) w) w:=by
 refine bh fun w1 hb b1 s1 => ?_
 have hb:blk w1 w.heap.size 36 (A.map iv):=by simpa [Value.cells] using hb
 refine cH (z:=.agg (z54.map iv).toArray) (by kernel_rfl) fun w2 h2 b2 s2 => ?_
 have h2:blk w2 w1.heap.size 36 (z54.map iv):=by simpa [Value.cells] using h2
 rw [s1] at h2 ⊢
 exact h w2 ⟨ae b2 hb hb.lt,h2,b1.trans (b2.mono (by omega))⟩ (by omega)
theorem ixR {b o k:Nat} {i:Int} {K:KV} (hi:i=(k:Nat)) (hk:k < 6) (hK:K (.pointer (some ⟨b,o+k,none⟩)) w):af Tryz.prog 33 (.pointer (some ⟨b,o,none⟩)) (.int .i64 i) K w:=by
 subst hi
 exact aT Tryz.underlying33 (s:=1) (fun _=>by kernel_rfl) (by omega) (by omega) (by rw [Int.toNat_natCast,Nat.mul_one]; exact hK)
set_option maxHeartbeats 2000000 in
theorem zL {A:List Int} {i x:Int} (hA:A.length=54) (hx : -9223372036854775808≤x∧x≤9223372036854775807) (h:∀ w',Below w.heap.size w w'→K (.tuple #[.agg ((lA A i x).1.map iv).toArray,.int .i64 (lA A i x).2]) w') :
  call Tryz.prog 107 #[.agg (A.map iv).toArray,.int .i64 i,.int .i64 x] K w:=by
 refine aE tS (tR ?_)
 refine RV3.make hA fun w1 g1 s1 => ?_
 have cutA:((A.map iv).drop 0).take 54=A.map iv:=by rw [List.drop_zero,List.take_of_length_le (by simp [hA])]
 refine ldA (n:=54) (vs:=A.map iv) Tryz.underlying36 rfl (by kernel_rfl) g1.r cutA (by simp [hA]) <|si hA fun w2 b2 => ?_
 have g2:=g1.fresh b2
 unfold lA at h
 refine dn ?_
 by_cases he:jQ A i x≠0
 ·rw [if_pos he] at h
  refine ai he ?_
  exact g2.no h
 refine ag he ?_
 rw [if_neg he] at h
 obtain ⟨hm,x1,x2,i1,i2⟩:=xv (show jQ A i x=0 by omega)
 have hn:=qH hm
 have hM:MXA=1125899906842624:=rfl
 refine ldA (n:=54) (vs:=A.map iv) Tryz.underlying36 rfl (by kernel_rfl) g2.r cutA (by simp [hA]) ?_
 generalize hk:(i - 1).toNat=k at h
 have hi:i=((k:Nat):Int)+1:=by omega
 subst hi
 refine tD hA (by omega) hn fun w3 b3 => ?_
 have g3:=g2.fresh b3
 unfold iv
 refine cD ?_
 by_cases hl:jP A k < x
 ·rw [if_pos hl] at h
  refine ai hl ?_
  exact g3.no h
 refine ag hl ?_
 rw [if_neg hl] at h
 unfold tx at h
 have hq:=hn (6+k) (by omega)
 rw [hM] at hq x2 h
 have ek:((k:Nat):Int)+1 - 1=(k:Nat):=by omega
 refine bo (by omega) (by omega) ?_
 rw [ek]
 refine qn <|ixR rfl (by omega) <|ld1 (v:=iv (nA A (6+k))) (fun _=>by kernel_rfl) g3.r (by rw [show 0+6+k=6+k by omega]; exact pn (by omega)) ?_
 unfold iv
 refine aF (by omega) (by omega) <|cD ?_
 by_cases hb:1125899906842624 < nA A (6+k)+x
 ·rw [if_pos hb] at h
  refine ai hb ?_
  exact g3.no h
 refine ag hb ?_
 rw [if_neg hb] at h
 refine bo (by omega) (by omega) ?_
 rw [ek]
 refine qn <|ixR rfl (by omega) <|ld1 (v:=iv (nA A (6+k))) (fun _=>by kernel_rfl) g3.r (by rw [show 0+6+k=6+k by omega]; exact pn (by omega)) ?_
 unfold iv
 refine aF (by omega) (by omega) <|qn <|ixR rfl (by omega) ?_
 rw [show 0+6+k=6+k by omega]
 exact g3.yes hA (by omega) h
end
end Go.Proofs.YtgpfkmdknlcemaaGreatDoor
namespace Go.Proofs.YtgpfkmdknlcemaaGreatDoor
set_option maxRecDepth 100000
open Go.RowKit
attribute [local irreducible] bin un conv call bl blt slc aa fld af idx lkp bL bP eSt rng nxt ent ext alc box bld aJ ld sto aj bm mkS ifc pick rdy wts au sti cond aH Gives ac aW bA cOp
section
variable {w:World} {K:KV}
theorem RV3.drew {w0:World} {A:List Int} (g:RV3 w0 w A):RV3 w0 w.drew A:=g.fresh (Below.refl _ w).drew
set_option maxHeartbeats 2000000 in
theorem zM {A:List Int} {i x:Int} (hA:A.length=54) (hx : -9223372036854775808≤x∧x≤9223372036854775807) (h:∀ w',Below w.heap.size w w'→K (.tuple #[.agg ((lB A i x).1.map iv).toArray,.int .i64 (lB A i x).2]) w') :
  call Tryz.prog 109 #[.agg (A.map iv).toArray,.int .i64 i,.int .i64 x] K w:=by
 refine aE tU (tT ?_)
 refine RV3.make hA fun w1 g1 s1 => ?_
 have cutA:((A.map iv).drop 0).take 54=A.map iv:=by rw [List.drop_zero,List.take_of_length_le (by simp [hA])]
 refine ldA (n:=54) (vs:=A.map iv) Tryz.underlying36 rfl (by kernel_rfl) g1.r cutA (by simp [hA]) <|si hA fun w2 b2 => ?_
 have g2:=g1.fresh b2
 unfold lB at h
 refine dn ?_
 by_cases he:jQ A i x≠0
 ·rw [if_pos he] at h
  refine ai he ?_
  exact g2.no h
 refine ag he ?_
 rw [if_neg he] at h
 obtain ⟨hm,x1,x2,i1,i2⟩:=xv (show jQ A i x=0 by omega)
 have hn:=qH hm
 have hM:MXA=1125899906842624:=rfl
 generalize hk:(i - 1).toNat=k at h
 have hi:i=((k:Nat):Int)+1:=by omega
 subst hi
 have q1:=hn (6+k) (by omega)
 have q2:=hn (12+k) (by omega)
 rw [hM] at q1 q2 x2
 have ek:((k:Nat):Int)+1 - 1=(k:Nat):=by omega
 have g3:=g2.drew
 have rd:∀ {w3:World} {K:KV} (q:Nat),RV3 w w3 A→q < 54→K (iv (nA A q)) w3→ld Tryz.prog 2 (.pointer (some ⟨w.heap.size,q,none⟩)) K w3:=fun q g hq hK=>ld1 (fun _=>by kernel_rfl) g.r (pn (by omega)) hK
 refine a8 (v:=.int .i64 (k:Nat)) (fun K hK=>bo (by omega) (by omega) (by rw [ek]; exact hK)) <|a8 (fun _=>qn) <|a8 (v:=.pointer (some ⟨w.heap.size,6+k,none⟩)) (fun K hK=>ixR rfl (by omega) (by rw [show 0+6+k=6+k by omega]; exact hK)) <|a8 (v:=iv (nA A (6+k))) (fun _=>rd _ g3 (by omega)) <|a8 (v:=.int .i64 (k:Nat)) (fun K hK=>bo (by omega) (by omega) (by rw [ek]; exact hK)) <|a8 (fun _=>uV) <|a8 (v:=.pointer (some ⟨w.heap.size,12+k,none⟩)) (fun K hK=>ixR rfl (by omega) (by rw [show 0+12+k=12+k by omega]; exact hK)) <|a8 (v:=iv (nA A (12+k))) (fun _=>rd _ g3 (by omega)) <|a8 (v:=.int .i64 (nA A (6+k) - nA A (12+k))) (fun _=>bo (by omega) (by omega)) <|a8 (fun _=>cD) ?_
 by_cases hl:nA A (6+k) - nA A (12+k) < x
 ·rw [if_pos hl] at h
  refine ai hl ?_
  exact g3.no h
 refine ag hl ?_
 rw [if_neg hl] at h
 refine bo (by omega) (by omega) ?_
 rw [ek]
 refine uV <|ixR rfl (by omega) ?_
 rw [show 0+12+k=12+k by omega]
 refine rd _ g3 (by omega) ?_
 unfold iv
 refine aF (by omega) (by omega) <|uV <|ixR rfl (by omega) ?_
 rw [show 0+12+k=12+k by omega]
 exact g3.yes hA (by omega) h
theorem FD {b o k:Nat} {i:Int} {K:KV} (hi:i=(k:Nat)) (hk:k < 6) (hK:K (.pointer (some ⟨b,o+6 * k,none⟩)) w):af Tryz.prog 34 (.pointer (some ⟨b,o,none⟩)) (.int .i64 i) K w:=by
 subst hi
 exact aT Tryz.underlying34 (s:=6) (fun _=>by kernel_rfl) (by omega) (by omega) (by rw [Int.toNat_natCast,Nat.mul_comm]; exact hK)
set_option maxHeartbeats 2000000 in
theorem zN {A:List Int} {i j x:Int} (hA:A.length=54) (hx : -9223372036854775808≤x∧x≤9223372036854775807) (h:∀ w',Below w.heap.size w w'→K (.tuple #[.agg ((lC A i j x).1.map iv).toArray,.int .i64 (lC A i j x).2]) w') :
  call Tryz.prog 84 #[.agg (A.map iv).toArray,.int .i64 i,.int .i64 j,.int .i64 x] K w:=by
 refine aE tW (tV ?_)
 refine RV3.make hA fun w1 g1 s1 => ?_
 have cutA:((A.map iv).drop 0).take 54=A.map iv:=by rw [List.drop_zero,List.take_of_length_le (by simp [hA])]
 refine ldA (n:=54) (vs:=A.map iv) Tryz.underlying36 rfl (by kernel_rfl) g1.r cutA (by simp [hA]) <|si hA fun w2 b2 => ?_
 have g2:=g1.fresh b2
 unfold lC at h
 refine dn ?_
 by_cases he:jQ A i x≠0
 ·rw [if_pos he] at h
  refine ai he ?_
  exact g2.no h
 refine ag he ?_
 rw [if_neg he] at h
 obtain ⟨hm,x1,x2,i1,i2⟩:=xv (show jQ A i x=0 by omega)
 have hn:=qH hm
 have hM:MXA=1125899906842624:=rfl
 refine xP <|cU ?_
 cases hj:f6 j with
 | false =>
  rw [if_pos hj] at h
  refine aR ?_
  exact g2.no h
 | true =>
 rw [if_neg (by rw [hj]; simp)] at h
 refine cW ?_
 have hjr:1≤j∧j≤6:=by simpa [f6] using hj
 refine aN ?_
 by_cases hij:i=j
 ·rw [if_pos hij] at h
  refine ai hij ?_
  exact g2.no h
 refine ag hij ?_
 rw [if_neg hij] at h
 refine ldA (n:=54) (vs:=A.map iv) Tryz.underlying36 rfl (by kernel_rfl) g2.r cutA (by simp [hA]) ?_
 generalize hk:(i - 1).toNat=k at h
 generalize hm':(j - 1).toNat=m at h
 have hi:i=((k:Nat):Int)+1:=by omega
 have hj:j=((m:Nat):Int)+1:=by omega
 subst hi hj
 refine tD hA (by omega) hn fun w3 b3 => ?_
 have g3:=g2.fresh b3
 unfold iv
 refine cD ?_
 by_cases hl:jP A k < x
 ·rw [if_pos hl] at h
  refine ai hl ?_
  exact g3.no h
 refine ag hl ?_
 rw [if_neg hl] at h
 unfold tx at h
 have hq:=hn (18+6 * k+m) (by omega)
 rw [hM] at hq x2 h
 have ek:((k:Nat):Int)+1 - 1=(k:Nat):=by omega
 have em:((m:Nat):Int)+1 - 1=(m:Nat):=by omega
 have rd:∀ {w3:World} {K:KV} (q:Nat),RV3 w w3 A→q < 54→K (iv (nA A q)) w3→ld Tryz.prog 2 (.pointer (some ⟨w.heap.size,q,none⟩)) K w3:=fun q g hq hK=>ld1 (fun _=>by kernel_rfl) g.r (pn (by omega)) hK
 refine bo (by omega) (by omega) ?_
 rw [ek]
 refine bo (by omega) (by omega) ?_
 rw [em]
 refine uW <|FD rfl (by omega) <|ixR rfl (by omega) ?_
 rw [show 0+18+6 * k+m=18+6 * k+m by omega]
 refine rd _ g3 (by omega) ?_
 unfold iv
 refine aF (by omega) (by omega) <|cD ?_
 by_cases hb:1125899906842624 < nA A (18+6 * k+m)+x
 ·rw [if_pos hb] at h
  refine ai hb ?_
  exact g3.no h
 refine ag hb ?_
 rw [if_neg hb] at h
 have g4:=g3.drew
 refine a8 (v:=.int .i64 (k:Nat)) (fun K hK=>bo (by omega) (by omega) (by rw [ek]; exact hK)) <|a8 (v:=.int .i64 (m:Nat)) (fun K hK=>bo (by omega) (by omega) (by rw [em]; exact hK)) <|a8 (fun _=>uW) <|a8 (fun _=>FD rfl (by omega)) <|a8 (v:=.pointer (some ⟨w.heap.size,18+6 * k+m,none⟩)) (fun K hK=>ixR rfl (by omega) (by rw [show 0+18+6 * k+m=18+6 * k+m by omega]; exact hK)) <|a8 (v:=iv (nA A (18+6 * k+m))) (fun _=>rd _ g4 (by omega)) <|a8 (v:=.int .i64 (nA A (18+6 * k+m)+x)) (fun _=>aF (by omega) (by omega)) <|a8 (fun _=>uW) <|a8 (fun _=>FD rfl (by omega)) <|a8 (v:=.pointer (some ⟨w.heap.size,18+6 * k+m,none⟩)) (fun K hK=>ixR rfl (by omega) (by rw [show 0+18+6 * k+m=18+6 * k+m by omega]; exact hK)) ?_
 exact g4.yes hA (by omega) h
end
end Go.Proofs.YtgpfkmdknlcemaaGreatDoor
namespace Go.Proofs.YtgpfkmdknlcemaaGreatDoor
open Go.RowKit
set_option maxRecDepth 100000
theorem qW {K:KV} {k_0:Value} {w:World}
  (h:bin Q BinOp.geq 3 false true k_0 (ci 1) (fun A1 w=>au A1 true (fun k6=>bin Q BinOp.leq 3 false true k_0 (ci 6) (fun A4=>k6 [k_0,A4]) w) (fun k=>k [undef,undef] w) fun us6=>pick A1 (gd us6 1) cF K) w) :
  Gives Q 77 #[k_0] w K:=by
 refine aK Tryz.func77 (by kernel_rfl) ?_
 revert h
 exact fun h=>Eq.mp (by kernel_rfl) h
theorem qX:bD Q 77:=⟨_,Tryz.func77,by kernel_rfl,by kernel_rfl⟩
def bg (K:KV):KE:=ac Q (cd Tryz.f78 [1,1,1]) (rk Tryz.f78 K) xf (rk Tryz.f78 K)
def gO (K:KV):KE:=ac Q (cd Tryz.f78 [1,1,0,1]) (bg K) xf (rk Tryz.f78 K)
def eG (K:KV):KE:=ac Q (cd Tryz.f78 [1,1,0,1,0,1]) (bg K) (xx xf (bg K) 0) (rk Tryz.f78 K)
def gP (K:KV):KE:=ac Q (cd Tryz.f78 [1,1,0,1,0,0,1]) (eG K) (xx xf (bg K) 0) (rk Tryz.f78 K)
theorem uX {K:KV} {e0:Value} {w:World}
  (h:box Q 54 e0 (fun e1=>alc Q 54 fun A0=>aa Q 54 e1 0 fun A1=>ld Q 3 A1 fun A2=>aa Q 54 e1 1 fun A3=>ld Q 24 A3 fun A4=>aa Q 54 e1 2 fun A5=>ld Q 26 A5 fun A6=>aa Q 54 e1 3 fun A7=>ld Q 5 A7 fun A8=>bld Q 54 #[(0,A2),(1,A4),(2,A6),(3,A8)] fun A9=>alc Q 54 fun x3=>sto Q 54 x3 A9 fun _=>aa Q 54 e1 3 fun C0=>ld Q 5 C0 fun C1=>gO K (e0::e1::A0::x3::A1::A2::A3::A4::A5::A6::A7::A8::A9::C0::C1::undef::undef::undef::undef::undef::undef::undef::undef::undef::undef::undef::undef::undef::undef::undef::undef::undef::undef::undef::undef::undef::undef::undef::undef::undef::undef::undef::undef::undef::undef::undef::undef::undef::undef::undef::undef::undef::undef::undef::undef::undef::undef::undef::undef::undef::[])) w) :
  Gives Q 78 #[e0] w K:=by
 refine aK Tryz.func78 (by kernel_rfl) <|Eq.mp (congrArg (fun c=>ac Q c _ _ _ _ w) (by kernel_rfl:(rep [1,1,0,1] (cd Tryz.f78 [1,1,0,1]) (cd Tryz.f78 []))=(cd Tryz.f78 []))) ?_
 revert h
 delta gO bg
 generalize (cd Tryz.f78 [1,1,0,1])=xc0
 exact fun h=>Eq.mp (by kernel_rfl) h
theorem uY:bD Q 78:=⟨_,Tryz.func78,by kernel_rfl,by kernel_rfl⟩
section
variable {e0 e1 A0 x3 A1 A2 A3 A4 A5 A6 A7 A8 A9 C0 C1 C2 C3 C4 C5 C6 C7 C8 C9 D0 D1 D2 D3 D4 D5 D6 D7 D8 D9 E0 E1 E2 E3 E4 E5 E6 E7 E8 E9 F0 F1 F2 F3 F4 F5 F6 F7 F8 F9 G0 G1 G2 G3 G4 G5 G6:Value}
theorem sj {K:KV} {w:World}
  (h:bin Q BinOp.eql 5 false true C1 (cb 1) (fun C3=>gP K (e0::e1::A0::x3::A1::A2::A3::A4::A5::A6::A7::A8::A9::C0::C1::C3::C3::C4::C5::C6::C7::C8::C9::D0::D1::D2::D3::D4::D5::D6::D7::D8::D9::E0::E1::E2::E3::E4::E5::E6::E7::E8::E9::F0::F1::F2::F3::F4::F5::F6::F7::F8::F9::G0::G1::G2::G3::G4::G5::G6::[])) w) :
  gO K (e0::e1::A0::x3::A1::A2::A3::A4::A5::A6::A7::A8::A9::C0::C1::C2::C3::C4::C5::C6::C7::C8::C9::D0::D1::D2::D3::D4::D5::D6::D7::D8::D9::E0::E1::E2::E3::E4::E5::E6::E7::E8::E9::F0::F1::F2::F3::F4::F5::F6::F7::F8::F9::G0::G1::G2::G3::G4::G5::G6::[]) w:=by
 delta gO
 refine Eq.mp (congrArg (fun c=>ac Q c _ _ _ _ w) (by kernel_rfl:(rep [0,0,1] (cd Tryz.f78 [1,1,0,1,0,0,1]) (cd Tryz.f78 [1,1,0,1]))=(cd Tryz.f78 [1,1,0,1]))) ?_
 revert h
 delta gP eG
 generalize (cd Tryz.f78 [1,1,0,1,0,0,1])=xc0
 generalize (bg K)=qc0
 exact fun h=>Eq.mp (by kernel_rfl) h
theorem sm {K:KV} {w:World}
  (h:cond C2 (eG K (e0::e1::A0::x3::A1::A2::A3::A4::A5::A6::A7::A8::A9::C0::C1::C2::C3::C4::C5::C6::C7::C8::C9::D0::D1::D2::D3::D4::D5::D6::D7::D8::D9::E0::E1::E2::E3::E4::E5::E6::E7::E8::E9::F0::F1::F2::F3::F4::F5::F6::F7::F8::F9::G0::G1::G2::G3::G4::G5::G6::[]) w) (bin Q BinOp.eql 5 false true C1 (cb 2) (fun C4=>eG K (e0::e1::A0::x3::A1::A2::A3::A4::A5::A6::A7::A8::A9::C0::C1::C4::C3::C4::C5::C6::C7::C8::C9::D0::D1::D2::D3::D4::D5::D6::D7::D8::D9::E0::E1::E2::E3::E4::E5::E6::E7::E8::E9::F0::F1::F2::F3::F4::F5::F6::F7::F8::F9::G0::G1::G2::G3::G4::G5::G6::[])) w)) :
  gP K (e0::e1::A0::x3::A1::A2::A3::A4::A5::A6::A7::A8::A9::C0::C1::C2::C3::C4::C5::C6::C7::C8::C9::D0::D1::D2::D3::D4::D5::D6::D7::D8::D9::E0::E1::E2::E3::E4::E5::E6::E7::E8::E9::F0::F1::F2::F3::F4::F5::F6::F7::F8::F9::G0::G1::G2::G3::G4::G5::G6::[]) w:=by
 delta gP
 revert h
 generalize (eG K)=qc0
 generalize (bg K)=qc1
 exact fun h=>Eq.mp (by kernel_rfl) h
theorem mf {K:KV} {w:World}
  (h:cond C2 (aa Q 54 e1 4 (fun C5=>ld Q 24 C5 fun C6=>aa Q 54 x3 4 fun C7=>sto Q 24 C7 C6 fun _=>aa Q 54 e1 6 fun C8=>ld Q 2 C8 fun C9=>aa Q 54 x3 6 fun D0=>sto Q 2 D0 C9 fun _=>bg K (e0::e1::A0::x3::A1::A2::A3::A4::A5::A6::A7::A8::A9::C0::C1::C2::C3::C4::C5::C6::C7::C8::C9::D0::D1::D2::D3::D4::D5::D6::D7::D8::D9::E0::E1::E2::E3::E4::E5::E6::E7::E8::E9::F0::F1::F2::F3::F4::F5::F6::F7::F8::F9::G0::G1::G2::G3::G4::G5::G6::[])) w) (bin Q BinOp.eql 5 false true C1 (cb 3) (fun D2 w=>cond D2 (aa Q 54 e1 4 (fun D3=>ld Q 24 D3 fun D4=>aa Q 54 x3 4 fun D5=>sto Q 24 D5 D4 fun _=>aa Q 54 e1 6 fun D6=>ld Q 2 D6 fun D7=>aa Q 54 x3 6 fun D8=>sto Q 2 D8 D7 fun _=>aa Q 54 e1 7 fun D9=>ld Q 24 D9 fun E0=>aa Q 54 x3 7 fun E1=>sto Q 24 E1 E0 fun _=>bg K (e0::e1::A0::x3::A1::A2::A3::A4::A5::A6::A7::A8::A9::C0::C1::C2::C3::C4::C5::C6::C7::C8::C9::D0::D2::D2::D3::D4::D5::D6::D7::D8::D9::E0::E1::E2::E3::E4::E5::E6::E7::E8::E9::F0::F1::F2::F3::F4::F5::F6::F7::F8::F9::G0::G1::G2::G3::G4::G5::G6::[])) w) (bin Q BinOp.eql 5 false true C1 (cb 4) (fun E3 w=>cond E3 (aa Q 54 e1 7 (fun E4=>ld Q 24 E4 fun E5=>aa Q 54 x3 7 fun E6=>sto Q 24 E6 E5 fun _=>aa Q 54 e1 8 fun E7=>ld Q 24 E7 fun E8=>aa Q 54 x3 8 fun E9=>sto Q 24 E9 E8 fun _=>bg K (e0::e1::A0::x3::A1::A2::A3::A4::A5::A6::A7::A8::A9::C0::C1::C2::C3::C4::C5::C6::C7::C8::C9::D0::D2::D2::D3::D4::D5::D6::D7::D8::D9::E0::E1::E3::E3::E4::E5::E6::E7::E8::E9::F0::F1::F2::F3::F4::F5::F6::F7::F8::F9::G0::G1::G2::G3::G4::G5::G6::[])) w) (bin Q BinOp.eql 5 false true C1 (cb 5) (fun F1 w=>cond F1 (aa Q 54 e1 4 (fun F2=>ld Q 24 F2 fun F3=>aa Q 54 x3 4 fun F4=>sto Q 24 F4 F3 fun _=>aa Q 54 e1 6 fun F5=>ld Q 2 F5 fun F6=>aa Q 54 x3 6 fun F7=>sto Q 2 F7 F6 fun _=>aa Q 54 e1 5 fun F8=>ld Q 3 F8 fun F9=>aa Q 54 x3 5 fun G0=>sto Q 3 G0 F9 fun _=>bg K (e0::e1::A0::x3::A1::A2::A3::A4::A5::A6::A7::A8::A9::C0::C1::C2::C3::C4::C5::C6::C7::C8::C9::D0::D2::D2::D3::D4::D5::D6::D7::D8::D9::E0::E1::E3::E3::E4::E5::E6::E7::E8::E9::F1::F1::F2::F3::F4::F5::F6::F7::F8::F9::G0::G1::G2::G3::G4::G5::G6::[])) w) (bin Q BinOp.eql 5 false true C1 (cb 6) (fun G2 w=>cond G2 (aa Q 54 e1 5 (fun G3=>ld Q 3 G3 fun G4=>aa Q 54 x3 5 fun G5=>sto Q 3 G5 G4 fun _=>bg K (e0::e1::A0::x3::A1::A2::A3::A4::A5::A6::A7::A8::A9::C0::C1::C2::C3::C4::C5::C6::C7::C8::C9::D0::D2::D2::D3::D4::D5::D6::D7::D8::D9::E0::E1::E3::E3::E4::E5::E6::E7::E8::E9::F1::F1::F2::F3::F4::F5::F6::F7::F8::F9::G0::G2::G2::G3::G4::G5::G6::[])) w) (bg K (e0::e1::A0::x3::A1::A2::A3::A4::A5::A6::A7::A8::A9::C0::C1::C2::C3::C4::C5::C6::C7::C8::C9::D0::D2::D2::D3::D4::D5::D6::D7::D8::D9::E0::E1::E3::E3::E4::E5::E6::E7::E8::E9::F1::F1::F2::F3::F4::F5::F6::F7::F8::F9::G0::G2::G2::G3::G4::G5::G6::[]) w)) w)) w)) w)) w)) :
  eG K (e0::e1::A0::x3::A1::A2::A3::A4::A5::A6::A7::A8::A9::C0::C1::C2::C3::C4::C5::C6::C7::C8::C9::D0::D1::D2::D3::D4::D5::D6::D7::D8::D9::E0::E1::E2::E3::E4::E5::E6::E7::E8::E9::F0::F1::F2::F3::F4::F5::F6::F7::F8::F9::G0::G1::G2::G3::G4::G5::G6::[]) w:=by
 delta eG
 revert h
 generalize (bg K)=qc0
 exact fun h=>Eq.mp (by kernel_rfl) h
theorem sn {K:KV} {w:World}
  (h:ld Q 54 x3 (fun G6=>sto Q 54 A0 G6 fun _=>aH Q [(some 54,A0)] K) w) :
  bg K (e0::e1::A0::x3::A1::A2::A3::A4::A5::A6::A7::A8::A9::C0::C1::C2::C3::C4::C5::C6::C7::C8::C9::D0::D1::D2::D3::D4::D5::D6::D7::D8::D9::E0::E1::E2::E3::E4::E5::E6::E7::E8::E9::F0::F1::F2::F3::F4::F5::F6::F7::F8::F9::G0::G1::G2::G3::G4::G5::G6::[]) w:=by
 delta bg
 revert h
 exact fun h=>Eq.mp (by kernel_rfl) h
attribute [irreducible] bg gO eG gP
def bT (K:KV):KE:=ac Q (cd Tryz.f79 [1,1,1,1]) (rk Tryz.f79 K) xf (rk Tryz.f79 K)
def eU (K:KV):KE:=ac Q (cd Tryz.f79 [1,1,1,0,1,0,1]) (bT K) (xx xf (bT K) 0) (rk Tryz.f79 K)
def fK (K:KV):KE:=ac Q (cd Tryz.f79 [1,1,1,0,1,0,1,1,1,1,1,1,1,1,1]) (bT K) (xx xf (bT K) 0) (rk Tryz.f79 K)
end
theorem qY {K:KV} {e0:Value} {w:World}
  (h:box Q 54 e0 (fun e1=>aa Q 54 e1 6 fun A2=>ld Q 2 A2 fun A3=>bin Q BinOp.geq 2 false true A3 (ci 1) fun A4 w=>au A4 true (fun k9=>aa Q 54 e1 6 (fun A6=>ld Q 2 A6 fun A7=>bin Q BinOp.leq 2 false true A7 (ci 1125899906842624) fun A8=>k9 [A6,A7,A8]) w) (fun k=>k [undef,undef,undef] w) fun us9=>pick A4 (gd us9 2) cF fun A9=>aa Q 54 e1 5 fun C0=>ld Q 3 C0 fun C1=>call Q 77 #[C1] fun C2 w=>au C2 true (fun k17=>aa Q 54 e1 5 (fun C4=>ld Q 3 C4 fun C5=>aa Q 54 e1 0 fun C6=>ld Q 3 C6 fun C7=>bin Q BinOp.neq 3 false false C5 C7 fun C8=>k17 [C4,C5,C6,C7,C8]) w) (fun k=>k [undef,undef,undef,undef,undef] w) fun us17=>pick C2 (gd us17 4) cF fun C9=>aa Q 54 e1 3 fun D0=>ld Q 5 D0 fun D1=>bin Q BinOp.eql 5 false true D1 (cb 1) fun D3=>eU K (e0::e1::cF::A9::C9::A2::A3::A4::A4::(gd us9 0)::(gd us9 1)::(gd us9 2)::A9::C0::C1::C2::C2::(gd us17 0)::(gd us17 1)::(gd us17 2)::(gd us17 3)::(gd us17 4)::C9::D0::D1::D3::D3::undef::undef::undef::undef::undef::undef::undef::undef::undef::undef::undef::undef::undef::undef::undef::undef::undef::undef::undef::undef::undef::undef::undef::undef::undef::undef::undef::undef::undef::undef::undef::undef::undef::undef::undef::undef::undef::undef::undef::undef::undef::undef::undef::undef::undef::undef::undef::undef::[])) w) :
  Gives Q 79 #[e0] w K:=by
 refine aK Tryz.func79 (by kernel_rfl) <|Eq.mp (congrArg (fun c=>ac Q c _ _ _ _ w) (by kernel_rfl:(rep [1,1,1,0,1,0,1] (cd Tryz.f79 [1,1,1,0,1,0,1]) (cd Tryz.f79 []))=(cd Tryz.f79 []))) ?_
 revert h
 delta eU bT
 generalize (cd Tryz.f79 [1,1,1,0,1,0,1])=xc0
 exact fun h=>Eq.mp (by kernel_rfl) h
theorem qZ:bD Q 79:=⟨_,Tryz.func79,by kernel_rfl,by kernel_rfl⟩
section
variable {e0 e1 A0 some3 other4 A2 A3 A4 A5 A6 A7 A8 A9 C0 C1 C2 C3 C4 C5 C6 C7 C8 C9 D0 D1 D2 D3 D4 D5 D6 D7 D8 D9 E0 E1 E2 E3 E4 E5 E6 E7 E8 E9 F0 F1 F2 F3 F4 F5 F6 F7 F8 F9 G0 G1 G2 G3 G4 G5 G6 G7 G8 G9 H0 H1 H2 H3 H4 H5 H6 H7 H8 H9 I0 I1:Value}
theorem po {K:KV} {w:World}
  (h:cond D2 (aa Q 54 e1 6 (fun D4=>ld Q 2 D4 fun D5=>bin Q BinOp.geq 2 false true D5 (ci 0) fun D6 w=>au D6 true (fun k31=>aa Q 54 e1 6 (fun D8=>ld Q 2 D8 fun D9=>bin Q BinOp.leq 2 false true D9 (ci 1125899906842624) fun E0=>k31 [D8,D9,E0]) w) (fun k=>k [undef,undef,undef] w) fun us31=>pick D6 (gd us31 2) cF K) w) (bin Q BinOp.eql 5 false true D1 (cb 2) (fun E3 w=>cond E3 (K some3 w) (bin Q BinOp.eql 5 false true D1 (cb 3) (fun E6 w=>cond E6 (au some3 true (fun k42=>aa Q 54 e1 7 (fun E9=>ld Q 24 E9 fun F0=>bin Q BinOp.geq 24 false true F0 (cu 1) fun F1=>k42 [E9,F0,F1]) w) (fun k=>k [undef,undef,undef] w) fun us42=>pick some3 (gd us42 2) cF K) (bin Q BinOp.eql 5 false true D1 (cb 4) (fun F4 w=>cond F4 (aa Q 54 e1 7 (fun F5=>ld Q 24 F5 fun F6=>bin Q BinOp.geq 24 false true F6 (cu 1) fun F7 w=>au F7 true (fun k52=>aa Q 54 e1 8 (fun F9=>ld Q 24 F9 fun G0=>bin Q BinOp.geq 24 false true G0 (cu 1) fun G1=>k52 [F9,G0,G1]) w) (fun k=>k [undef,undef,undef] w) fun us52=>pick F7 (gd us52 2) cF fun G2 w=>au G2 true (fun k57=>aa Q 54 e1 7 (fun G4=>ld Q 24 G4 fun G5=>aa Q 54 e1 8 fun G6=>ld Q 24 G6 fun G7=>bin Q BinOp.neq 24 false false G5 G7 fun G8=>k57 [G4,G5,G6,G7,G8]) w) (fun k=>k [undef,undef,undef,undef,undef] w) fun us57=>pick G2 (gd us57 4) cF K) w) (bin Q BinOp.eql 5 false true D1 (cb 5) (fun H1=>fK K (e0::e1::A0::some3::other4::A2::A3::A4::A5::A6::A7::A8::A9::C0::C1::C2::C3::C4::C5::C6::C7::C8::C9::D0::D1::D2::D3::D4::D5::D6::D7::D8::D9::E0::E1::E3::E3::E4::E6::E6::E7::E8::E9::F0::F1::F2::F4::F4::F5::F6::F7::F8::F9::G0::G1::G2::G3::G4::G5::G6::G7::G8::G9::H1::H1::H2::H3::H4::H5::H6::H7::H8::H9::I0::I1::[])) w)) w)) w)) w)) :
  eU K (e0::e1::A0::some3::other4::A2::A3::A4::A5::A6::A7::A8::A9::C0::C1::C2::C3::C4::C5::C6::C7::C8::C9::D0::D1::D2::D3::D4::D5::D6::D7::D8::D9::E0::E1::E2::E3::E4::E5::E6::E7::E8::E9::F0::F1::F2::F3::F4::F5::F6::F7::F8::F9::G0::G1::G2::G3::G4::G5::G6::G7::G8::G9::H0::H1::H2::H3::H4::H5::H6::H7::H8::H9::I0::I1::[]) w:=by
 delta eU
 refine Eq.mp (congrArg (fun c=>ac Q c _ _ _ _ w) (by kernel_rfl:(rep [1,1,1,1,1,1,1,1] (cd Tryz.f79 [1,1,1,0,1,0,1,1,1,1,1,1,1,1,1]) (cd Tryz.f79 [1,1,1,0,1,0,1]))=(cd Tryz.f79 [1,1,1,0,1,0,1]))) ?_
 revert h
 delta fK
 generalize (cd Tryz.f79 [1,1,1,0,1,0,1,1,1,1,1,1,1,1,1])=xc0
 generalize (bT K)=qc0
 exact fun h=>Eq.mp (by kernel_rfl) h
theorem pp {K:KV} {w:World}
  (h:cond H0 (au some3 true (fun k67=>k67 [other4] w) (fun k=>k [undef] w) fun us67=>pick some3 (gd us67 0) cF K) (bin Q BinOp.eql 5 false true D1 (cb 6) (fun H7 w=>cond H7 (K other4 w) (bT K (e0::e1::A0::some3::other4::A2::A3::A4::A5::A6::A7::A8::A9::C0::C1::C2::C3::C4::C5::C6::C7::C8::C9::D0::D1::D2::D3::D4::D5::D6::D7::D8::D9::E0::E1::E2::E3::E4::E5::E6::E7::E8::E9::F0::F1::F2::F3::F4::F5::F6::F7::F8::F9::G0::G1::G2::G3::G4::G5::G6::G7::G8::G9::H0::H1::H2::H3::H4::H5::H7::H7::H8::H9::I0::I1::[]) w)) w)) :
  fK K (e0::e1::A0::some3::other4::A2::A3::A4::A5::A6::A7::A8::A9::C0::C1::C2::C3::C4::C5::C6::C7::C8::C9::D0::D1::D2::D3::D4::D5::D6::D7::D8::D9::E0::E1::E2::E3::E4::E5::E6::E7::E8::E9::F0::F1::F2::F3::F4::F5::F6::F7::F8::F9::G0::G1::G2::G3::G4::G5::G6::G7::G8::G9::H0::H1::H2::H3::H4::H5::H6::H7::H8::H9::I0::I1::[]) w:=by
 delta fK
 revert h
 generalize (bT K)=qc0
 exact fun h=>Eq.mp (by kernel_rfl) h
theorem pq {K:KV} {w:World}
  (h:aa Q 54 e1 3 (fun H9=>ld Q 5 H9 fun I0=>bin Q BinOp.eql 5 false true I0 (cb 7) K) w) :
  bT K (e0::e1::A0::some3::other4::A2::A3::A4::A5::A6::A7::A8::A9::C0::C1::C2::C3::C4::C5::C6::C7::C8::C9::D0::D1::D2::D3::D4::D5::D6::D7::D8::D9::E0::E1::E2::E3::E4::E5::E6::E7::E8::E9::F0::F1::F2::F3::F4::F5::F6::F7::F8::F9::G0::G1::G2::G3::G4::G5::G6::G7::G8::G9::H0::H1::H2::H3::H4::H5::H6::H7::H8::H9::I0::I1::[]) w:=by
 delta bT
 revert h
 exact fun h=>Eq.mp (by kernel_rfl) h
attribute [irreducible] bT eU fK
def dK (K:KV):KE:=ac Q (cd Tryz.f51 [1,1,1]) (rk Tryz.f51 K) xf (rk Tryz.f51 K)
def iT (K:KV):KE:=ac Q (cd Tryz.f51 [1,1,0,1,0]) (dK K) (xx xf (dK K) 0) (rk Tryz.f51 K)
end
theorem uZ {K:KV} {e0:Value} {w:World}
  (h:box Q 54 e0 (fun e1 w=>sti (aa Q 54 e1 0) (fun A1=>sti (ld Q 3 A1) fun A2=>sti (call Q 77 #[A2]) fun A3=>sti (un Q UnOp.not A3) fun A4 w=>au A4 false (fun k9=>sti (aa Q 54 e1 1) (fun A6=>sti (ld Q 24 A6) fun A7=>sti (bin Q BinOp.lss 24 false true A7 (cu 1)) fun A8=>k9 [A6,A7,A8]) w) (fun k=>k [undef,undef,undef] w) fun us9=>sti (pick A4 cT (gd us9 2)) fun A9 w=>au A9 false (fun k14=>sti (aa Q 54 e1 1) (fun C1=>sti (ld Q 24 C1) fun C2=>sti (bin Q BinOp.geq 24 false true C2 (cu 1099511627776)) fun C3=>k14 [C1,C2,C3]) w) (fun k=>k [undef,undef,undef] w) fun us14=>sti (pick A9 cT (gd us14 2)) fun C4 w=>au C4 false (fun k19=>sti (aa Q 54 e1 0) (fun C6=>sti (ld Q 3 C6) fun C7=>sti (bin Q BinOp.sub 3 false true C7 (ci 1)) fun C8=>sti (aa Q 54 e1 2) fun C9=>sti (af Q 26 C9 C8) fun D0=>sti (ld Q 24 D0) fun D1=>sti (aa Q 54 e1 1) fun D2=>sti (ld Q 24 D2) fun D3=>sti (bin Q BinOp.sub 24 false true D3 (cu 1)) fun D4=>sti (bin Q BinOp.neq 24 false false D1 D4) fun D5=>k19 [C6,C7,C8,C9,D0,D1,D2,D3,D4,D5]) w) (fun k=>k [undef,undef,undef,undef,undef,undef,undef,undef,undef,undef] w) fun us19=>sti (pick C4 cT (gd us19 9)) fun D6 w=>cond D6 (K cF w) (iT K [e0,e1,cF,ci 0,A1,A2,A3,A4,A4,gd us9 0,gd us9 1,gd us9 2,A9,A9,gd us14 0,gd us14 1,gd us14 2,C4,C4,gd us19 0,gd us19 1,gd us19 2,gd us19 3,gd us19 4,gd us19 5,gd us19 6,gd us19 7,gd us19 8,gd us19 9,D6,undef,undef,undef,undef,undef,undef,undef,undef,undef,undef,undef,undef,undef,undef,undef,undef,undef] w)) w.drew) w) :
  Gives Q 51 #[e0] w K:=by
 refine aK Tryz.func51 (by kernel_rfl) ?_
 revert h
 delta iT dK
 exact fun h=>Eq.mp (by kernel_rfl) h
theorem v7:bD Q 51:=⟨_,Tryz.func51,by kernel_rfl,by kernel_rfl⟩
theorem so {K:KV} {e0 e1 A0 i3 A1 A2 A3 A4 A5 A6 A7 A8 A9 C0 C1 C2 C3 C4 C5 C6 C7 C8 C9 D0 D1 D2 D3 D4 D5 D6 D7 D8 D9 E0 E1 E2 E3 E4 E5 E6 E7 E8 E9 F0 F1 F2 F3:Value} {w:World} (Inv:Value→World→Prop) (μ:Value→World→Nat) (h0:Inv i3 w)
  (hs:∀ (i3':Value) (dd:Nat→Value) (w:World) (m:Nat),Inv i3' w→m=μ i3' w →
  bin Q BinOp.lss 3 false true i3' (ci 6) (fun D8 w=>cond D8 (aa Q 54 e1 2 (fun E2=>af Q 26 E2 i3' fun E3=>ld Q 24 E3 fun E4=>bin Q BinOp.geq 24 false true E4 (cu 1099511627776) fun E5 w=>cond E5 (K cF w) (bin Q BinOp.add 3 false true i3' (ci 1) (fun E0 w=>(Inv E0 w)∧((μ E0 w)<m)) w)) w) (dK K [e0,e1,dd 2,i3',A1,A2,A3,A4,A5,A6,A7,A8,A9,C0,C1,C2,C3,C4,C5,C6,C7,C8,C9,D0,D1,D2,D3,D4,D5,D6,i3',D8,dd 32,dd 33,dd 34,dd 35,dd 36,dd 37,dd 38,E6,E7,E8,E9,F0,F1,F2,F3] w)) w) :
  iT K [e0,e1,A0,i3,A1,A2,A3,A4,A5,A6,A7,A8,A9,C0,C1,C2,C3,C4,C5,C6,C7,C8,C9,D0,D1,D2,D3,D4,D5,D6,D7,D8,D9,E0,E1,E2,E3,E4,E5,E6,E7,E8,E9,F0,F1,F2,F3] w:=by
 refine aB (cd Tryz.f51 [1,1,0,1,0,0]) [2,3,30,31,32,33,34,35,36,37,38] (by kernel_rfl) (fun e2 w2=>Inv (gd e2 3) w2) (fun e2 w2=>μ (gd e2 3) w2) h0 ?_
 intro e' w' hI
 have h:=hs (gd e' 3) (fun i=>gd e' i) w' _ hI rfl
 revert h
 generalize (dK K)=qc0
 exact fun h=>Eq.mp (by kernel_rfl) h
theorem sq {K:KV} {e0 e1 A0 i3 A1 A2 A3 A4 A5 A6 A7 A8 A9 C0 C1 C2 C3 C4 C5 C6 C7 C8 C9 D0 D1 D2 D3 D4 D5 D6 D7 D8 D9 E0 E1 E2 E3 E4 E5 E6 E7 E8 E9 F0 F1 F2 F3:Value} {w:World}
  (h:aX (fun S w=>hld S (ld Q 54 e1) fun E6=>hld S (ld Q 54 e1) fun E7=>call Q 78 #[E7] (fun E8=>dB S fun S w=>hld S (bin Q BinOp.eql 54 false false E6 E8) fun E9=>hG E9 true S (ld Q 54 e1) fun F1=>xG E9 true (call Q 79 #[F1]) (fun F2=>aX fun S w=>hld S (pick E9 F2 cF) fun F3=>K F3 w) w) w) w.drew) :
  dK K [e0,e1,A0,i3,A1,A2,A3,A4,A5,A6,A7,A8,A9,C0,C1,C2,C3,C4,C5,C6,C7,C8,C9,D0,D1,D2,D3,D4,D5,D6,D7,D8,D9,E0,E1,E2,E3,E4,E5,E6,E7,E8,E9,F0,F1,F2,F3] w:=by
 delta dK
 revert h
 exact fun h=>Eq.mp (by kernel_rfl) h
attribute [irreducible] dK iT
theorem tX {K:KV} {known0 e1:Value} {w:World}
  (h:box Q 26 known0 (fun known2=>box Q 54 e1 fun e3 w=>aX (fun S w=>hld S (ld Q 54 e3) fun A2=>call Q 51 #[A2] (fun A3=>aX fun S w=>hG A3 true S (aa Q 54 e3 1) fun A5=>hG A3 true S (ld Q 24 A5) fun A6=>hG A3 true S (aa Q 54 e3 0) fun A7=>hG A3 true S (ld Q 3 A7) fun A8=>hG A3 true S (bin Q BinOp.sub 3 false true A8 (ci 1)) fun A9=>hG A3 true S (af Q 26 known2 A9) fun C0=>hG A3 true S (ld Q 24 C0) fun C1=>hG A3 true S (bin Q BinOp.leq 24 false false A6 C1) fun C2=>hld S (pick A3 C2 cF) fun C3=>K C3 w) w) w.drew) w) :
  Gives Q 52 #[known0,e1] w K:=by
 refine aK Tryz.func52 (by kernel_rfl) ?_
 revert h
 exact fun h=>Eq.mp (by kernel_rfl) h
theorem tY:bD Q 52:=⟨_,Tryz.func52,by kernel_rfl,by kernel_rfl⟩
def dE (K:KV):KE:=ac Q (cd Tryz.f53 [1,1,1]) (rk Tryz.f53 K) xf (rk Tryz.f53 K)
def hU (K:KV):KE:=ac Q (cd Tryz.f53 [1,1,0,1,0]) (dE K) (xx xf (dE K) 0) (rk Tryz.f53 K)
theorem sr {K:KV} {known0 e1:Value} {w:World}
  (h:box Q 26 known0 (fun known2=>box Q 54 e1 fun e3 w=>aX (fun S w=>hld S (ld Q 54 e3) fun A3=>call Q 51 #[A3] (fun A4=>aX fun S w=>hld S (un Q UnOp.not A4) fun A5=>hG A5 false S (aa Q 54 e3 1) fun A7=>hG A5 false S (ld Q 24 A7) fun A8=>hG A5 false S (aa Q 54 e3 0) fun A9=>hG A5 false S (ld Q 3 A9) fun C0=>hG A5 false S (bin Q BinOp.sub 3 false true C0 (ci 1)) fun C1=>hG A5 false S (af Q 26 known2 C1) fun C2=>hG A5 false S (ld Q 24 C2) fun C3=>hG A5 false S (bin Q BinOp.add 24 false true C3 (cu 1)) fun C4=>hG A5 false S (bin Q BinOp.neq 24 false false A8 C4) fun C5=>hld S (pick A5 cT C5) fun C6=>cond C6 (K cF w) (hU K [known0,e1,known2,e3,cF,ci 0,A3,A4,A5,A5,A7,A8,A9,C0,C1,C2,C3,C4,C5,C6,undef,undef,undef,undef,undef,undef,undef,undef,undef,undef,undef,undef] w)) w) w.drew) w) :
  Gives Q 53 #[known0,e1] w K:=by
 refine aK Tryz.func53 (by kernel_rfl) ?_
 revert h
 delta hU dE
 exact fun h=>Eq.mp (by kernel_rfl) h
theorem su:bD Q 53:=⟨_,Tryz.func53,by kernel_rfl,by kernel_rfl⟩
theorem qo {K:KV} {known0 e1 known2 e3 A1 i5 A3 A4 A5 A6 A7 A8 A9 C0 C1 C2 C3 C4 C5 C6 C7 C8 C9 D0 D1 D2 D3 D4 D5 D6 D7 D8:Value} {w:World} (Inv:Value→World→Prop) (μ:Value→World→Nat) (h0:Inv i5 w)
  (hs:∀ (i5':Value) (dd:Nat→Value) (w:World) (m:Nat),Inv i5' w→m=μ i5' w →
  bin Q BinOp.lss 3 false true i5' (ci 6) (fun C8 w=>cond C8 (sti (aa Q 54 e3 2) (fun D2=>sti (af Q 26 D2 i5') fun D3=>sti (ld Q 24 D3) fun D4=>sti (af Q 26 known2 i5') fun D6=>sti (ld Q 24 D6) fun D7=>sti (bin Q BinOp.gtr 24 false false D4 D7) fun D8 w=>cond D8 (K cF w) (bin Q BinOp.add 3 false true i5' (ci 1) (fun D0 w=>(Inv D0 w)∧((μ D0 w)<m)) w)) w.drew) (dE K [known0,e1,known2,e3,dd 4,i5',A3,A4,A5,A6,A7,A8,A9,C0,C1,C2,C3,C4,C5,C6,i5',C8,dd 22,dd 23,dd 24,dd 25,dd 26,dd 27,dd 28,dd 29,dd 30,dd 31] w)) w) :
  hU K [known0,e1,known2,e3,A1,i5,A3,A4,A5,A6,A7,A8,A9,C0,C1,C2,C3,C4,C5,C6,C7,C8,C9,D0,D1,D2,D3,D4,D5,D6,D7,D8] w:=by
 refine aB (cd Tryz.f53 [1,1,0,1,0,0]) [4,5,20,21,22,23,24,25,26,27,28,29,30,31] (by kernel_rfl) (fun e2 w2=>Inv (gd e2 5) w2) (fun e2 w2=>μ (gd e2 5) w2) h0 ?_
 intro e' w' hI
 have h:=hs (gd e' 5) (fun i=>gd e' i) w' _ hI rfl
 revert h
 generalize (dE K)=qc0
 exact fun h=>Eq.mp (by kernel_rfl) h
theorem qp {K:KV} {known0 e1 known2 e3 A1 i5 A3 A4 A5 A6 A7 A8 A9 C0 C1 C2 C3 C4 C5 C6 C7 C8 C9 D0 D1 D2 D3 D4 D5 D6 D7 D8:Value} {w:World}
  (h:K cT w) :
  dE K [known0,e1,known2,e3,A1,i5,A3,A4,A5,A6,A7,A8,A9,C0,C1,C2,C3,C4,C5,C6,C7,C8,C9,D0,D1,D2,D3,D4,D5,D6,D7,D8] w:=by
 delta dE
 revert h
 exact fun h=>Eq.mp (by kernel_rfl) h
attribute [irreducible] dE hU
end Go.Proofs.YtgpfkmdknlcemaaGreatDoor
namespace Go.Proofs.YtgpfkmdknlcemaaGreatDoor
set_option maxRecDepth 100000
open Go.RowKit
def kv8 (x:Int):Value:=.int .u8 x
def evC (e:EV):List Value:=[iv e.o,u6 e.s,u6 e.d0,u6 e.d1,u6 e.d2,u6 e.d3,u6 e.d4,u6 e.d5,kv8 e.k,u6 e.n,iv e.t,iv e.a,u6 e.r,u6 e.f]
theorem CG {e:EV}:∀ {k:Nat},k < 6→(evC e)[2+k]? = some (u6 (e.V.getD k 0))
 | 0,_=>rfl
 | 1,_=>rfl
 | 2,_=>rfl
 | 3,_=>rfl
 | 4,_=>rfl
 | 5,_=>rfl
theorem Hx {e e':EV}:evC e=evC e'↔e=e':=by
 cases e; cases e'
 simp [evC,u6,iv,kv8]
theorem ln (e:EV):∀ v ∈ evC e,v.oneCell'=true:=by simp [evC,u6,iv,kv8,Value.oneCell']
theorem CH {P:Program} {t:TypeId} {w:World} {K:KV} {p:Nat} {E:TypeId} {cs vs:List Value} {d:TypeDesc} (hu:P.underlying t=some d) (hd:d.isRow=true) (hi:(P.info? t).map (·.size)=some vs.length) (hb:blk w p E cs) (hv:cs=vs) (h:K (.agg vs.toArray) w):aH P [(some t,.pointer (some ⟨p,0,none⟩))] K w:=by
 subst hv
 have hr:=run_loadVar_mid (P:=P) w p 0 t cs d (fun j v hj=>by rw [hb.cell,Nat.zero_add]; exact hj) hu hd hi
 have e:(dD [(some t,.pointer (some ⟨p,0,none⟩))]).run P w=.ok (.agg cs.toArray) w:=by
  simp [dD,asAddr,Sem.run_bind,hr]
 unfold aH
 rw [e]
 exact ⟨rfl,h⟩
theorem cC {w:World} {K:KV} {b o:Nat} (h:K (.pointer (some ⟨b,o+0,none⟩)) w):aa Tryz.prog 54 (.pointer (some ⟨b,o,none⟩)) 0 K w:=aq (by kernel_rfl) h
theorem jA {w:World} {K:KV} {b o:Nat} (h:K (.pointer (some ⟨b,o+1,none⟩)) w):aa Tryz.prog 54 (.pointer (some ⟨b,o,none⟩)) 1 K w:=aq (by kernel_rfl) h
theorem qq {w:World} {K:KV} {b o:Nat} (h:K (.pointer (some ⟨b,o+2,none⟩)) w):aa Tryz.prog 54 (.pointer (some ⟨b,o,none⟩)) 2 K w:=aq (by kernel_rfl) h
theorem iU {w:World} {K:KV} {b o:Nat} (h:K (.pointer (some ⟨b,o+8,none⟩)) w):aa Tryz.prog 54 (.pointer (some ⟨b,o,none⟩)) 3 K w:=aq (by kernel_rfl) h
theorem dU {w:World} {K:KV} {b o:Nat} (h:K (.pointer (some ⟨b,o+9,none⟩)) w):aa Tryz.prog 54 (.pointer (some ⟨b,o,none⟩)) 4 K w:=aq (by kernel_rfl) h
theorem fa {w:World} {K:KV} {b o:Nat} (h:K (.pointer (some ⟨b,o+10,none⟩)) w):aa Tryz.prog 54 (.pointer (some ⟨b,o,none⟩)) 5 K w:=aq (by kernel_rfl) h
theorem cS {w:World} {K:KV} {b o:Nat} (h:K (.pointer (some ⟨b,o+11,none⟩)) w):aa Tryz.prog 54 (.pointer (some ⟨b,o,none⟩)) 6 K w:=aq (by kernel_rfl) h
theorem fb {w:World} {K:KV} {b o:Nat} (h:K (.pointer (some ⟨b,o+12,none⟩)) w):aa Tryz.prog 54 (.pointer (some ⟨b,o,none⟩)) 7 K w:=aq (by kernel_rfl) h
theorem lq {w:World} {K:KV} {b o:Nat} (h:K (.pointer (some ⟨b,o+13,none⟩)) w):aa Tryz.prog 54 (.pointer (some ⟨b,o,none⟩)) 8 K w:=aq (by kernel_rfl) h
attribute [local irreducible] bin un conv call bl blt slc aa fld af idx lkp bL bP eSt rng nxt ent ext alc box bld aJ ld sto aj bm mkS ifc pick rdy wts au sti cond aH Gives ac aW bA cOp
section
variable {w:World} {K:KV}
theorem xw {i:Int} (h:K (.bool (f6 i)) w):call Tryz.prog 77 #[.int .i64 i] K w:=by
 refine aE qX (qW ?_)
 unfold f6 at h
 refine dI ?_
 by_cases h1:i ≥ 1
 ·refine dz h1 <|fB <|bp h1 ?_
  rw [show decide (1≤i)=true from decide_eq_true h1,Bool.true_and] at h
  exact h
 ·refine eK h1 <|bt h1 ?_
  rw [show decide (1≤i)=false from decide_eq_false h1,Bool.false_and] at h
  exact h
structure OW (w0 w:World) (e:EV) (cs:List Value):Prop where
 e:blk w w0.heap.size 54 (evC e)
 r:∃ zs:List Value,blk w (w0.heap.size+1) 54 zs∧zs.length=14
 x:blk w (w0.heap.size+2) 54 cs
 l:cs.length=14
 bel:Below w0.heap.size w0 w
theorem OW.st {w0:World} {e:EV} {cs:List Value} {o:Nat} {t:TypeId} {v:Value} (g:OW w0 w e cs) (ho:o < 14) (hv:v.oneCell'=true) (hs:∀ w,(sizeOf t).run Tryz.prog w=.ok 1 w) (h:∀ w',OW w0 w' e (cs.set o v)→K undef w'):sto Tryz.prog t (.pointer (some ⟨w0.heap.size+2,o,none⟩)) v K w:=by
 obtain ⟨zs,hz,hzl⟩:=g.r
 exact eD hs g.x (by rw [g.l]; exact ho) hv fun w1 h1 o1=>h w1 ⟨o1.blk g.e (by omega),⟨zs,o1.blk hz (by omega),hzl⟩,h1,by rw [List.length_set,g.l],bN g.bel o1 (by omega)⟩
theorem nQ {e0 e1 t2 x3 t4 t5 t6 t7 t8 t9 t10 t11 t12 t13 t14 t15 t16 t17 t18 t19 t20 t21 t22 t23 t24 t25 t26 t27 t28 t29 t30 t31 t32 t33 t34 t35 t36 t37 t38 t39 t40 t41 t42 t43 t44 t45 t46 t47 t48 t49 t50 t51 t52 t53 t54 t55 t56 t57 t58 t59:Value} {w0:World} {e e':EV} (g:OW w0 w e (evC e')) (q2:t2=.pointer (some ⟨w0.heap.size+1,0,none⟩)) (q3:x3=.pointer (some ⟨w0.heap.size+2,0,none⟩))
  (h:∀ w',Below w0.heap.size w0 w'→K (.agg (evC e').toArray) w'):bg K ((e0::e1::t2::x3::t4::t5::t6::t7::t8::t9::t10::t11::t12::t13::t14::t15::t16::t17::t18::t19::t20::t21::t22::t23::t24::t25::t26::t27::t28::t29::t30::t31::t32::t33::t34::t35::t36::t37::t38::t39::t40::t41::t42::t43::t44::t45::t46::t47::t48::t49::t50::t51::t52::t53::t54::t55::t56::t57::t58::t59::[])) w:=by
 subst q2 q3
 refine sn ?_
 refine ldA (n:=14) (vs:=evC e') Tryz.underlying54 rfl (by kernel_rfl) g.x rfl rfl ?_
 obtain ⟨zs,hz,hzl⟩:=g.r
 refine eM (n:=14) (vs:=evC e') (by kernel_rfl) rfl hz (by omega) (ln _) fun w1 h1 o1 => ?_
 refine CH (vs:=evC e') Tryz.underlying54 rfl (by kernel_rfl) h1 (by rw [List.take_zero,List.nil_append,List.drop_of_length_le (by omega),List.append_nil]) ?_
 exact h w1 (bN g.bel o1 (by omega))
set_option maxHeartbeats 2000000 in
theorem JE {e:EV} (h:∀ w',Below w.heap.size w w'→K (.agg (evC (jy e)).toArray) w'):call Tryz.prog 78 #[.agg (evC e).toArray] K w:=by
 refine aE uY (uX ?_)
 refine bh fun w1 hb b1 s1 => ?_
 have hb:blk w1 w.heap.size 54 (evC e):=by simpa [Value.cells] using hb
 refine cH (z:=.agg (evC ⟨0,0,0,0,0,0,0,0,0,0,0,0,0,0⟩).toArray) (by kernel_rfl) fun w2 h2 b2 s2 => ?_
 have h2:blk w2 w1.heap.size 54 (evC ⟨0,0,0,0,0,0,0,0,0,0,0,0,0,0⟩):=by simpa [Value.cells] using h2
 rw [s1] at h2 ⊢
 have hb2:=ae b2 hb hb.lt
 refine cC ?_
 refine ld1 (v:=iv e.o) (fun _=>by kernel_rfl) hb2 rfl ?_
 refine jA ?_
 refine ld1 (v:=u6 e.s) (fun _=>by kernel_rfl) hb2 rfl ?_
 refine qq ?_
 refine ldA (n:=6) (vs:=[u6 e.d0,u6 e.d1,u6 e.d2,u6 e.d3,u6 e.d4,u6 e.d5]) Tryz.underlying25 rfl (by kernel_rfl) hb2 rfl rfl ?_
 refine iU ?_
 refine ld1 (v:=kv8 e.k) (fun _=>by kernel_rfl) hb2 rfl ?_
 refine eE (vs:=evC ⟨e.o,e.s,e.d0,e.d1,e.d2,e.d3,e.d4,e.d5,e.k,0,0,0,0,0⟩) (by kernel_rfl) ?_
 refine cH (z:=.agg (evC ⟨0,0,0,0,0,0,0,0,0,0,0,0,0,0⟩).toArray) (by kernel_rfl) fun w3 h3 b3 s3 => ?_
 have h3:blk w3 w2.heap.size 54 (evC ⟨0,0,0,0,0,0,0,0,0,0,0,0,0,0⟩):=by simpa [Value.cells] using h3
 have s2':w2.heap.size=w.heap.size+2:=by omega
 rw [s2'] at h3 ⊢
 refine eM (n:=14) (vs:=evC ⟨e.o,e.s,e.d0,e.d1,e.d2,e.d3,e.d4,e.d5,e.k,0,0,0,0,0⟩) (by kernel_rfl) rfl h3 (by simp [evC]) (ln _) fun w4 h4 o4 => ?_
 have g:OW w w4 e (evC ⟨e.o,e.s,e.d0,e.d1,e.d2,e.d3,e.d4,e.d5,e.k,0,0,0,0,0⟩) :=
  ⟨o4.blk (ae b3 hb2 hb2.lt) (by omega),⟨_,o4.blk (ae b3 h2 h2.lt) (by omega),rfl⟩,h4,rfl,bN (b1.trans ((b2.mono (by omega)).trans (b3.mono (by omega)))) o4 (by omega)⟩
 refine iU ?_
 refine ld1 (v:=kv8 e.k) (fun _=>by kernel_rfl) g.e rfl ?_
 have hE:∀ e',e'=jy e→∀ w',Below w.heap.size w w'→K (.agg (evC e').toArray) w':=fun e' he=>he ▸ h
 refine sj ?_
 refine aN ?_
 refine sm ?_
 by_cases k1:e.k=1
 ·refine ai k1 ?_
  refine mf ?_
  refine ai k1 ?_
  refine dU ?_
  refine ld1 (v:=u6 e.n) (fun _=>by kernel_rfl) g.e rfl ?_
  refine dU ?_
  refine g.st (by decide) rfl (fun _=>by kernel_rfl) fun wx g => ?_
  refine cS ?_
  refine ld1 (v:=iv e.a) (fun _=>by kernel_rfl) g.e rfl ?_
  refine cS ?_
  refine g.st (by decide) rfl (fun _=>by kernel_rfl) fun wx g => ?_
  exact nQ (e':=⟨e.o,e.s,e.d0,e.d1,e.d2,e.d3,e.d4,e.d5,e.k,e.n,0,e.a,0,0⟩) g rfl rfl (hE _ (by simp [jy, *]))
 refine ag k1 ?_
 refine aN ?_
 refine mf ?_
 by_cases k2:e.k=2
 ·refine ai k2 ?_
  refine dU ?_
  refine ld1 (v:=u6 e.n) (fun _=>by kernel_rfl) g.e rfl ?_
  refine dU ?_
  refine g.st (by decide) rfl (fun _=>by kernel_rfl) fun wx g => ?_
  refine cS ?_
  refine ld1 (v:=iv e.a) (fun _=>by kernel_rfl) g.e rfl ?_
  refine cS ?_
  refine g.st (by decide) rfl (fun _=>by kernel_rfl) fun wx g => ?_
  exact nQ (e':=⟨e.o,e.s,e.d0,e.d1,e.d2,e.d3,e.d4,e.d5,e.k,e.n,0,e.a,0,0⟩) g rfl rfl (hE _ (by simp [jy, *]))
 refine ag k2 ?_
 refine aN ?_
 by_cases k3:e.k=3
 ·refine ai k3 ?_
  refine dU ?_
  refine ld1 (v:=u6 e.n) (fun _=>by kernel_rfl) g.e rfl ?_
  refine dU ?_
  refine g.st (by decide) rfl (fun _=>by kernel_rfl) fun wx g => ?_
  refine cS ?_
  refine ld1 (v:=iv e.a) (fun _=>by kernel_rfl) g.e rfl ?_
  refine cS ?_
  refine g.st (by decide) rfl (fun _=>by kernel_rfl) fun wx g => ?_
  refine fb ?_
  refine ld1 (v:=u6 e.r) (fun _=>by kernel_rfl) g.e rfl ?_
  refine fb ?_
  refine g.st (by decide) rfl (fun _=>by kernel_rfl) fun wx g => ?_
  exact nQ (e':=⟨e.o,e.s,e.d0,e.d1,e.d2,e.d3,e.d4,e.d5,e.k,e.n,0,e.a,e.r,0⟩) g rfl rfl (hE _ (by simp [jy, *]))
 refine ag k3 ?_
 refine aN ?_
 by_cases k4:e.k=4
 ·refine ai k4 ?_
  refine fb ?_
  refine ld1 (v:=u6 e.r) (fun _=>by kernel_rfl) g.e rfl ?_
  refine fb ?_
  refine g.st (by decide) rfl (fun _=>by kernel_rfl) fun wx g => ?_
  refine lq ?_
  refine ld1 (v:=u6 e.f) (fun _=>by kernel_rfl) g.e rfl ?_
  refine lq ?_
  refine g.st (by decide) rfl (fun _=>by kernel_rfl) fun wx g => ?_
  exact nQ (e':=⟨e.o,e.s,e.d0,e.d1,e.d2,e.d3,e.d4,e.d5,e.k,0,0,0,e.r,e.f⟩) g rfl rfl (hE _ (by simp [jy, *]))
 refine ag k4 ?_
 refine aN ?_
 by_cases k5:e.k=5
 ·refine ai k5 ?_
  refine dU ?_
  refine ld1 (v:=u6 e.n) (fun _=>by kernel_rfl) g.e rfl ?_
  refine dU ?_
  refine g.st (by decide) rfl (fun _=>by kernel_rfl) fun wx g => ?_
  refine cS ?_
  refine ld1 (v:=iv e.a) (fun _=>by kernel_rfl) g.e rfl ?_
  refine cS ?_
  refine g.st (by decide) rfl (fun _=>by kernel_rfl) fun wx g => ?_
  refine fa ?_
  refine ld1 (v:=iv e.t) (fun _=>by kernel_rfl) g.e rfl ?_
  refine fa ?_
  refine g.st (by decide) rfl (fun _=>by kernel_rfl) fun wx g => ?_
  exact nQ (e':=⟨e.o,e.s,e.d0,e.d1,e.d2,e.d3,e.d4,e.d5,e.k,e.n,e.t,e.a,0,0⟩) g rfl rfl (hE _ (by simp [jy, *]))
 refine ag k5 ?_
 refine aN ?_
 by_cases k6:e.k=6
 ·refine ai k6 ?_
  refine fa ?_
  refine ld1 (v:=iv e.t) (fun _=>by kernel_rfl) g.e rfl ?_
  refine fa ?_
  refine g.st (by decide) rfl (fun _=>by kernel_rfl) fun wx g => ?_
  exact nQ (e':=⟨e.o,e.s,e.d0,e.d1,e.d2,e.d3,e.d4,e.d5,e.k,0,e.t,0,0,0⟩) g rfl rfl (hE _ (by simp [jy, *]))
 refine ag k6 ?_
 exact nQ (e':=⟨e.o,e.s,e.d0,e.d1,e.d2,e.d3,e.d4,e.d5,e.k,0,0,0,0,0⟩) g rfl rfl (hE _ (by simp [jy, *]))
end
end Go.Proofs.YtgpfkmdknlcemaaGreatDoor
namespace Go.Proofs.YtgpfkmdknlcemaaGreatDoor
set_option maxRecDepth 100000
open Go.RowKit
theorem jh {v:Value} {want:Bool} {S:World→Prop} {s:KV→World→Prop} {k:Value→Prop} (hv:asB v≠some want) (hk:k undef):hG v want S s k:=⟨undef,fun h=>absurd h hv,fun _=>rfl,hk⟩
theorem JX {v:Value} {want:Bool} {s:KV→World→Prop} {K:KV} {w:World} (hv:asB v≠some want) (h:K undef w):xG v want s K w:=⟨fun hh=>absurd hh hv,fun _=>h⟩
theorem GC {p:Prop} [Decidable p] (hp : ¬ p):asB (.bool (decide p))≠some true:=by rw [Jv hp]; simp
attribute [local irreducible] bin un conv call bl blt slc aa fld af idx lkp bL bP eSt rng nxt ent ext alc box bld aJ ld sto aj bm mkS ifc pick rdy wts au sti cond aH Gives ac aW bA cOp
section
variable {w:World} {K:KV}
theorem oK {e0 e1 t2 some3 other4 t5 t6 t7 t8 t9 t10 t11 t12 t13 t14 t15 t16 t17 t18 t19 t20 t21 t22 t23 t24 t25 t26 t27 t28 t29 t30 t31 t32 t33 t34 t35 t36 t37 t38 t39 t40 t41 t42 t43 t44 t45 t46 t47 t48 t49 t50 t51 t52 t53 t54 t55 t56 t57 t58 t59 t60 t61 t62 t63 t64 t65 t66 t67 t68 t69 t70 t71 t72 t73 t74:Value} {e:EV} {b:Nat} (hb:blk w b 54 (evC e)) (q1:e1=.pointer (some ⟨b,0,none⟩)) (q3:some3=.bool (smE e)) (q4:other4=.bool (otE e)) (q5:t24=kv8 e.k) (q6:t25=.bool (decide (e.k=1)))
  (h:K (.bool (fdE e)) w):eU K ((e0::e1::t2::some3::other4::t5::t6::t7::t8::t9::t10::t11::t12::t13::t14::t15::t16::t17::t18::t19::t20::t21::t22::t23::t24::t25::t26::t27::t28::t29::t30::t31::t32::t33::t34::t35::t36::t37::t38::t39::t40::t41::t42::t43::t44::t45::t46::t47::t48::t49::t50::t51::t52::t53::t54::t55::t56::t57::t58::t59::t60::t61::t62::t63::t64::t65::t66::t67::t68::t69::t70::t71::t72::t73::t74::[])) w:=by
 subst q1 q3 q4 q5 q6
 refine po ?_
 unfold fdE at h
 by_cases k1:e.k=1
 ·rw [if_pos k1] at h
  refine ai k1 <|cS <|ld1 (v:=iv e.a) (fun _=>by kernel_rfl) hb rfl <|dI ?_
  by_cases h1:e.a ≥ 0
  ·rw [show decide (0≤e.a)=true from decide_eq_true h1,Bool.true_and] at h
   refine dz h1 <|cS <|ld1 (v:=iv e.a) (fun _=>by kernel_rfl) hb rfl <|fB <|bp h1 ?_
   exact h
  ·rw [show decide (0≤e.a)=false from decide_eq_false h1,Bool.false_and] at h
   refine eK h1 <|bt h1 ?_
   exact h
 rw [if_neg k1] at h
 refine ag k1 <|aN ?_
 by_cases k2:e.k=2
 ·rw [if_pos k2] at h
  exact ai k2 h
 rw [if_neg k2] at h
 refine ag k2 <|aN ?_
 by_cases k3:e.k=3
 ·rw [if_pos k3] at h
  refine ai k3 ?_
  cases hs:smE e with
  | true =>
   rw [hs,Bool.true_and] at h
   refine jo <|fb <|ld1 (v:=u6 e.r) (fun _=>by kernel_rfl) hb rfl <|dI <|bI ?_
   exact h
  | false =>
   rw [hs,Bool.false_and] at h
   refine kx <|fe ?_
   exact h
 rw [if_neg k3] at h
 refine ag k3 <|aN ?_
 by_cases k4:e.k=4
 ·rw [if_pos k4] at h
  refine ai k4 <|fb <|ld1 (v:=u6 e.r) (fun _=>by kernel_rfl) hb rfl <|dI ?_
  by_cases h1:e.r ≥ 1
  ·rw [show decide (1≤e.r)=true from decide_eq_true h1,Bool.true_and] at h
   refine dz h1 <|lq <|ld1 (v:=u6 e.f) (fun _=>by kernel_rfl) hb rfl <|dI <|bp h1 ?_
   by_cases h2:e.f ≥ 1
   ·rw [show decide (1≤e.f)=true from decide_eq_true h2,Bool.true_and] at h
    refine dz h2 <|fb <|ld1 (v:=u6 e.r) (fun _=>by kernel_rfl) hb rfl <|lq <|ld1 (v:=u6 e.f) (fun _=>by kernel_rfl) hb rfl <|dn <|bp h2 ?_
    exact h
   ·rw [show decide (1≤e.f)=false from decide_eq_false h2,Bool.false_and] at h
    refine eK h2 <|bt h2 ?_
    exact h
  ·rw [show decide (1≤e.r)=false from decide_eq_false h1,Bool.false_and] at h
   refine eK h1 <|bt h1 <|kx <|fe ?_
   exact h
 rw [if_neg k4] at h
 refine ag k4 <|aN <|pp ?_
 by_cases k5:e.k=5
 ·rw [if_pos k5] at h
  refine ai k5 ?_
  cases hs:smE e with
  | true =>
   rw [hs,Bool.true_and] at h
   refine jo <|bI ?_
   exact h
  | false =>
   rw [hs,Bool.false_and] at h
   refine kx <|fe ?_
   exact h
 rw [if_neg k5] at h
 refine ag k5 <|aN ?_
 by_cases k6:e.k=6
 ·rw [if_pos k6] at h
  exact ai k6 h
 rw [if_neg k6] at h
 refine ag k6 <|pq <|iU <|ld1 (v:=kv8 e.k) (fun _=>by kernel_rfl) hb rfl <|aN ?_
 exact h
theorem FE {e:EV} (h:∀ w',Below w.heap.size w w'→K (.bool (fdE e)) w'):call Tryz.prog 79 #[.agg (evC e).toArray] K w:=by
 refine aE qZ (qY ?_)
 refine bh fun w1 hb b1 s1 => ?_
 have hb:blk w1 w.heap.size 54 (evC e):=by simpa [Value.cells] using hb
 have h:=h w1 b1
 refine cS <|ld1 (v:=iv e.a) (fun _=>by kernel_rfl) hb rfl <|dI ?_
 by_cases h1:e.a ≥ 1
 ·refine dz h1 <|cS <|ld1 (v:=iv e.a) (fun _=>by kernel_rfl) hb rfl <|fB <|bp h1 <|fa <|ld1 (v:=iv e.t) (fun _=>by kernel_rfl) hb rfl <|xw ?_
  have hs:Value.bool (decide (e.a≤1125899906842624))=.bool (smE e):=by unfold smE; rw [show decide (1≤e.a)=true from decide_eq_true h1,Bool.true_and]
  cases hr:f6 e.t with
  | true =>
   refine jo <|fa <|ld1 (v:=iv e.t) (fun _=>by kernel_rfl) hb rfl <|cC <|ld1 (v:=iv e.o) (fun _=>by kernel_rfl) hb rfl <|dn <|bI <|iU <|ld1 (v:=kv8 e.k) (fun _=>by kernel_rfl) hb rfl <|aN ?_
   exact oK hb rfl hs (by unfold otE; rw [hr,Bool.true_and]; rfl) rfl rfl h
  | false =>
   refine kx <|fe <|iU <|ld1 (v:=kv8 e.k) (fun _=>by kernel_rfl) hb rfl <|aN ?_
   exact oK hb rfl hs (by unfold otE; rw [hr,Bool.false_and]) rfl rfl h
 ·refine eK h1 <|bt h1 <|fa <|ld1 (v:=iv e.t) (fun _=>by kernel_rfl) hb rfl <|xw ?_
  have hs:Value.bool false=.bool (smE e):=by unfold smE; rw [show decide (1≤e.a)=false from decide_eq_false h1,Bool.false_and]
  cases hr:f6 e.t with
  | true =>
   refine jo <|fa <|ld1 (v:=iv e.t) (fun _=>by kernel_rfl) hb rfl <|cC <|ld1 (v:=iv e.o) (fun _=>by kernel_rfl) hb rfl <|dn <|bI <|iU <|ld1 (v:=kv8 e.k) (fun _=>by kernel_rfl) hb rfl <|aN ?_
   exact oK hb rfl hs (by unfold otE; rw [hr,Bool.true_and]; rfl) rfl rfl h
  | false =>
   refine kx <|fe <|iU <|ld1 (v:=kv8 e.k) (fun _=>by kernel_rfl) hb rfl <|aN ?_
   exact oK hb rfl hs (by unfold otE; rw [hr,Bool.false_and]) rfl rfl h
theorem ixV {b o k:Nat} {i:Int} (hi:i=(k:Nat)) (hk:k < 6) (hK:K (.pointer (some ⟨b,o+k,none⟩)) w):af Tryz.prog 26 (.pointer (some ⟨b,o,none⟩)) (.int .i64 i) K w:=by
 subst hi
 exact aT Tryz.underlying26 (s:=1) (fun _=>by kernel_rfl) (by omega) (by omega) (by rw [Int.toNat_natCast,Nat.mul_one]; exact hK)
theorem IE {e0 e1 t2 i3 t4 t5 t6 t7 t8 t9 t10 t11 t12 t13 t14 t15 t16 t17 t18 t19 t20 t21 t22 t23 t24 t25 t26 t27 t28 t29 t30 t31 t32 t33 t34 t35 t36 t37 t38 t39 t40 t41 t42 t43 t44 t45 t46:Value} {e:EV} {b:Nat} {w0:World} (hb:blk w b 54 (evC e)) (q1:e1=.pointer (some ⟨b,0,none⟩)) (hl:Below w0.heap.size w0 w)
  (h:∀ w',Below w0.heap.size w0 w'→K (.bool (decide (e=jy e) && fdE e)) w'):dK K ([e0,e1,t2,i3,t4,t5,t6,t7,t8,t9,t10,t11,t12,t13,t14,t15,t16,t17,t18,t19,t20,t21,t22,t23,t24,t25,t26,t27,t28,t29,t30,t31,t32,t33,t34,t35,t36,t37,t38,t39,t40,t41,t42,t43,t44,t45,t46]) w:=by
 subst q1
 refine sq <|aC (fun x=>blk x b 54 (evC e)) hb <|ab (fun x hx _=>ldA (n:=14) (vs:=evC e) Tryz.underlying54 rfl (by kernel_rfl) hx rfl rfl) <|ab (fun x hx _=>ldA (n:=14) (vs:=evC e) Tryz.underlying54 rfl (by kernel_rfl) hx rfl rfl) <|JE fun w2 b2 => ?_
 have l2:Below w0.heap.size w0 w2:=hl.drew.trans (b2.mono hl.drew.size)
 have hb2:blk w2 b 54 (evC e):=ae b2 hb.drew hb.drew.lt
 refine bn hb2 ?_
 refine ab (v:=.bool (decide (e=jy e))) (fun x hx K hK=>BC 3 (by omega) (by kernel_rfl) (by kernel_rfl) (by kernel_rfl) (by kernel_rfl) fun r hr=>by
  have:r=decide (e=jy e):=by rw [Hx] at hr; exact Bool.eq_iff_iff.2 (hr.trans decide_eq_true_iff.symm)
  rw [this]; exact hK) ?_
 by_cases he:e=jy e
 ·refine jg (Gy he) (fun x hx _=>ldA (n:=14) (vs:=evC e) Tryz.underlying54 rfl (by kernel_rfl) hx rfl rfl) <|JV (Gy he) <|FE fun w3 b3 => ?_
  have l3:Below w0.heap.size w0 w3:=l2.trans (b3.mono l2.size)
  refine aC (fun _=>True) trivial <|ab (fun x hx _=>bp he) ?_
  have:=h w3 l3
  rw [show decide (e=jy e)=true from decide_eq_true he,Bool.true_and] at this
  exact this
 ·refine jh (GC he) <|JX (GC he) <|aC (fun _=>True) trivial <|ab (fun x hx _=>bt he) ?_
  have:=h w2 l2
  rw [show decide (e=jy e)=false from decide_eq_false he,Bool.false_and] at this
  exact this
set_option maxHeartbeats 1000000 in
theorem CI {e:EV} (h:∀ w',Below w.heap.size w w'→K (.bool (io e)) w'):call Tryz.prog 51 #[.agg (evC e).toArray] K w:=by
 refine aE v7 (uZ ?_)
 refine bh fun w1 hb b1 s1 => ?_
 have hb:blk w1 w.heap.size 54 (evC e):=by simpa [Value.cells] using hb
 have hb:blk w1.drew w.heap.size 54 (evC e):=hb.drew
 have b1:Below w.heap.size w w1.drew:=b1.drew
 have no:io e=false→K (.bool false) w1.drew:=fun hh=>by have:=h _ b1; rw [hh] at this; exact this
 refine a8 (fun _=>cC) <|a8 (v:=iv e.o) (fun _=>ld1 (fun _=>by kernel_rfl) hb rfl) <|a8 (fun _=>xw) <|a8 (fun _=>cU) ?_
 cases hr:f6 e.o with
 | false =>
  refine d8 <|a8 (fun _=>bI) <|d8 <|a8 (fun _=>bI) <|d8 <|a8 (fun _=>bI) <|aR ?_
  exact no (by simp [io,hr])
 | true =>
  refine jH <|a8 (fun _=>jA) <|a8 (v:=u6 e.s) (fun _=>ld1 (fun _=>by kernel_rfl) hb rfl) <|a8 (fun _=>aD) <|a8 (fun _=>fe) ?_
  by_cases h1:e.s < 1
  ·refine de h1 <|a8 (fun _=>bp h1) <|d8 <|a8 (fun _=>bI) <|aR ?_
   exact no (by simp [io,hr]; omega)
  refine cE h1 <|a8 (fun _=>jA) <|a8 (v:=u6 e.s) (fun _=>ld1 (fun _=>by kernel_rfl) hb rfl) <|a8 (fun _=>dI) <|a8 (fun _=>bt h1) ?_
  by_cases h2:e.s ≥ 1099511627776
  ·refine de h2 <|a8 (fun _=>bp h2) <|aR ?_
   exact no (by simp [io,hr]; omega)
  refine cE h2 ?_
  have hi:1≤e.o∧e.o≤6:=by simpa [f6] using hr
  obtain ⟨k,hk⟩:∃ k:Nat,k=(e.o - 1).toNat:=⟨_,rfl⟩
  refine a8 (fun _=>cC) <|a8 (v:=iv e.o) (fun _=>ld1 (fun _=>by kernel_rfl) hb rfl) <|a8 (v:=.int .i64 ((k:Nat):Int)) (fun K hK=>pg (by rw [f5 (by omega) (by omega),show (e.o - 1)=(k:Nat) by omega]; exact hK)) <|a8 (fun _=>qq) <|a8 (fun _=>ixV rfl (by omega)) <|a8 (v:=u6 (e.V.getD k 0)) (fun _=>ld1 (fun _=>by kernel_rfl) hb (CG (by omega))) <|a8 (fun _=>jA) <|a8 (v:=u6 e.s) (fun _=>ld1 (fun _=>by kernel_rfl) hb rfl) <|a8 (v:=u6 (e.s - 1)) (fun K hK=>pg (by rw [kU,show (e.s - 1) % 18446744073709551616=e.s - 1 by omega]; exact hK)) <|a8 (fun _=>dn) ?_
  refine a8 (fun _=>bt h2) ?_
  by_cases h3:e.V.getD k 0≠e.s - 1
  ·refine ai h3 ?_
   exact no (by simp [io,hr, ← hk]; intro _ _ hh; exact absurd hh h3)
  refine ag h3 ?_
  have h3:e.V.getD k 0=e.s - 1:=by simpa using h3
  refine so (Inv:=fun i wr => ∃ j:Nat,i=.int .i64 (j:Nat)∧j≤6∧(∀ q,q < j→e.V.getD q 0 < 1099511627776)∧blk wr w.heap.size 54 (evC e)∧Below w.heap.size w wr) (μ:=fun i _=>6 - (intOf i).toNat) ⟨0,rfl,by omega,fun q hq=>by omega,hb,b1⟩ ?_
  rintro _ dd w2 m ⟨j,rfl,hj6,hall,hb2,l2⟩ hm
  have no:io e=false→K (.bool false) w2:=fun hh=>by have:=h _ l2; rw [hh] at this; exact this
  refine aD ?_
  by_cases hj:j < 6
  ·refine ai (by omega) <|qq <|ixV rfl hj <|ld1 (v:=u6 (e.V.getD j 0)) (fun _=>by kernel_rfl) hb2 (CG hj) <|dI ?_
   by_cases h4:e.V.getD j 0 ≥ 1099511627776
   ·refine ai h4 <|no ?_
    have:(List.range 6).all (fun k=>decide (e.V.getD k 0 < 1099511627776))=false:=by
     rw [List.all_eq_false]
     exact ⟨j,by simpa using hj,by simp; simpa using h4⟩
    unfold io; rw [this]; simp
   refine ag h4 <|aF (by omega) (by omega) ?_
   refine ⟨⟨j+1,by simp,by omega,fun q hq => ?_,hb2,l2⟩, ?_⟩
   ·by_cases hq':q < j
    ·exact hall q hq'
    ·have:q=j:=by omega
     subst this; omega
   ·rw [hm]; simp only [intOf]; omega
  refine ag (by omega) ?_
  have hj6:j=6:=by omega
  subst hj6
  refine IE hb2 rfl l2 fun w3 l3 => ?_
  have:=h w3 l3
  have e1:(List.range 6).all (fun k=>decide (e.V.getD k 0 < 1099511627776))=true:=by
   rw [List.all_eq_true]
   exact fun q hq=>by simpa using hall q (by simpa using hq)
  unfold io at this
  rw [hr,e1, ← hk,h3,show decide (1≤e.s)=true from decide_eq_true (by omega),show decide (e.s < 1099511627776)=true from decide_eq_true (by omega)] at this
  simpa using this
end
end Go.Proofs.YtgpfkmdknlcemaaGreatDoor
namespace Go.Proofs.YtgpfkmdknlcemaaGreatDoor
set_option maxRecDepth 100000
open Go.RowKit
theorem cutV {V:List Int} (hV:V.length=6):((V.map u6).drop 0).take 6=V.map u6:=by rw [List.drop_zero,List.take_of_length_le (by simp [hV])]
theorem CJ {V:List Int} {k:Nat} (hk:k < V.length):(V.map u6)[k]? = some (u6 (V.getD k 0)):=by simp [List.getD,hk]
attribute [local irreducible] bin un conv call bl blt slc aa fld af idx lkp bL bP eSt rng nxt ent ext alc box bld aJ ld sto aj bm mkS ifc pick rdy wts au sti cond aH Gives ac aW bA cOp
section
variable {w:World} {K:KV}
theorem IF {V:List Int} {e:EV} (hV:V.length=6) (h:∀ w',Below w.heap.size w w'→K (.bool (GB V e)) w'):call Tryz.prog 52 #[.agg (V.map u6).toArray,.agg (evC e).toArray] K w:=by
 refine aE tY (tX ?_)
 refine bh fun w1 hv b1 s1 => ?_
 have hv:blk w1 w.heap.size 26 (V.map u6):=by simpa [Value.cells] using hv
 refine bh fun w2 hb b2 s2 => ?_
 have hb:blk w2 w1.heap.size 54 (evC e):=by simpa [Value.cells] using hb
 have hv:=ae b2 hv hv.lt
 have l2:Below w.heap.size w w2:=b1.trans (b2.mono (by omega))
 rw [s1] at hb ⊢
 refine aC (fun x=>blk x (w.heap.size+1) 54 (evC e)) hb.drew <|ab (fun x hx _=>ldA (n:=14) (vs:=evC e) Tryz.underlying54 rfl (by kernel_rfl) hx rfl rfl) <|CI fun w3 b3 => ?_
 have hb3:=ae b3 hb.drew hb.drew.lt
 have hv3:=ae b3 hv.drew hv.drew.lt
 have l3:Below w.heap.size w w3:=l2.drew.trans (b3.mono l2.drew.size)
 have h:=h w3 l3
 unfold GB at h
 refine aC (fun x=>blk x (w.heap.size+1) 54 (evC e)∧blk x w.heap.size 26 (V.map u6)) ⟨hb3,hv3⟩ ?_
 cases hm:io e with
 | false =>
  rw [hm,Bool.false_and] at h
  have hf:asB (.bool false)≠some true:=by simp [asB]
  refine jh hf (jh hf (jh hf (jh hf (jh hf (jh hf (jh hf (jh hf ?_)))))))
  refine ab (fun x hx _=>fe) ?_
  exact h
 | true =>
  rw [hm,Bool.true_and] at h
  have hi:=vW hm
  obtain ⟨k,hk⟩:∃ k:Nat,k=(e.o - 1).toNat:=⟨_,rfl⟩
  rw [← hk] at h
  refine jg rfl (fun x hx _=>jA) <|jg (x:=u6 e.s) rfl (fun x hx _=>ld1 (fun _=>by kernel_rfl) hx.1 rfl) <|jg rfl (fun x hx _=>cC) <|jg (x:=iv e.o) rfl (fun x hx _=>ld1 (fun _=>by kernel_rfl) hx.1 rfl) <|jg (x:=.int .i64 ((k:Nat):Int)) rfl (fun x hx K hK=>pg (by rw [f5 (by omega) (by omega),show (e.o - 1)=(k:Nat) by omega]; exact hK)) <|jg rfl (fun x hx _=>ixV rfl (by omega)) <|jg (x:=u6 (V.getD k 0)) rfl (fun x hx _=>ld1 (fun _=>by kernel_rfl) hx.2 (by rw [Nat.zero_add]; exact CJ (by omega))) <|jg rfl (fun x hx _=>fB) <|ab (fun x hx _=>bI) ?_
  exact h
set_option maxHeartbeats 1000000 in
theorem Hy {V:List Int} {e:EV} (hV:V.length=6) (hr:∀ k,k < 6→0≤V.getD k 0∧V.getD k 0 < 9223372036854775808) (h:∀ w',Below w.heap.size w w'→K (.bool (nO V e)) w'):call Tryz.prog 53 #[.agg (V.map u6).toArray,.agg (evC e).toArray] K w:=by
 refine aE su (sr ?_)
 refine bh fun w1 hv b1 s1 => ?_
 have hv:blk w1 w.heap.size 26 (V.map u6):=by simpa [Value.cells] using hv
 refine bh fun w2 hb b2 s2 => ?_
 have hb:blk w2 w1.heap.size 54 (evC e):=by simpa [Value.cells] using hb
 have hv:=ae b2 hv hv.lt
 have l2:Below w.heap.size w w2:=b1.trans (b2.mono (by omega))
 rw [s1] at hb ⊢
 refine aC (fun x=>blk x (w.heap.size+1) 54 (evC e)) hb.drew <|ab (fun x hx _=>ldA (n:=14) (vs:=evC e) Tryz.underlying54 rfl (by kernel_rfl) hx rfl rfl) <|CI fun w3 b3 => ?_
 have hb3:=ae b3 hb.drew hb.drew.lt
 have hv3:=ae b3 hv.drew hv.drew.lt
 have l3:Below w.heap.size w w3:=l2.drew.trans (b3.mono l2.drew.size)
 refine aC (fun x=>blk x (w.heap.size+1) 54 (evC e)∧blk x w.heap.size 26 (V.map u6)) ⟨hb3,hv3⟩ <|ab (fun x hx _=>cU) ?_
 cases hm:io e with
 | false =>
  have h:=h w3 l3
  unfold nO at h
  rw [hm,Bool.false_and] at h
  have hf:asB (.bool (!false))≠some false:=by simp [asB]
  refine jh hf (jh hf (jh hf (jh hf (jh hf (jh hf (jh hf (jh hf (jh hf ?_))))))))
  refine ab (fun x hx _=>bI) ?_
  exact aR h
 | true =>
  have hi:=vW hm
  obtain ⟨k,hk⟩:∃ k:Nat,k=(e.o - 1).toNat:=⟨_,rfl⟩
  have hrk:=hr k (by omega)
  refine jg rfl (fun x hx _=>jA) <|jg (x:=u6 e.s) rfl (fun x hx _=>ld1 (fun _=>by kernel_rfl) hx.1 rfl) <|jg rfl (fun x hx _=>cC) <|jg (x:=iv e.o) rfl (fun x hx _=>ld1 (fun _=>by kernel_rfl) hx.1 rfl) <|jg (x:=.int .i64 ((k:Nat):Int)) rfl (fun x hx K hK=>pg (by rw [f5 (by omega) (by omega),show (e.o - 1)=(k:Nat) by omega]; exact hK)) <|jg rfl (fun x hx _=>ixV rfl (by omega)) <|jg (x:=u6 (V.getD k 0)) rfl (fun x hx _=>ld1 (fun _=>by kernel_rfl) hx.2 (by rw [Nat.zero_add]; exact CJ (by omega))) <|jg (x:=u6 (V.getD k 0+1)) rfl (fun x hx K hK=>fC (by rw [kU,show (V.getD k 0+1) % 18446744073709551616=V.getD k 0+1 by omega]; exact hK)) <|jg rfl (fun x hx _=>dn) <|ab (fun x hx _=>fe) ?_
  by_cases h1:e.s≠V.getD k 0+1
  ·refine ai h1 ?_
   have h:=h w3 l3
   unfold nO at h
   rw [← hk,show decide (e.s=V.getD k 0+1)=false from decide_eq_false h1,Bool.false_and,Bool.and_false] at h
   exact h
  refine ag h1 ?_
  have h1:e.s=V.getD k 0+1:=by simpa using h1
  refine qo (Inv:=fun i wr => ∃ j:Nat,i=.int .i64 (j:Nat)∧j≤6∧(∀ q,q < j→e.V.getD q 0≤V.getD q 0)∧blk wr (w.heap.size+1) 54 (evC e)∧blk wr w.heap.size 26 (V.map u6)∧Below w.heap.size w wr) (μ:=fun i _=>6 - (intOf i).toNat) ⟨0,rfl,by omega,fun q hq=>by omega,hb3,hv3,l3⟩ ?_
  rintro _ dd w4 m ⟨j,rfl,hj6,hall,hb4,hv4,l4⟩ hmm
  refine aD ?_
  by_cases hj:j < 6
  ·refine ai (by omega) ?_
   have hb4:blk w4.drew (w.heap.size+1) 54 (evC e):=hb4.drew
   have hv4:blk w4.drew w.heap.size 26 (V.map u6):=hv4.drew
   have l4:Below w.heap.size w w4.drew:=l4.drew
   have h:=h _ l4
   refine a8 (fun _=>qq) <|a8 (fun _=>ixV rfl hj) <|a8 (v:=u6 (e.V.getD j 0)) (fun _=>ld1 (fun _=>by kernel_rfl) hb4 (CG hj)) <|a8 (fun _=>ixV rfl hj) <|a8 (v:=u6 (V.getD j 0)) (fun _=>ld1 (fun _=>by kernel_rfl) hv4 (by rw [Nat.zero_add]; exact CJ (by omega))) <|a8 (fun _=>cD) ?_
   by_cases h4:V.getD j 0 < e.V.getD j 0
   ·refine ai h4 ?_
    have:(List.range 6).all (fun k=>decide (e.V.getD k 0≤V.getD k 0))=false:=by
     rw [List.all_eq_false]
     exact ⟨j,by simpa using hj,by simpa using h4⟩
    unfold nO at h
    rw [this,Bool.and_false,Bool.and_false] at h
    exact h
   refine ag h4 <|aF (by omega) (by omega) ?_
   refine ⟨⟨j+1,by simp,by omega,fun q hq => ?_,hb4,hv4,l4⟩, ?_⟩
   ·by_cases hq':q < j
    ·exact hall q hq'
    ·have:q=j:=by omega
     subst this; omega
   ·rw [hmm]; simp only [intOf]; omega
  refine ag (by omega) ?_
  have hj6:j=6:=by omega
  subst hj6
  refine qp ?_
  have h:=h _ l4
  have e1:(List.range 6).all (fun k=>decide (e.V.getD k 0≤V.getD k 0))=true:=by
   rw [List.all_eq_true]
   exact fun q hq=>by simpa using hall q (by simpa using hq)
  unfold nO at h
  rw [hm,e1, ← hk,show decide (e.s=V.getD k 0+1)=true from decide_eq_true h1] at h
  exact h
end
end Go.Proofs.YtgpfkmdknlcemaaGreatDoor
