/- Laid together: R31e EvA R31f EqA SL31 L31 TkPl SR09. -/
import Derived.Test.YtgpfkmdknlcemaaGreatDoorQ4
import Derived.Test.YtgpfkmdknlcemaaGreatDoorQ2
import Derived.DeepKeys
import Derived.Test.YtgpfkmdknlcemaaGreatDoorQ1
namespace Go.Proofs.YtgpfkmdknlcemaaGreatDoor
set_option maxRecDepth 100000
open Go.RowKit
def ixM (n k:Nat):Int:=if k < n then (k:Nat) else -1
attribute [local irreducible] bin un conv call bl blt slc aa fld af idx lkp bL bP eSt rng nxt ent ext alc box bld aJ ld sto aj bm mkS ifc pick rdy wts au sti cond aH Gives ac aW bA cOp
section
variable {w:World} {K:KV}
theorem JF {t E:TypeId} {B n c i:Nat} {a:Option Addr} {xs:List Value} {v:Value} (ht:∀ w,(sizeOf t).run Tryz.prog w=.ok 1 w) (ho:w.ownsRow B E 1 (.slice a n c) n xs) (hi:i < n) (hv:v.oneCell'=true)
  (h:∀ w' g,(Value.slice a n c).ownBlock=some g→B≤g→(∃ cs,blk w g E cs)→Oth g w w'→w'.ownsRow B E 1 (.slice a n c) n (xs.set i v)→K undef w'):sto Tryz.prog t (.pointer (some (gu a i))) v K w:=by
 obtain ⟨g,cur,rfl,op⟩:=aZ ho (by omega)
 have hcl:=op.len
 have hnc:=op.nc
 rw [jG]
 refine eD ht op.blk (by omega) hv fun w' hb ho' => ?_
 refine h w' g rfl op.lo ⟨cur,op.blk⟩ ho' ?_
 refine ⟨by rw [List.length_set]; exact op.xl,.inr ⟨g,c,(cur.set (0+i) v).toArray,rfl,op.lo,hb,hnc,op.cm,by simpa using hcl, ?_⟩⟩
 rw [Nat.zero_add]
 show (cur.set i v).take (n * 1)=xs.set i v
 rw [List.take_set,op.take]
structure MQ (w0 w:World) (n:Nat) (al:Option Addr) (cl:Nat) (lv:List Int) (ah:Option Addr) (ch:Nat) (hh:List Int) (as_:Option Addr) (cs:Nat) (sh:List Int) (ao:Option Addr) (co:Nat) (O:List (Int × Int × Int)):Prop where
 live:ON w w0.heap.size al n cl lv
 has:OJ w w0.heap.size ah n ch hh
 shr:OJ w w0.heap.size as_ n cs sh
 dis:∀ k,(Value.slice ah n ch).ownBlock=some k→(Value.slice as_ n cs).ownBlock≠some k
 out:w.ownsRow w0.heap.size 83 3 (.slice ao O.length co) O.length (O.flatMap mvC)
 bel:Below w0.heap.size w0 w
variable {w0:World} {n cl ch cs co:Nat} {al ah as_ ao:Option Addr} {lv hh sh:List Int} {O:List (Int × Int × Int)}
theorem MQ.fresh {w':World} (g:MQ w0 w n al cl lv ah ch hh as_ cs sh ao co O) (hb:Below w.heap.size w w'):MQ w0 w' n al cl lv ah ch hh as_ cs sh ao co O :=
 ⟨bj g.live fun k hk=>hb.block k (World.ownsRow.lt g.live k hk).2,g.has.bel hb,g.shr.bel hb,g.dis,bj g.out fun k hk=>hb.block k (World.ownsRow.lt g.out k hk).2,g.bel.trans (hb.mono g.bel.size)⟩
theorem MQ.drew (g:MQ w0 w n al cl lv ah ch hh as_ cs sh ao co O):MQ w0 w.drew n al cl lv ah ch hh as_ cs sh ao co O:=g.fresh (Below.refl _ w).drew
theorem MQ.sto {i:Nat} {x:Int} (g:MQ w0 w n al cl lv ah ch hh as_ cs sh ao co O) (hi:i < n) (hk:∀ w',MQ w0 w' n al cl lv ah ch (hh.set i x) as_ cs sh ao co O→K undef w') :
  sto Tryz.prog 2 (.pointer (some (gu ah i))) (iv x) K w:=by
 refine JF (fun _=>by kernel_rfl) g.has hi rfl fun w' q hq hB hbq ho hw' => ?_
 obtain ⟨cq,hbq⟩:=hbq
 have e:(hh.map iv).set i (iv x)=(hh.set i x).map iv:=by rw [List.map_set]
 rw [e] at hw'
 exact hk w' ⟨bR g.live hbq (by decide) ho,hw',bj g.shr fun k hk=>ho.other k (fun hh=>g.dis q hq (by rw [← hh]; exact hk)),g.dis,bR g.out hbq (by decide) ho,bN g.bel ho hB⟩
theorem jO {l:List Int} {k n:Nat} (hl:l.length=n) (hk:k < n):(l.map iv)[k]? = some (iv (nB l k)):=by simp [nB,List.getD,show k < l.length by omega]
theorem rdJ {K2:Value→KV} {B c k:Nat} {a:Option Addr} {l:List Int} (ho:OJ w B a n c l) (hl:l.length=n) (hn:n≤6) (hk:k < n) (h:K2 (.pointer (some (gu a k))) (iv (nB l k)) w) :
  af Tryz.prog 115 (.slice a n c) (.int .i64 (k:Nat)) (fun t w=>ld Tryz.prog 2 t (K2 t) w) w:=by
 have hr:RV w a n c (l.map iv):=OV.rv ho
 refine fD Tryz.underlying115 (fun _=>by kernel_rfl) (by omega) (by omega) hr.some_ ?_
 rw [Int.toNat_natCast]
 exact dp (fun _=>by kernel_rfl) (hr.cell _ _ (jO hl hk)) h
theorem CK:(Tryz.prog.info? 83).map (fun i=>(i.zero,i.size,i.bytes))=some (some (.agg #[iv 0,iv 0,iv 0]),3,24):=by kernel_rfl
set_option maxHeartbeats 8000000 in
theorem DG {s0 node1 s2 node3 t4 live5 has6 share7 is8 out9 from10 to11 i12 x13 t14 t15 t16 t17 t18 t19 t20 t21 t22 t23 t24 t25 t26 t27 t28 t29 t30 t31 t32 t33 t34 t35 t36 t37 t38 t39 t40 t41 t42 t43 t44 t45 t46 t47 t48 t49 t50 t51 t52 t53 t54 t55 t56 t57 t58 t59 t60 t61 t62 t63 t64 t65 t66 t67 t68 t69 t70 t71 t72 t73 t74 t75 t76 t77 t78 t79 t80 t81 t82 t83 t84 t85 t86 t87 t88 t89 t90 t91 t92 t93 t94 t95 t96 t97 t98 t99 t100 t101 t102 t103 : Value} {B1 : KE} {i j : Nat} (hn : n ≤ 6) (hlv : lv.length = n) (hhl : hh.length = n) (hsl : sh.length = n) (hb : kD hh) (hbs : kD sh) (hO : O.length ≤ 100) (g : MQ w0 w n al cl lv ah ch hh as_ cs sh ao co O)
    (hi : fs (dq hh sh) n 0 = i) (hj : fs (di hh sh) n 0 = j) (q1 : live5 = .slice al n cl) (q2 : has6 = .slice ah n ch) (q3 : share7 = .slice as_ n cs) (q4 : out9 = .slice ao O.length co) (q5 : from10 = .int .i64 (ixM n i)) (q6 : to11 = .int .i64 (ixM n j))
    (hdone : fI hh sh = [] → K (.slice ao O.length co) w)
    (hnext : ∀ (e2 : List Value) (w2 : World) (ao' : Option Addr) (co' : Nat), i < n → j < n → fI hh sh = (i, j, mvX hh sh i j) :: fI (mvH hh i j (mvX hh sh i j)) sh → odd (mvH hh i j (mvX hh sh i j)) sh < odd hh sh → gd e2 9 = .slice ao' (O.length + 1) co' →
      MQ w0 w2 n al cl lv ah ch (mvH hh i j (mvX hh sh i j)) as_ cs sh ao' co' (O ++ [(nB lv i, nB lv j, mvX hh sh i j)]) → B1 e2 w2) :
    aY K B1 ((s0 :: node1 :: s2 :: node3 :: t4 :: live5 :: has6 :: share7 :: is8 :: out9 :: from10 :: to11 :: i12 :: x13 :: t14 :: t15 :: t16 :: t17 :: t18 :: t19 :: t20 :: t21 :: t22 :: t23 :: t24 :: t25 :: t26 :: t27 :: t28 :: t29 :: t30 :: t31 :: t32 :: t33 :: t34 :: t35 :: t36 :: t37 :: t38 :: t39 :: t40 :: t41 :: t42 :: t43 :: t44 :: t45 :: t46 :: t47 :: t48 :: t49 :: t50 :: t51 :: t52 :: t53 :: t54 :: t55 :: t56 :: t57 :: t58 :: t59 :: t60 :: t61 :: t62 :: t63 :: t64 :: t65 :: t66 :: t67 :: t68 :: t69 :: t70 :: t71 :: t72 :: t73 :: t74 :: t75 :: t76 :: t77 :: t78 :: t79 :: t80 :: t81 :: t82 :: t83 :: t84 :: t85 :: t86 :: t87 :: t88 :: t89 :: t90 :: t91 :: t92 :: t93 :: t94 :: t95 :: t96 :: t97 :: t98 :: t99 :: t100 :: t101 :: t102 :: t103 :: [])) w := by
  subst q1 q2 q3 q4 q5 q6
  have s1 := fQ (p := dq hh sh) (n := n) _ 0 rfl (Nat.zero_le _)
  have s2 := fQ (p := di hh sh) (n := n) _ 0 rfl (Nat.zero_le _)
  rw [hi] at s1
  rw [hj] at s2
  refine qB ?_
  refine aD ?_
  by_cases hin : ¬ i < n
  · have hneg : ixM n i < 0 := by unfold ixM; rw [if_neg hin]; decide
    refine de hneg ?_
    refine bp hneg ?_
    refine aR ?_
    exact hdone (qi (by rw [hsl]; left; have := s1.2.1; omega))
  have hi6 : i < n := by omega
  have eI : ixM n i = (i : Nat) := by unfold ixM; rw [if_pos hi6]
  rw [eI]
  have hni : ¬ ((i : Nat) : Int) < 0 := by omega
  refine cE hni ?_
  refine aD ?_
  refine bt hni ?_
  by_cases hjn : ¬ j < n
  · have hneg : ixM n j < 0 := by unfold ixM; rw [if_neg hjn]; decide
    refine ai hneg ?_
    exact hdone (qi (by rw [hsl]; right; have := s2.2.1; omega))
  have hj6 : j < n := by omega
  have eJ : ixM n j = (j : Nat) := by unfold ixM; rw [if_pos hj6]
  rw [eJ]
  refine ag (by omega) ?_
  have hr := s1.2.2.2 hi6
  have hp := s2.2.2.2 hj6
  have hstep := yk (h := hh) (s := sh) (i := i) (j := j) (by omega) (by rw [hsl]; exact hi) (by rw [hsl]; exact hj) (by omega) (by omega)
  have hodd := sc (h := hh) (s := sh) (by omega) (show i < sh.length by omega) (show j < sh.length by omega) hr hp
  have hij : i ≠ j := by
    rintro rfl
    have h1 := of_decide_eq_true hr
    have h2 := of_decide_eq_true hp
    omega
  have b1 := hb i
  have b2 := hb j
  have b3 := hbs i
  have b4 := hbs j
  have hM : MXA = 1125899906842624 := rfl
  rw [hM] at b1 b2 b3 b4
  have hx : mvX hh sh i j ≤ nB hh i - nB sh i ∧ mvX hh sh i j ≤ nB sh j - nB hh j ∧ 0 < mvX hh sh i j := ⟨Int.min_le_left _ _, Int.min_le_right _ _, xt hr hp⟩
  have gd := g.drew
  have hrh : RV w.drew ah n ch (hh.map iv) := OV.rv gd.has
  have hrs : RV w.drew as_ n cs (sh.map iv) := OV.rv gd.shr
  have ixr : ∀ {x : World} {a : Option Addr} {c k : Nat} {l : List Int}, RV x a n c (l.map iv) → k < n → ∀ K : KV, K (.pointer (some (gu a k))) x → af Tryz.prog 115 (.slice a n c) (.int .i64 (k : Nat)) K x := fun hx hk K hK =>
    fD Tryz.underlying115 (fun _ => by kernel_rfl) (by omega) (by omega) hx.some_ (by rw [Int.toNat_natCast]; exact hK)
  refine aC (fun x => RV x ah n ch (hh.map iv) ∧ RV x as_ n cs (sh.map iv)) ⟨hrh, hrs⟩ ?_
  refine ab (fun x hx K hK => ixr hx.1 hi6 K hK) ?_
  refine ab (v := iv (nB hh i)) (fun x hx K hK => dp (fun _ => by kernel_rfl) (hx.1.cell _ _ (jO hhl hi6)) hK) ?_
  refine ab (fun x hx K hK => ixr hx.2 hi6 K hK) ?_
  refine ab (v := iv (nB sh i)) (fun x hx K hK => dp (fun _ => by kernel_rfl) (hx.2.cell _ _ (jO hsl hi6)) hK) ?_
  refine ab (v := .int .i64 (nB hh i - nB sh i)) (fun x hx K hK => bo (by omega) (by omega) hK) ?_
  refine ab (fun x hx K hK => ixr hx.2 hj6 K hK) ?_
  refine ab (v := iv (nB sh j)) (fun x hx K hK => dp (fun _ => by kernel_rfl) (hx.2.cell _ _ (jO hsl hj6)) hK) ?_
  refine ab (fun x hx K hK => ixr hx.1 hj6 K hK) ?_
  refine ab (v := iv (nB hh j)) (fun x hx K hK => dp (fun _ => by kernel_rfl) (hx.1.cell _ _ (jO hhl hj6)) hK) ?_
  refine ab (v := .int .i64 (nB sh j - nB hh j)) (fun x hx K hK => bo (by omega) (by omega) hK) ?_
  refine GE ?_
  have hmin : (if nB sh j - nB hh j < nB hh i - nB sh i then nB sh j - nB hh j else nB hh i - nB sh i) = mvX hh sh i j := by
    unfold mvX
    rw [Int.min_def]
    split <;> split <;> omega
  rw [hmin]
  refine aC (fun _ => True) trivial ?_
  refine qD ?_
  refine rdJ gd.has hhl hn hi6 ?_
  unfold iv
  refine bo (by omega) (by omega) ?_
  refine ixr hrh hi6 _ ?_
  refine gd.sto hi6 fun w2 g2 => ?_
  have hl2 : (hh.set i (nB hh i - mvX hh sh i j)).length = n := by simpa using hhl
  have hj2 : nB (hh.set i (nB hh i - mvX hh sh i j)) j = nB hh j := by rw [pj (by omega), if_neg (by omega)]
  refine rdJ g2.has hl2 hn hj6 ?_
  rw [hj2]
  unfold iv
  refine aF (by omega) (by omega) ?_
  refine ixr (OV.rv g2.has) hj6 _ ?_
  refine g2.sto hj6 fun w3 g3 => ?_
  have hmv : (hh.set i (nB hh i - mvX hh sh i j)).set j (nB hh j + mvX hh sh i j) = mvH hh i j (mvX hh sh i j) := rfl
  rw [hmv] at g3
  have g3 := g3.drew
  have hrv : RV w3.drew al n cl (lv.map iv) := OV.rv g3.live
  refine aC (fun x => RV x al n cl (lv.map iv)) hrv ?_
  refine ab (v := .pointer (some (gu al ((i : Nat) : Int).toNat))) (fun x hx K hK => fD Tryz.underlying56 (fun _ => by kernel_rfl) (by omega) (by omega) hx.some_ hK) ?_
  rw [Int.toNat_natCast]
  refine ab (v := iv (nB lv i)) (fun x hx K hK => dp (fun _ => by kernel_rfl) (hx.cell _ _ (yU hlv hi6)) hK) ?_
  refine ab (v := .pointer (some (gu al ((j : Nat) : Int).toNat))) (fun x hx K hK => fD Tryz.underlying56 (fun _ => by kernel_rfl) (by omega) (by omega) hx.some_ hK) ?_
  rw [Int.toNat_natCast]
  refine ab (v := iv (nB lv j)) (fun x hx K hK => dp (fun _ => by kernel_rfl) (hx.cell _ _ (yU hlv hj6)) hK) ?_
  refine ab (v := .agg (mvC (nB lv i, nB lv j, mvX hh sh i j)).toArray) (fun x hx K hK => eE (by kernel_rfl) hK) ?_
  refine hH (vs := [.agg (mvC (nB lv i, nB lv j, mvX hh sh i j)).toArray]) Tryz.underlying81 (s := 3) (by kernel_rfl) (by kernel_rfl) (by omega) rfl (by simp) (by simp) (by simp) (by simp [Value.cells, mvC]) fun w4 h4 b4 s4 => ?_
  have h4 : blk w4 w3.drew.heap.size 83 (mvC (nB lv i, nB lv j, mvX hh sh i j)) := by simpa [Value.cells] using h4
  have g4 := g3.fresh b4
  obtain ⟨ii, hi', hz, hsz, hby⟩ := info_parts CK
  refine aC (fun _ => True) trivial ?_
  refine ka (base := w0.heap.size) (x := (nB lv i, nB lv j, mvX hh sh i j)) Tryz.underlying81 hi' hz hsz hby rfl (by omega) np g4.out h4 (xA _) (by omega) (by omega) g4.bel.size fun ao' co' w5 ho5 hgr b5 _ => ?_
  refine aC (fun _ => True) trivial ?_
  refine hnext _ w5 ao' co' hi6 hj6 hstep hodd rfl ⟨gh g4.live g4.out (by decide) hgr, gh g4.has g4.out (by decide) hgr, gh g4.shr g4.out (by decide) hgr, g4.dis, ?_, g4.bel.trans b5⟩
  rw [List.length_append]
  exact ho5
set_option maxHeartbeats 8000000 in
theorem zO {s:STA} {id:Int} (hs:SK w s) (h:∀ w' a c,w'.ownsRow w.heap.size 83 3 (.slice a (dr s id).length c) (dr s id).length ((dr s id).flatMap mvC)→Below w.heap.size w w'→(dr s id).length≤6→K (.slice a (dr s id).length c) w') :
  call Tryz.prog 21 #[.agg (saC s).toArray,.int .u64 id] K w:=by
 refine aE sH (sF ?_)
 refine bh fun w1 hb b1 s1 => ?_
 have hb:blk w1 w.heap.size 30 (saC s):=by simpa [Value.cells] using hb
 have cutS:((saC s).drop 0).take 20=saC s:=by rw [List.drop_zero,List.take_of_length_le (by rw [hs.len]; omega)]
 refine ldA (n:=20) (vs:=saC s) Tryz.underlying30 rfl (by kernel_rfl) hb cutS hs.len <|zR (hs.bel b1 (Nat.le_refl _)) fun w2 v b2 hv => ?_
 have B2:Below w.heap.size w w2:=b1.trans (b2.mono (by omega))
 have hll:(bS s.I s.L 6).length≤6:=iV _ _ 6
 unfold ShR at hv
 cases hq:eO s id with
 | none =>
  rw [hq] at hv
  subst hv
  refine vz <|vA <|vB <|vC <|cU <|aR ?_
  have hm:dr s id=[]:=by unfold dr; rw [hq]
  rw [hm] at h
  exact h w2 none 0 (World.ownsRow_nil _ _ _ _) B2 (by simp)
 | some p =>
  obtain ⟨has,sh⟩:=p
  rw [hq] at hv
  obtain ⟨al,cl,ah,ch,as_,cs,hl,hoh,hos,hd1,hd2,rfl⟩:=hv
  have hln:=oM hq
  obtain ⟨hb0,hbs⟩:=yo hq
  rw [yp hq] at h
  refine vz <|vA <|vB <|vC <|cU <|cW ?_
  generalize bS s.I s.L 6=lv at *
  generalize hn:lv.length=n at *
  have hhn:has.length=n:=hln.1
  have hsn:sh.length=n:=hln.2
  rw [hhn] at hoh hd1 hd2
  rw [hsn] at hos hd2
  rw [hhn,hsn]
  have mono:∀ {E:TypeId} {v:Value} {xs:List Value},w2.ownsRow w1.heap.size E 1 v n xs→w2.ownsRow w.heap.size E 1 v n xs:=fun ho=>by
   refine ⟨ho.1, ?_⟩
   rcases ho.2 with h2 | ⟨g,cap,cur,hv,hg,r⟩
   ·exact .inl h2
   ·exact .inr ⟨g,cap,cur,hv,by omega,r⟩
  have g0:MQ w w2 n al cl lv ah ch has as_ cs sh none 0 []:=⟨mono hl,mono hoh,mono hos,fun k hk hk2=>by have:=hd2 k hk2 k hk; omega,World.ownsRow_nil _ _ _ _,B2⟩
  refine qx (Inv:=fun out _ _ wr => ∃ (hh:List Int) (O:List (Int × Int × Int)) (ao:Option Addr) (co:Nat),out=.slice ao O.length co∧hh.length=n∧kD hh∧MQ w wr n al cl lv ah ch hh as_ cs sh ao co O ∧
    O++mvO lv (fI hh sh)=mvO lv (fI has sh)∧O.length+odd hh sh≤6)
   (μ:=fun out _ _ _=>7 - slN out) ⟨has,[],none,0,rfl,hhn,hb0,g0,rfl,by have:=DP has sh; simp; omega⟩ ?_
  rintro _ _ _ dd w5 m ⟨hh,O,ao,co,rfl,hhl,hbh,g5,hM,hodd⟩ hmm
  have hdone:∀ w',MQ w w' n al cl lv ah ch hh as_ cs sh ao co O→fI hh sh=[]→K (.slice ao O.length co) w':=by
   intro w' g' hz
   rw [hz] at hM
   have hM:O=mvO lv (fI has sh):=by simpa [mvO] using hM
   rw [← hM] at h
   exact h w' ao co g'.out g'.bel (by omega)
  refine aI Tryz.underlying56 <|bo (by omega) (by omega) ?_
  refine qy (Inv:=fun fv tv iv' wr => ∃ k:Nat,k≤n∧iv'=.int .i64 ((k:Nat) - 1)∧fv=.int .i64 (ixM n (fs (dq hh sh) n k))∧tv=.int .i64 (ixM n (fs (di hh sh) n k))∧MQ w wr n al cl lv ah ch hh as_ cs sh ao co O)
   (μ:=fun _ _ i _=>(intOf i+1).toNat) ⟨n,Nat.le_refl _,rfl,by rw [vY (Nat.le_refl _)]; simp [ixM],by rw [vY (Nat.le_refl _)]; simp [ixM],g5⟩ ?_
  rintro _ _ _ dd2 w6 m2 ⟨k,hk,rfl,rfl,rfl,g6⟩ hmm2
  refine dI ?_
  by_cases hk0:0 < k
  ·refine ai (by omega) ?_
   obtain ⟨k,rfl⟩:=Nat.exists_eq_succ_of_ne_zero (show k≠0 by omega)
   have hkn:k < n:=by omega
   have ek:((k.succ:Nat):Int) - 1=(k:Nat):=by omega
   rw [ek]
   have g7:=g6.drew
   have rdS:∀ {a:Option Addr} {c:Nat} {l:List Int}, ∀ {w':World},RV w' a n c (l.map iv)→l.length=n→RV w' a n c (l.map iv):=fun h _=>h
   have hrh:RV w6.drew ah n ch (hh.map iv):=OV.rv g7.has
   have hrs:RV w6.drew as_ n cs (sh.map iv):=OV.rv g7.shr
   refine qA <|a8 (v:=.pointer (some (gu ah ((k:Nat):Int).toNat))) (fun _=>fD Tryz.underlying115 (fun _=>by kernel_rfl) (by omega) (by omega) hrh.some_) ?_
   rw [Int.toNat_natCast]
   refine a8 (fun _=>dp (fun _=>by kernel_rfl) (hrh.cell _ _ (jO hhl hkn))) <|a8 (v:=.pointer (some (gu as_ ((k:Nat):Int).toNat))) (fun _=>fD Tryz.underlying115 (fun _=>by kernel_rfl) (by omega) (by omega) hrs.some_) ?_
   rw [Int.toNat_natCast]
   refine a8 (fun _=>dp (fun _=>by kernel_rfl) (hrs.cell _ _ (jO hsn hkn))) ?_
   unfold iv
   refine a8 (fun _=>cD) <|qC ?_
   -- behind the first: the second,and the next index
   have rest:∀ {s0 node1 s2 node3 t4 live5 has6 share7 is8 out9 from10 to11 i12 x13 t14 t15 t16 t17 t18 t19 t20 t21 t22 t23 t24 t25 t26 t27 t28 t29 t30 t31 t32 t33 t34 t35 t36 t37 t38 t39 t40 t41 t42 t43 t44 t45 t46 t47 t48 t49 t50 t51 t52 t53 t54 t55 t56 t57 t58 t59 t60 t61 t62 t63 t64 t65 t66 t67 t68 t69 t70 t71 t72 t73 t74 t75 t76 t77 t78 t79 t80 t81 t82 t83 t84 t85 t86 t87 t88 t89 t90 t91 t92 t93 t94 t95 t96 t97 t98 t99 t100 t101 t102 t103:Value} {w7:World} {B1 B2:KE},MQ w w7 n al cl lv ah ch hh as_ cs sh ao co O→has6=.slice ah n ch→share7=.slice as_ n cs→i12=.int .i64 (k:Nat)→from10=.int .i64 (ixM n (fs (dq hh sh) n k))→to11=.int .i64 (ixM n (fs (di hh sh) n (k+1))) →
     (∀ (e2:List Value) (w8:World),gd e2 10=.int .i64 (ixM n (fs (dq hh sh) n k))→gd e2 11=.int .i64 (ixM n (fs (di hh sh) n k))→gd e2 12=.int .i64 ((k:Nat) - 1)→MQ w w8 n al cl lv ah ch hh as_ cs sh ao co O→B2 e2 w8) →
     dk K B1 B2 ((s0::node1::s2::node3::t4::live5::has6::share7::is8::out9::from10::to11::i12::x13::t14::t15::t16::t17::t18::t19::t20::t21::t22::t23::t24::t25::t26::t27::t28::t29::t30::t31::t32::t33::t34::t35::t36::t37::t38::t39::t40::t41::t42::t43::t44::t45::t46::t47::t48::t49::t50::t51::t52::t53::t54::t55::t56::t57::t58::t59::t60::t61::t62::t63::t64::t65::t66::t67::t68::t69::t70::t71::t72::t73::t74::t75::t76::t77::t78::t79::t80::t81::t82::t83::t84::t85::t86::t87::t88::t89::t90::t91::t92::t93::t94::t95::t96::t97::t98::t99::t100::t101::t102::t103::[])) w7:=by
    intro s0 node1 s2 node3 t4 live5 has6 share7 is8 out9 from10 to11 i12 x13 t14 t15 t16 t17 t18 t19 t20 t21 t22 t23 t24 t25 t26 t27 t28 t29 t30 t31 t32 t33 t34 t35 t36 t37 t38 t39 t40 t41 t42 t43 t44 t45 t46 t47 t48 t49 t50 t51 t52 t53 t54 t55 t56 t57 t58 t59 t60 t61 t62 t63 t64 t65 t66 t67 t68 t69 t70 t71 t72 t73 t74 t75 t76 t77 t78 t79 t80 t81 t82 t83 t84 t85 t86 t87 t88 t89 t90 t91 t92 t93 t94 t95 t96 t97 t98 t99 t100 t101 t102 t103 w7 B1 B2 g7 q1 q2 q3 q4 q5 hB
    subst q1 q2 q3 q4 q5
    have g8:=g7.drew
    have hrh:RV w7.drew ah n ch (hh.map iv):=OV.rv g8.has
    have hrs:RV w7.drew as_ n cs (sh.map iv):=OV.rv g8.shr
    refine qE <|a8 (v:=.pointer (some (gu ah ((k:Nat):Int).toNat))) (fun _=>fD Tryz.underlying115 (fun _=>by kernel_rfl) (by omega) (by omega) hrh.some_) ?_
    rw [Int.toNat_natCast]
    refine a8 (fun _=>dp (fun _=>by kernel_rfl) (hrh.cell _ _ (jO hhl hkn))) <|a8 (v:=.pointer (some (gu as_ ((k:Nat):Int).toNat))) (fun _=>fD Tryz.underlying115 (fun _=>by kernel_rfl) (by omega) (by omega) hrs.some_) ?_
    rw [Int.toNat_natCast]
    refine a8 (fun _=>dp (fun _=>by kernel_rfl) (hrs.cell _ _ (jO hsn hkn))) ?_
    unfold iv
    refine a8 (fun _=>aD) ?_
    by_cases hp:nB hh k < nB sh k
    ·refine ai hp <|kC <|bo (by omega) (by omega) ?_
     refine hB _ _ rfl ?_ rfl g8
     show Value.int .i64 (k:Nat)=.int .i64 (ixM n (fs (di hh sh) n k))
     rw [lg hkn,show di hh sh k=true from decide_eq_true hp,if_pos rfl]
     unfold ixM; rw [if_pos hkn]
    ·refine ag hp <|kC <|bo (by omega) (by omega) ?_
     refine hB _ _ rfl ?_ rfl g8
     show Value.int .i64 (ixM n (fs (di hh sh) n (k+1)))=.int .i64 (ixM n (fs (di hh sh) n k))
     rw [lg hkn (p:=di hh sh) (i:=k),show di hh sh k=false from decide_eq_false hp,if_neg (by simp)]
   have fin:∀ (e2:List Value) (w8:World),gd e2 10=.int .i64 (ixM n (fs (dq hh sh) n k))→gd e2 11=.int .i64 (ixM n (fs (di hh sh) n k))→gd e2 12=.int .i64 ((k:Nat) - 1)→MQ w w8 n al cl lv ah ch hh as_ cs sh ao co O →
     (∃ k':Nat,k'≤n∧gd e2 12=.int .i64 ((k':Nat) - 1)∧gd e2 10=.int .i64 (ixM n (fs (dq hh sh) n k'))∧gd e2 11=.int .i64 (ixM n (fs (di hh sh) n k'))∧MQ w w8 n al cl lv ah ch hh as_ cs sh ao co O)∧(intOf (gd e2 12)+1).toNat < m2:=by
    intro e2 w8 h1 h2 h3 g8
    refine ⟨⟨k,by omega,h3,h1,h2,g8⟩, ?_⟩
    rw [hmm2,h3]; show ((k:Int) - 1+1).toNat < ((k.succ:Nat) - 1+1:Int).toNat; omega
   by_cases hr:nB sh k < nB hh k
   ·refine ai hr ?_
    refine rest g7 rfl rfl rfl ?_ rfl fin
    rw [lg (p:=dq hh sh) (i:=k) hkn,show dq hh sh k=true from decide_eq_true hr,if_pos rfl]
    unfold ixM; rw [if_pos hkn]
   ·refine ag hr ?_
    refine rest g7 rfl rfl rfl ?_ rfl fin
    rw [lg hkn (p:=dq hh sh) (i:=k),show dq hh sh k=false from decide_eq_false hr,if_neg (by simp)]
  ·obtain rfl:k=0:=by omega
   refine ag (by omega) <|DG hll hn hhl hsn hbh hbs (by omega) g6 rfl rfl rfl rfl rfl rfl rfl rfl (hdone _ g6) fun e2 w2 ao' co' hi6 hj6 hst hod h9 g' => ?_
   have s1:=fQ (p:=dq hh sh) (n:=n) _ 0 rfl (Nat.zero_le _)
   have s2:=fQ (p:=di hh sh) (n:=n) _ 0 rfl (Nat.zero_le _)
   have hr:=s1.2.2.2 hi6
   have hp:=s2.2.2.2 hj6
   rw [h9]
   refine ⟨⟨_,_,ao',co',by rw [List.length_append]; rfl,by rw [Br]; exact hhl,DN hbh hbs (by omega) (by omega) hr hp,g', ?_,by simp; omega⟩,by rw [hmm]; show 7 - (O.length+1) < 7 - O.length; omega⟩
   rw [← hM,hst,List.append_assoc]
   rfl
end
end Go.Proofs.YtgpfkmdknlcemaaGreatDoor
namespace Go.Proofs.YtgpfkmdknlcemaaGreatDoor
set_option maxRecDepth 100000
open Go.RowKit
def aqC (x:Int × Int × Int):List Value:=[.int .u8 5,.int .u64 x.1,iv x.2.1,iv x.2.2,.int .u64 0,.int .u64 0]
theorem tB (m:Int × Int × Int):(aqC m).length=6:=rfl
theorem Bx (m:Int × Int × Int):∀ u ∈ aqC m,u.oneCell'=true:=by simp [aqC,iv,Value.oneCell']
def sw (i id:Int) (m:Int × Int × Int):Option (Int × Int × Int):=if m.1=i then some (id,m.2.1,m.2.2) else none
theorem ym {α β:Type} {f:α→List β} {L:List α} {k:Nat} {x:α} (hx:L[k]? = some x):(L.take (k+1)).flatMap f=(L.take k).flatMap f++f x:=by
 rw [List.take_add_one,hx]; simp
theorem oL {α β:Type} {f:α→Option β} {L:List α} {k:Nat} {x:α} (hx:L[k]? = some x):(L.take (k+1)).filterMap f=(L.take k).filterMap f++(f x).toList:=by
 rw [List.take_add_one,hx,List.filterMap_append]
 cases h:f x <;> simp [h]
theorem FF {w:World} {K:KV} {b o:Nat} (h:K (.pointer (some ⟨b,o+0,none⟩)) w):aa Tryz.prog 69 (.pointer (some ⟨b,o,none⟩)) 0 K w:=aq (by kernel_rfl) h
theorem FG {w:World} {K:KV} {b o:Nat} (h:K (.pointer (some ⟨b,o+1,none⟩)) w):aa Tryz.prog 69 (.pointer (some ⟨b,o,none⟩)) 1 K w:=aq (by kernel_rfl) h
theorem FH {w:World} {K:KV} {b o:Nat} (h:K (.pointer (some ⟨b,o+2,none⟩)) w):aa Tryz.prog 69 (.pointer (some ⟨b,o,none⟩)) 2 K w:=aq (by kernel_rfl) h
attribute [local irreducible] bin un conv call bl blt slc aa fld af idx lkp bL bP eSt rng nxt ent ext alc box bld aJ ld sto aj bm mkS ifc pick rdy wts au sti cond aH Gives ac aW bA cOp
section
variable {w:World} {K:KV}
theorem zP:(Tryz.prog.info? 61).map (fun i=>(i.zero,i.size,i.bytes))=some (some (.agg (#[.int .u8 0,.int .u64 0,iv 0,iv 0,.int .u64 0,.int .u64 0])),6,48):=by kernel_rfl
theorem JG {K2:Value→KV} {B n c:Nat} {a:Option Addr} {O:List (Int × Int × Int)} {x:Int × Int × Int} (ho:w.ownsRow B 61 6 (.slice a n c) n (O.flatMap aqC)) (hB:B≤w.heap.size) (hn:n≤10000000)
  (h:∀ t a' c' w',w'.ownsRow B 61 6 (.slice a' (n+1) c') (n+1) ((O++[x]).flatMap aqC)→Below B w w'→(∀ {p:Nat} {E:TypeId} {cs:List Value},blk w p E cs→E≠61→blk w' p E cs) →
   (∀ {B2 s2 n2:Nat} {E:TypeId} {v:Value} {xs:List Value},w.ownsRow B2 E s2 v n2 xs→E≠61→w'.ownsRow B2 E s2 v n2 xs)→K2 t (.slice a' (n+1) c') w') :
  aJ Tryz.prog 58 1 #[(0,.agg (aqC x).toArray)] (fun t w=>blt Tryz.prog .append #[58,58] 58 #[false,false] #[.slice a n c,t] (K2 t) w) w:=by
 refine hH (vs:=[.agg (aqC x).toArray]) Tryz.underlying58 (s:=6) (by kernel_rfl) (by kernel_rfl) (by omega) rfl (by simp) (by simp) (by simp) (by simp [Value.cells,aqC]) fun w1 h1 b1 s1 => ?_
 have h1:blk w1 w.heap.size 61 (aqC x):=by simpa [Value.cells] using h1
 obtain ⟨i,hi,hz,hsz,hby⟩:=info_parts zP
 have ho1:w1.ownsRow B 61 6 (.slice a n c) n (O.flatMap aqC):=bj ho fun k hk=>b1.block k (World.ownsRow.lt ho k hk).2
 refine ka (base:=B) (x:=x) Tryz.underlying58 hi hz hsz hby rfl (by omega) tB ho1 h1 (Bx _) (by omega) (by omega) (by omega) fun a' c' w2 ho2 hgr b2 _ => ?_
 refine h _ a' c' w2 ho2 ((b1.mono hB).trans b2) (fun hb hE => ?_) (fun hr hE => ?_)
 ·exact dv (ae b1 hb hb.lt) ho1 hE hgr
 ·exact gh (bj hr fun k hk=>b1.block k (World.ownsRow.lt hr k hk).2) ho1 hE hgr
set_option maxHeartbeats 8000000 in
theorem IG {s:STA} {i:Int} (hs:SK w s) (h:∀ w' a c,w'.ownsRow w.heap.size 61 6 (.slice a (gA s i).length c) (gA s i).length ((gA s i).flatMap aqC)→Below w.heap.size w w'→K (.slice a (gA s i).length c) w') :
  call Tryz.prog 13 #[.agg (saC s).toArray,iv i] K w:=by
 refine aE Aa (zZ ?_)
 refine bh fun w1 hb b1 s1 => ?_
 have hb:blk w1 w.heap.size 30 (saC s):=by simpa [Value.cells] using hb
 have cutS:((saC s).drop 0).take 20=saC s:=by rw [List.drop_zero,List.take_of_length_le (by rw [hs.len]; omega)]
 have few:=hs.few
 have hb0:=hb.lt
 refine aU ?_
 refine ld1 (v:=.slice s.na s.nodes.length s.nc) (fun _=>by kernel_rfl) hb (jZ hs) ?_
 refine aI Tryz.underlying27 ?_
 refine xJ (Inv:=fun out kv wr => ∃ (k:Nat) (O:List (Int × Int × Int)) (ao:Option Addr) (co:Nat),out=.slice ao O.length co∧kv=.int .i64 (k:Nat)∧k≤s.nodes.length∧O=((s.nodes.take k).flatMap fun x=>(dr s x.id).filterMap (sw i x.id))∧O.length≤6 * k ∧
   wr.ownsRow (w.heap.size+1) 61 6 (.slice ao O.length co) O.length (O.flatMap aqC)∧Below (w.heap.size+1) w1 wr)
  (μ:=fun _ kv _=>s.nodes.length - (intOf kv).toNat) ⟨0,[],none,0,rfl,rfl,by omega,rfl,by simp,World.ownsRow_nil _ _ _ _,Below.refl _ _⟩ ?_
 rintro _ _ dd w2 m ⟨k,O,ao,co,rfl,rfl,hk,hO,hOl,ho,b2⟩ hm
 have b02:Below w.heap.size w w2:=b1.trans (b2.mono (by omega))
 have hs2:SK w2 s:=hs.bel b02 (Nat.le_refl _)
 have hsz2:w.heap.size+1≤w2.heap.size:=by have:=b2.size; omega
 refine aD ?_
 by_cases hkn:k < s.nodes.length
 ·refine ai (by omega) ?_
  obtain ⟨b,o,ha⟩:=hs2.nr.some_ (by omega)
  have hx:s.nodes[k]? = some s.nodes[k]:=List.getElem?_eq_getElem hkn
  generalize s.nodes[k]=x at hx
  have hA:=hs2.nr.A54 x (List.mem_of_getElem? hx)
  have hnr:=hs2.nr
  rw [ha] at hnr ⊢
  refine bJ Tryz.underlying27 (s:=56) (fun _=>by kernel_rfl) (by omega) (by omega) ?_
  rw [Int.toNat_natCast]
  refine Ix hnr rfl hx ?_
  refine cH (z:=.agg (Array.replicate 56 (.int .i64 0) |>.set! 0 (.int .u64 0) |>.set! 1 (.int .u64 0))) (by kernel_rfl) fun w3 h3 b3 s3 => ?_
  have h3l:∃ cs0:List Value,cs0.length=56∧blk w3 w2.heap.size 38 cs0:=⟨_,rfl,h3⟩
  obtain ⟨cs0,hcs0,h3⟩:=h3l
  refine eM (n:=56) (vs:=ndC x) (by kernel_rfl) (xg hA) h3 (by omega) (by simp [ndC,iv,Value.oneCell']) fun w4 h4 o4 => ?_
  have h4:blk w4 w2.heap.size 38 (ndC x):=by
   rw [List.take_zero,List.nil_append,List.drop_of_length_le (by omega),List.append_nil] at h4
   exact h4
  have b24:Below w2.heap.size w2 w4:=b3.trans o4.below
  have hb4:blk w4 w.heap.size 30 (saC s):=ae (b2.trans (b24.mono hsz2)) hb (by omega)
  refine ldA (n:=20) (vs:=saC s) Tryz.underlying30 rfl (by kernel_rfl) hb4 cutS hs.len ?_
  refine gC ?_
  refine ld1 (v:=.int .u64 x.id) (fun _=>by kernel_rfl) h4 rfl ?_
  refine BE (hs2.bel b24 (Nat.le_refl _)) fun w5 am cm hom b5 hml => ?_
  have hM:dr s x.id=dr s x.id:=rfl
  refine aI Tryz.underlying65 ?_
  have hsz4:=b24.size
  have b45:Below (w.heap.size+1) w1 w5:=b2.trans ((b24.trans (b5.mono hsz4)).mono hsz2)
  have ho5:w5.ownsRow (w.heap.size+1) 61 6 (.slice ao O.length co) O.length (O.flatMap aqC):=bj ho fun q hq=>by
   have hlt:=(World.ownsRow.lt ho q hq).2
   rw [b5.block q (by omega),b24.block q hlt]
  have h5:blk w5 w2.heap.size 38 (ndC x):=ae b5 h4 h4.lt
  generalize hMM:dr s x.id=M at *
  refine xK (Inv:=fun out jv wr => ∃ (j:Nat) (O2:List (Int × Int × Int)) (ao:Option Addr) (co:Nat),out=.slice ao O2.length co∧jv=.int .i64 (j:Nat)∧j≤M.length∧O2=O++(M.take j).filterMap (sw i x.id)∧O2.length≤6 * k+j ∧
    wr.ownsRow (w.heap.size+1) 61 6 (.slice ao O2.length co) O2.length (O2.flatMap aqC)∧Below (w.heap.size+1) w1 wr∧blk wr w2.heap.size 38 (ndC x)∧wr.ownsRow w4.heap.size 69 3 (.slice am M.length cm) M.length (M.flatMap mvC)∧w5.heap.size≤wr.heap.size)
   (μ:=fun _ jv _=>M.length - (intOf jv).toNat) ⟨0,O,ao,co,rfl,rfl,by omega,by simp,by omega,ho5,b45,h5,hom,Nat.le_refl _⟩ ?_
  rintro _ _ dd2 w6 m2 ⟨j,O2,ao2,co2,rfl,rfl,hj,hO2,hO2l,ho6,b6,h6,hom6,hs6⟩ hm2
  refine aD ?_
  by_cases hjn:j < M.length
  ·refine ai (by omega) ?_
   refine xM ?_
   have hmj:M[j]? = some M[j]:=List.getElem?_eq_getElem hjn
   generalize M[j]=mv at hmj
   refine GD (enc:=mvC) (s:=3) Tryz.underlying65 (fun _=>by kernel_rfl) Tryz.underlying69 rfl (by kernel_rfl) np hom6 rfl hmj fun _ => ?_
   refine cH (z:=.agg #[iv 0,iv 0,iv 0]) (by kernel_rfl) fun w7 h7 b7 s7 => ?_
   refine eM (n:=3) (vs:=mvC mv) (by kernel_rfl) rfl h7 (by simp [Value.cells]) (xA _) fun w8 h8 o8 => ?_
   have h8:blk w8 w6.heap.size 69 (mvC mv):=by
    rw [List.take_zero,List.nil_append,List.drop_of_length_le (by simp [Value.cells]),List.append_nil] at h8
    exact h8
   have b68:Below w6.heap.size w6 w8:=b7.trans o8.below
   have hs61:=b6.size
   have hs68:=b68.size
   have h68:blk w8 w2.heap.size 38 (ndC x):=ae b68 h6 h6.lt
   have ho8:w8.ownsRow (w.heap.size+1) 61 6 (.slice ao2 O2.length co2) O2.length (O2.flatMap aqC):=bj ho6 fun q hq=>b68.block q (World.ownsRow.lt ho6 q hq).2
   have hom8:w8.ownsRow w4.heap.size 69 3 (.slice am M.length cm) M.length (M.flatMap mvC):=bj hom6 fun q hq=>b68.block q (World.ownsRow.lt hom6 q hq).2
   have b8:Below (w.heap.size+1) w1 w8:=b6.trans (b68.mono (by omega))
   have hs81:w.heap.size+1≤w8.heap.size:=by have:=b8.size; omega
   refine FF ?_
   refine ld1 (v:=iv mv.1) (fun _=>by kernel_rfl) h8 rfl ?_
   unfold iv
   refine aN ?_
   by_cases he:mv.1=i
   ·refine ai he ?_
    refine gC ?_
    refine ld1 (v:=.int .u64 x.id) (fun _=>by kernel_rfl) h68 rfl ?_
    refine FG ?_
    refine ld1 (v:=iv mv.2.1) (fun _=>by kernel_rfl) h8 rfl ?_
    refine FH ?_
    refine ld1 (v:=iv mv.2.2) (fun _=>by kernel_rfl) h8 rfl ?_
    refine eE (vs:=aqC (x.id,mv.2.1,mv.2.2)) (by kernel_rfl) ?_
    refine JG ho8 (by omega) (by omega) fun _ a9 c9 w9 ho9 b9 kb kr => ?_
    refine pF ?_
    refine aF (by omega) (by omega) ?_
    refine ⟨⟨j+1,O2++[(x.id,mv.2.1,mv.2.2)],a9,c9,by rw [List.length_append]; rfl,congrArg (Value.int .i64) (by push_cast; rfl),by omega, ?_,by simp; omega,by rw [List.length_append]; exact ho9,b8.trans b9,kb h68 (by decide),kr hom8 (by decide),by have:=b9.size; omega⟩,by rw [hm2]; show M.length - ((j:Int)+1).toNat < M.length - (j:Int).toNat; omega⟩
    rw [oL hmj, ← List.append_assoc, ← hO2]
    simp [sw,he]
   ·refine ag he ?_
    refine pF ?_
    refine aF (by omega) (by omega) ?_
    refine ⟨⟨j+1,O2,ao2,co2,rfl,congrArg (Value.int .i64) (by push_cast; rfl),by omega, ?_,by omega,ho8,b8,h68,hom8,by omega⟩,by rw [hm2]; show M.length - ((j:Int)+1).toNat < M.length - (j:Int).toNat; omega⟩
    rw [oL hmj, ← List.append_assoc, ← hO2]
    simp [sw,he]
  ·refine ag (by omega) ?_
   refine xN ?_
   refine aF (by omega) (by omega) ?_
   have hjM:j=M.length:=by omega
   subst hjM
   have hml6:M.length≤6:=hml
   refine ⟨⟨k+1,O2,ao2,co2,rfl,congrArg (Value.int .i64) (by push_cast; rfl),by omega, ?_,by omega,ho6,b6⟩,by rw [hm]; show s.nodes.length - ((k:Int)+1).toNat < s.nodes.length - (k:Int).toNat; omega⟩
   rw [ym hx, ← hO,hO2,List.take_length,hMM]
 ·refine ag (by omega) ?_
  refine xL ?_
  obtain rfl:k=s.nodes.length:=by omega
  have hO:O=gA s i:=by rw [hO,List.take_length]; rfl
  subst hO
  have ho':w2.ownsRow w.heap.size 61 6 (.slice ao (gA s i).length co) (gA s i).length ((gA s i).flatMap aqC):=by
   refine ⟨ho.1, ?_⟩
   rcases ho.2 with h2 | ⟨g,cap,cur,hv,hg,r⟩
   ·exact .inl h2
   ·exact .inr ⟨g,cap,cur,hv,by omega,r⟩
  exact h w2 ao co ho' b02
end
end Go.Proofs.YtgpfkmdknlcemaaGreatDoor
namespace Go.Proofs.YtgpfkmdknlcemaaGreatDoor
set_option maxRecDepth 100000
open Go.RowKit
theorem FI {w:World} {K:KV} {b o:Nat} (h:K (.pointer (some ⟨b,o+0,none⟩)) w):aa Tryz.prog 83 (.pointer (some ⟨b,o,none⟩)) 0 K w:=aq (by kernel_rfl) h
theorem FJ {w:World} {K:KV} {b o:Nat} (h:K (.pointer (some ⟨b,o+1,none⟩)) w):aa Tryz.prog 83 (.pointer (some ⟨b,o,none⟩)) 1 K w:=aq (by kernel_rfl) h
theorem FK {w:World} {K:KV} {b o:Nat} (h:K (.pointer (some ⟨b,o+2,none⟩)) w):aa Tryz.prog 83 (.pointer (some ⟨b,o,none⟩)) 2 K w:=aq (by kernel_rfl) h
attribute [local irreducible] bin un conv call bl blt slc aa fld af idx lkp bL bP eSt rng nxt ent ext alc box bld aJ ld sto aj bm mkS ifc pick rdy wts au sti cond aH Gives ac aW bA cOp
section
variable {w:World} {K:KV}
theorem II {x:World} {a:Option Addr} {n c b o k:Nat} {L:List ND} {y:ND} (hr:NR x a n c L) (ha:a=some ⟨b,o,none⟩) (hx:L[k]? = some y) {K:KV} (hK:K (.int .u64 y.id) x):ld Tryz.prog 24 (.pointer (some ⟨b,o+k * 56+0,none⟩)) K x :=
 dp (fun _=>by kernel_rfl) (hr.cell k y hx b o ha 0 _ rfl) hK
set_option maxHeartbeats 8000000 in
theorem Hz {s:STA} {i:Int} (hs:SK w s) (h:∀ w' a c,w'.ownsRow w.heap.size 61 6 (.slice a (gA s i).length c) (gA s i).length ((gA s i).flatMap aqC)→Below w.heap.size w w'→K (.slice a (gA s i).length c) w') :
  call Tryz.prog 22 #[.agg (saC s).toArray,iv i] K w:=by
 refine aE ua (u9 ?_)
 refine bh fun w1 hb b1 s1 => ?_
 have hb:blk w1 w.heap.size 30 (saC s):=by simpa [Value.cells] using hb
 have cutS:((saC s).drop 0).take 20=saC s:=by rw [List.drop_zero,List.take_of_length_le (by rw [hs.len]; omega)]
 have few:=hs.few
 have hb0:=hb.lt
 refine rx (Inv:=fun out kv wr => ∃ (k:Nat) (O:List (Int × Int × Int)) (ao:Option Addr) (co:Nat),out=.slice ao O.length co∧kv=.int .i64 (k:Nat)∧k≤s.nodes.length∧O=((s.nodes.take k).flatMap fun x=>(dr s x.id).filterMap (sw i x.id))∧O.length≤6 * k ∧
   wr.ownsRow (w.heap.size+1) 61 6 (.slice ao O.length co) O.length (O.flatMap aqC)∧Below (w.heap.size+1) w1 wr)
  (μ:=fun _ kv _=>s.nodes.length - (intOf kv).toNat) ⟨0,[],none,0,rfl,rfl,by omega,rfl,by simp,World.ownsRow_nil _ _ _ _,Below.refl _ _⟩ ?_
 rintro _ _ dd w2 m ⟨k,O,ao,co,rfl,rfl,hk,hO,hOl,ho,b2⟩ hm
 have b02:Below w.heap.size w w2:=b1.trans (b2.mono (by omega))
 have hs2:SK w2 s:=hs.bel b02 (Nat.le_refl _)
 have hsz2:w.heap.size+1≤w2.heap.size:=by have:=b2.size; omega
 have hb2:blk w2 w.heap.size 30 (saC s):=ae b2 hb (by omega)
 refine aU ?_
 refine ld1 (v:=.slice s.na s.nodes.length s.nc) (fun _=>by kernel_rfl) hb2 (jZ hs) ?_
 refine aI Tryz.underlying27 ?_
 refine aD ?_
 by_cases hkn:k < s.nodes.length
 ·refine ai (by omega) ?_
  have hs2d:SK w2.drew s:=hs2.bel (Below.refl _ w2).drew (Nat.le_refl _)
  obtain ⟨b,o,ha⟩:=hs2.nr.some_ (by omega)
  have hx:s.nodes[k]? = some s.nodes[k]:=List.getElem?_eq_getElem hkn
  generalize s.nodes[k]=x at hx
  have ixN:∀ {y:World} {K:KV},K (.pointer (some ⟨b,o+((k:Nat):Int).toNat * 56,none⟩)) y→af Tryz.prog 27 (.slice s.na s.nodes.length s.nc) (.int .i64 (k:Nat)) K y:=fun hK=>by
   rw [ha]; exact bJ Tryz.underlying27 (s:=56) (fun _=>by kernel_rfl) (by omega) (by omega) hK
  refine aC (fun y=>blk y w.heap.size 30 (saC s)∧NR y s.na s.nodes.length s.nc s.nodes) ⟨hb2.drew,hs2d.nr⟩ ?_
  refine ab (v:=.agg (saC s).toArray) (fun y hy _=>ldA (n:=20) (vs:=saC s) Tryz.underlying30 rfl (by kernel_rfl) hy.1 cutS hs.len) ?_
  refine ab (fun y hy _=>aU) ?_
  refine ab (v:=.slice s.na s.nodes.length s.nc) (fun y hy _=>ld1 (fun _=>by kernel_rfl) hy.1 (jZ hs)) ?_
  refine ab (v:=.pointer (some ⟨b,o+((k:Nat):Int).toNat * 56,none⟩)) (fun y hy _=>ixN) ?_
  rw [Int.toNat_natCast]
  refine ab (fun y hy _=>gC) ?_
  refine ab (v:=.int .u64 x.id) (fun y hy _=>II hy.2 ha hx) ?_
  refine zO hs2d fun w5 am cm hom b5 hml => ?_
  have b25:Below w2.heap.size w2 w5:=(Below.refl _ w2).drew.trans b5
  refine aC (fun _=>True) trivial ?_
  have b45:Below (w.heap.size+1) w1 w5:=b2.trans (b25.mono hsz2)
  have ho5:w5.ownsRow (w.heap.size+1) 61 6 (.slice ao O.length co) O.length (O.flatMap aqC):=bj ho fun q hq=>b25.block q (World.ownsRow.lt ho q hq).2
  have hom:w5.ownsRow w2.heap.size 83 3 (.slice am (dr s x.id).length cm) (dr s x.id).length ((dr s x.id).flatMap mvC):=hom
  generalize hMM:dr s x.id=M at *
  refine ry (Inv:=fun out jv wr => ∃ (j:Nat) (O2:List (Int × Int × Int)) (ao:Option Addr) (co:Nat),out=.slice ao O2.length co∧jv=.int .i64 (j:Nat)∧j≤M.length∧O2=O++(M.take j).filterMap (sw i x.id)∧O2.length≤6 * k+j ∧
    wr.ownsRow (w.heap.size+1) 61 6 (.slice ao O2.length co) O2.length (O2.flatMap aqC)∧Below (w.heap.size+1) w1 wr∧wr.ownsRow w2.heap.size 83 3 (.slice am M.length cm) M.length (M.flatMap mvC)∧w5.heap.size≤wr.heap.size)
   (μ:=fun _ jv _=>M.length - (intOf jv).toNat) ⟨0,O,ao,co,rfl,rfl,by omega,by simp,by omega,ho5,b45,hom,Nat.le_refl _⟩ ?_
  rintro _ _ dd2 w6 m2 ⟨j,O2,ao2,co2,rfl,rfl,hj,hO2,hO2l,ho6,b6,hom6,hs6⟩ hm2
  refine aI Tryz.underlying81 ?_
  refine aD ?_
  have hs61:=b6.size
  by_cases hjn:j < M.length
  ·refine ai (by omega) ?_
   refine rA ?_
   have hmj:M[j]? = some M[j]:=List.getElem?_eq_getElem hjn
   generalize M[j]=mv at hmj
   obtain ⟨g,cur,rfl,op⟩:=aZ hom6 (by omega)
   have cell:∀ q,q < 3→cur[0+((j:Nat):Int).toNat * 3+q]? = (mvC mv)[q]? := fun q hq=>by rw [Int.toNat_natCast,Nat.zero_add]; exact op.cell np rfl hmj hq
   have ixM:∀ {y:World} {K:KV},K (.pointer (some ⟨g,0+((j:Nat):Int).toNat * 3,none⟩)) y→af Tryz.prog 81 (.slice (some ⟨g,0,none⟩) M.length cm) (.int .i64 (j:Nat)) K y:=fun hK=>bJ Tryz.underlying81 (s:=3) (fun _=>by kernel_rfl) (by omega) (by omega) hK
   refine ixM ?_
   refine FI ?_
   refine ld1 (v:=iv mv.1) (fun _=>by kernel_rfl) op.blk (cell 0 (by omega)) ?_
   unfold iv
   refine aN ?_
   by_cases he:mv.1=i
   ·refine ai he ?_
    have b6d:Below w6.heap.size w6 w6.drew:=(Below.refl _ w6).drew
    have b06:Below w.heap.size w w6.drew:=(b1.trans (b6.mono (by omega))).drew
    have hs6':SK w6.drew s:=hs.bel b06 (Nat.le_refl _)
    have hb6:blk w6.drew w.heap.size 30 (saC s):=ae b6.drew hb (by omega)
    have ho6d:w6.drew.ownsRow (w.heap.size+1) 61 6 (.slice ao2 O2.length co2) O2.length (O2.flatMap aqC):=ho6
    have hom6d:w6.drew.ownsRow w2.heap.size 83 3 (.slice (some ⟨g,0,none⟩) M.length cm) M.length (M.flatMap mvC):=hom6
    refine aC (fun y=>blk y w.heap.size 30 (saC s)∧NR y s.na s.nodes.length s.nc s.nodes∧blk y g 83 cur) ⟨hb6,hs6'.nr,op.blk⟩ ?_
    refine ab (fun y hy _=>aU) ?_
    refine ab (v:=.slice s.na s.nodes.length s.nc) (fun y hy _=>ld1 (fun _=>by kernel_rfl) hy.1 (jZ hs)) ?_
    refine ab (v:=.pointer (some ⟨b,o+((k:Nat):Int).toNat * 56,none⟩)) (fun y hy _=>ixN) ?_
    rw [Int.toNat_natCast]
    refine ab (fun y hy _=>gC) ?_
    refine ab (v:=.int .u64 x.id) (fun y hy _=>II hy.2.1 ha hx) ?_
    refine ab (fun y hy _=>ixM) ?_
    refine ab (fun y hy _=>FJ) ?_
    refine ab (v:=iv mv.2.1) (fun y hy _=>ld1 (fun _=>by kernel_rfl) hy.2.2 (cell 1 (by omega))) ?_
    refine ab (fun y hy _=>ixM) ?_
    refine ab (fun y hy _=>FK) ?_
    refine ab (v:=iv mv.2.2) (fun y hy _=>ld1 (fun _=>by kernel_rfl) hy.2.2 (cell 2 (by omega))) ?_
    refine ab (v:=.agg (aqC (x.id,mv.2.1,mv.2.2)).toArray) (fun y hy _=>eE (by kernel_rfl)) ?_
    refine hH (vs:=[.agg (aqC (x.id,mv.2.1,mv.2.2)).toArray]) Tryz.underlying58 (s:=6) (by kernel_rfl) (by kernel_rfl) (by omega) rfl (by simp) (by simp) (by simp) (by simp [Value.cells,aqC]) fun w8 h8 b8 s8 => ?_
    have h8:blk w8 w6.drew.heap.size 61 (aqC (x.id,mv.2.1,mv.2.2)):=by simpa [Value.cells] using h8
    obtain ⟨ii,hi',hz,hsz,hby⟩:=info_parts zP
    have ho8:w8.ownsRow (w.heap.size+1) 61 6 (.slice ao2 O2.length co2) O2.length (O2.flatMap aqC):=bj ho6d fun q hq=>b8.block q (World.ownsRow.lt ho6d q hq).2
    have hom8:w8.ownsRow w2.heap.size 83 3 (.slice (some ⟨g,0,none⟩) M.length cm) M.length (M.flatMap mvC):=bj hom6d fun q hq=>b8.block q (World.ownsRow.lt hom6d q hq).2
    have hs8:w6.heap.size≤w8.heap.size:=b8.size
    refine aC (fun _=>True) trivial ?_
    refine ka (base:=w.heap.size+1) (x:=(x.id,mv.2.1,mv.2.2)) Tryz.underlying58 hi' hz hsz hby rfl (by omega) tB ho8 h8 (Bx _) (by omega) (by omega) (by omega) fun a9 c9 w9 ho9 hgr b9 _ => ?_
    refine aC (fun _=>True) trivial ?_
    refine kN ?_
    refine aF (by omega) (by omega) ?_
    refine ⟨⟨j+1,O2++[(x.id,mv.2.1,mv.2.2)],a9,c9,by rw [List.length_append]; rfl,congrArg (Value.int .i64) (by push_cast; rfl),by omega, ?_,by simp; omega,by rw [List.length_append]; exact ho9,(b6.trans ((b6d.trans b8).mono (by omega))).trans b9,gh hom8 ho8 (by decide) hgr,by have:=b9.size; omega⟩,by rw [hm2]; show M.length - ((j:Int)+1).toNat < M.length - (j:Int).toNat; omega⟩
    rw [oL hmj, ← List.append_assoc, ← hO2]
    simp [sw,he]
   ·refine ag he ?_
    refine kN ?_
    refine aF (by omega) (by omega) ?_
    refine ⟨⟨j+1,O2,ao2,co2,rfl,congrArg (Value.int .i64) (by push_cast; rfl),by omega, ?_,by omega,ho6,b6,hom6,by omega⟩,by rw [hm2]; show M.length - ((j:Int)+1).toNat < M.length - (j:Int).toNat; omega⟩
    rw [oL hmj, ← List.append_assoc, ← hO2]
    simp [sw,he]
  ·refine ag (by omega) ?_
   refine rB ?_
   refine aF (by omega) (by omega) ?_
   have hjM:j=M.length:=by omega
   subst hjM
   have hml6:M.length≤6:=hml
   refine ⟨⟨k+1,O2,ao2,co2,rfl,congrArg (Value.int .i64) (by push_cast; rfl),by omega, ?_,by omega,ho6,b6⟩,by rw [hm]; show s.nodes.length - ((k:Int)+1).toNat < s.nodes.length - (k:Int).toNat; omega⟩
   rw [ym hx, ← hO,hO2,List.take_length,hMM]
 ·refine ag (by omega) ?_
  refine rz ?_
  obtain rfl:k=s.nodes.length:=by omega
  have hO:O=gA s i:=by rw [hO,List.take_length]; rfl
  subst hO
  have ho':w2.ownsRow w.heap.size 61 6 (.slice ao (gA s i).length co) (gA s i).length ((gA s i).flatMap aqC):=by
   refine ⟨ho.1, ?_⟩
   rcases ho.2 with h2 | ⟨g,cap,cur,hv,hg,r⟩
   ·exact .inl h2
   ·exact .inr ⟨g,cap,cur,hv,by omega,r⟩
  exact h w2 ao co ho' b02
end
end Go.Proofs.YtgpfkmdknlcemaaGreatDoor
namespace Go.Proofs.YtgpfkmdknlcemaaGreatDoor
set_option maxRecDepth 100000
open Go.RowKit
def nR (P:Program):List Field→Nat→Nat→Bool
 | [],o,n=>Nat.beq o n
 | f::fs,o,n=>Nat.beq f.offset o && nR P fs (o+P.cellsOf f.type) n
def eN (P:Program):Nat→TypeId→List Value→Bool
 | 0,_,_=>false
 | d+1,t,cs=>match P.underlying t with
  | some .bool=>(match cs with | [.bool _]=>true | _=>false)
  | some (.int q)=>(match cs with | [.int q' _]=>decide (q'=q) | _=>false)
  | some (.array n e)=>(P.info? e).isSome && (Nat.beq cs.length (n * P.cellsOf e) && (List.range n).all fun i=>eN P d e ((cs.drop (i * P.cellsOf e)).take (P.cellsOf e)))
  | some (.struct fs) => !P.stoodInHeld t && (nR P fs.toList 0 cs.length && fs.toList.all fun f=>f.name != "_" && eN P d f.type ((cs.drop f.offset).take (P.cellsOf f.type)))
  | _=>false
def lr (P:Program) (t:TypeId) (cs:List Value):Value:=match P.underlying t with
 | some (.array _ _) => .agg cs.toArray
 | some (.struct _) => .agg cs.toArray
 | _=>cs.headD undef
theorem uu {P:Program}:∀ (fs:List Field) (o n m:Nat),nR P fs o n=true→nR P fs o m=true→n=m
 | [],o,n,m,h1,h2=>by
  have:=Nat.eq_of_beq_eq_true h1
  have:=Nat.eq_of_beq_eq_true h2
  omega
 | f::fs,o,n,m,h1,h2=>by
  unfold nR at h1 h2
  rw [Bool.and_eq_true] at h1 h2
  exact uu fs _ n m h1.2 h2.2
theorem sx {P:Program} {d:Nat} {t:TypeId} {cs:List Value} (hu:P.underlying t=some .bool) (h:eN P (d+1) t cs=true):∃ b,cs=[.bool b]:=by
 unfold eN at h
 simp only [hu] at h
 split at h
 ·exact ⟨_,rfl⟩
 ·cases h
theorem v8 {P:Program} {d:Nat} {t:TypeId} {q:IntKind} {cs:List Value} (hu:P.underlying t=some (.int q)) (h:eN P (d+1) t cs=true):∃ n,cs=[.int q n]:=by
 unfold eN at h
 simp only [hu] at h
 split at h
 ·have:=of_decide_eq_true h; subst this; exact ⟨_,rfl⟩
 ·cases h
section
variable {P:Program}
theorem wc {xs:List Value} {off n:Nat} {v:Value} (h:(xs.drop off).take n=[v]):xs.toArray[off]? = some v:=by
 have h1:((xs.drop off).take n)[0]? = some v:=by rw [h]; rfl
 rw [List.getElem?_take] at h1
 split at h1
 ·rw [List.getElem?_drop] at h1
  simpa using h1
 ·cases h1
theorem qr {e:TypeId} {off d:Nat} {xs:List Value} (w:World) (h:eN P d e ((xs.drop off).take (P.cellsOf e))=true):(part e xs.toArray off).run P w=.ok (lr P e ((xs.drop off).take (P.cellsOf e))) w:=by
 cases d with
 | zero=>simp [eN] at h
 | succ d =>
  cases hu:P.underlying e with
  | none=>simp [eN,hu] at h
  | some kd =>
   have hl:(xs.toArray.extract off (off+P.cellsOf e))=((xs.drop off).take (P.cellsOf e)).toArray:=by
    apply Array.toList_inj.1
    rw [Array.toList_extract]
    simp [List.extract]
   cases kd
   case bool =>
    obtain ⟨b,hb⟩:=sx hu h
    rw [run_part_plain w (by simp [Program.plainKey,hu]) (wc hb),hb]
    simp [lr,hu]
   case int q =>
    obtain ⟨b,hb⟩:=v8 hu h
    rw [run_part_plain w (by simp [Program.plainKey,hu]) (wc hb),hb]
    simp [lr,hu]
   case array n e' =>
    obtain ⟨i,hi⟩:=info_of_underlying hu
    simp only [part,isAgg,Sem.run_bind,run_underlying hu,run_sizeOf w hi,Result.andThen_ok,Sem.run_pure,if_true,lr,hu,hl]
   case struct fs =>
    obtain ⟨i,hi⟩:=info_of_underlying hu
    simp only [part,isAgg,Sem.run_bind,run_underlying hu,run_sizeOf w hi,Result.andThen_ok,Sem.run_pure,if_true,lr,hu,hl]
   all_goals (simp [eN,hu] at h; done)
theorem yn {xs ys:List Value} {o c:Nat} (hl:xs.length=ys.length):(xs.drop o).take c=(ys.drop o).take c∧xs.drop (o+c)=ys.drop (o+c)↔xs.drop o=ys.drop o:=by
 have e:∀ zs:List Value,zs.drop o=(zs.drop o).take c++zs.drop (o+c):=fun zs=>by rw [← List.drop_drop]; exact (List.take_append_drop c (zs.drop o)).symm
 constructor
 ·rintro ⟨h1,h2⟩
  rw [e xs,e ys,h1,h2]
 ·intro h
  refine ⟨by rw [h], ?_⟩
  rw [← List.drop_drop, ← List.drop_drop,h]
def EqB (P:Program) (D d:Nat):Prop := ∀ (t:TypeId) (w:World) (xs ys:List Value),eN P d t xs=true→eN P d t ys=true→∃ r:Bool,(Op.equalIn D t (lr P t xs) (lr P t ys)).run P w=.ok r w∧(r=true↔xs=ys)
theorem By {D d:Nat} (IH:EqB P D d) {xs ys:List Value} (hl:xs.length=ys.length) (w:World):∀ (fs:List Field) (o:Nat),nR P fs o xs.length=true →
  (∀ f ∈ fs,f.name≠"_"∧eN P d f.type ((xs.drop f.offset).take (P.cellsOf f.type))=true∧eN P d f.type ((ys.drop f.offset).take (P.cellsOf f.type))=true) →
  ∃ r:Bool,(Op.eqFields D xs.toArray ys.toArray fs).run P w=.ok r w∧(r=true↔xs.drop o=ys.drop o)
 | [],o,hc,_=>by
  have:=Nat.eq_of_beq_eq_true hc
  subst this
  exact ⟨true,by simp [Op.eqFields],by rw [List.drop_length,hl,List.drop_length]; simp⟩
 | f::fs,o,hc,hall=>by
  unfold nR at hc
  rw [Bool.and_eq_true] at hc
  have ho:=Nat.eq_of_beq_eq_true hc.1
  obtain ⟨hn,hx,hy⟩:=hall f (by simp)
  obtain ⟨r,hr,hiff⟩:=IH f.type w _ _ hx hy
  obtain ⟨r',hr',hiff'⟩:=By IH hl w fs (o+P.cellsOf f.type) hc.2 (fun g hg=>hall g (by simp [hg]))
  simp only [Op.eqFields,hn,ne_eq,not_false_eq_true,if_true,Sem.run_bind,qr w hx,qr w hy,hr,Result.andThen_ok]
  rw [← yn hl (c:=P.cellsOf f.type), ← hiff', ← ho, ← hiff]
  cases r
  ·exact ⟨false,by simp,by simp⟩
  ·exact ⟨r',by simpa using hr',by simp⟩
theorem Bz {D d:Nat} (IH:EqB P D d) {xs ys:List Value} {e:TypeId} {n:Nat} (hl:xs.length=ys.length) (hn:xs.length=n * P.cellsOf e) (w:World)
  (hall:∀ i,i < n→eN P d e ((xs.drop (i * P.cellsOf e)).take (P.cellsOf e))=true∧eN P d e ((ys.drop (i * P.cellsOf e)).take (P.cellsOf e))=true):∀ (m i:Nat),i+m=n →
  ∃ r:Bool,(Op.eqItems D e (P.cellsOf e) xs.toArray ys.toArray (List.range' i m)).run P w=.ok r w∧(r=true↔xs.drop (i * P.cellsOf e)=ys.drop (i * P.cellsOf e))
 | 0,i,hi=>by
  obtain rfl:i=n:=by omega
  exact ⟨true,by simp [Op.eqItems],by rw [← hn,List.drop_length,hl,List.drop_length]; simp⟩
 | m+1,i,hi=>by
  obtain ⟨hx,hy⟩:=hall i (by omega)
  obtain ⟨r,hr,hiff⟩:=IH e w _ _ hx hy
  obtain ⟨r',hr',hiff'⟩:=Bz IH hl hn w hall m (i+1) (by omega)
  simp only [List.range'_succ,Op.eqItems,Sem.run_bind,qr w hx,qr w hy,hr,Result.andThen_ok]
  rw [← yn hl (c:=P.cellsOf e), ← hiff]
  rw [show (i+1) * P.cellsOf e=i * P.cellsOf e+P.cellsOf e by rw [Nat.add_mul,Nat.one_mul]] at hiff'
  rw [← hiff']
  cases r
  ·exact ⟨false,by simp,by simp⟩
  ·exact ⟨r',by simpa using hr',by simp⟩
theorem BA (D:Nat):∀ d:Nat,EqB P (D+d) d
 | 0=>fun t w xs ys hx _=>by simp [eN] at hx
 | d+1=>fun t w xs ys hx hy=>by
  have IH:=BA D d
  cases hu:P.underlying t with
  | none=>simp [eN,hu] at hx
  | some kd =>
   cases kd
   case bool =>
    obtain ⟨a,rfl⟩:=sx hu hx
    obtain ⟨b,rfl⟩:=sx hu hy
    refine ⟨a == b, ?_,by simp⟩
    simp only [lr,hu,List.headD_cons]
    exact run_equalIn_bool' w (D+d) t a b hu
   case int q =>
    obtain ⟨a,rfl⟩:=v8 hu hx
    obtain ⟨b,rfl⟩:=v8 hu hy
    refine ⟨a == b, ?_,by simp⟩
    simp only [lr,hu,List.headD_cons]
    exact run_equalIn_int w (D+d) t q q a b hu
   case array n e =>
    unfold eN at hx hy
    simp only [hu,Bool.and_eq_true,List.all_eq_true,List.mem_range] at hx hy
    have lx:=Nat.eq_of_beq_eq_true hx.2.1
    have ly:=Nat.eq_of_beq_eq_true hy.2.1
    obtain ⟨i,hi⟩:=Option.isSome_iff_exists.1 hx.1
    obtain ⟨r,hr,hiff⟩:=Bz IH (lx.trans ly.symm) lx w (fun i hi=>⟨hx.2.2 i hi,hy.2.2 i hi⟩) n 0 (by omega)
    refine ⟨r, ?_,by simpa using hiff⟩
    simp only [lr,hu]
    rw [show D+(d+1)=(D+d)+1 from rfl,run_equalIn_array w (D+d) _ _ hu hi,List.range_eq_range']
    exact hr
   case struct fs =>
    unfold eN at hx hy
    simp only [hu,Bool.and_eq_true,List.all_eq_true,Bool.not_eq_true',bne_iff_ne,ne_eq] at hx hy
    have hl:=uu fs.toList 0 _ _ hx.2.1 hy.2.1
    have hfs:P.fieldsOf t=fs:=by simp [Program.fieldsOf,hu]
    obtain ⟨r,hr,hiff⟩:=By IH hl w fs.toList 0 hx.2.1 (fun f hf=>⟨(hx.2.2 f hf).1,(hx.2.2 f hf).2,(hy.2.2 f hf).2⟩)
    refine ⟨r, ?_,by simpa using hiff⟩
    simp only [lr,hu]
    rw [show D+(d+1)=(D+d)+1 from rfl,run_equalIn_struct w (D+d) t _ _ (by rw [hfs]; exact hu) hx.1,hfs]
    exact hr
   all_goals (simp [eN,hu] at hx; done)
variable {K:KV} {w:World} {t:TypeId} {cx cy:Bool}
theorem zQ {cs:List Value} (hw:(match P.underlying t with | some (.array _ _) | some (.struct _)=>true | _=>false)=true):lr P t cs=.agg cs.toArray:=by
 unfold lr
 cases hu:P.underlying t with
 | none=>simp [hu] at hw
 | some kd=>cases kd <;> simp_all
theorem DH {xs ys:List Value} (d:Nat) (hd:d≤10000) (hw:(match P.underlying t with | some (.array _ _) | some (.struct _)=>true | _=>false)=true) (hx:eN P d t xs=true) (hy:eN P d t ys=true) :
  ∃ r:Bool,(Op.equalIn 10000 t (.agg xs.toArray) (.agg ys.toArray)).run P w=.ok r w∧(r=true↔xs=ys):=by
 have:=BA (P:=P) (10000 - d) d t w xs ys hx hy
 rw [show 10000 - d+d=10000 by omega,zQ hw,zQ hw] at this
 exact this
theorem BC {xs ys:List Value} (d:Nat) (hd:d≤10000) (hw:(match P.underlying t with | some (.array _ _) | some (.struct _)=>true | _=>false)=true) (hg:P.eqGuardType P.depth t=false)
  (hx:eN P d t xs=true) (hy:eN P d t ys=true) (h:∀ r:Bool,(r=true↔xs=ys)→K (.bool r) w):bin P .eql t cx cy (.agg xs.toArray) (.agg ys.toArray) K w:=by
 obtain ⟨r,hr,hiff⟩:=DH (w:=w) d hd hw hx hy
 exact gM (v:=.bool r) (by unfold eqG; exact run_eqGuard_agg w _ _ _ _ _ _ hg) (by rw [run_eql_struct w,hr]; rfl) (h r hiff)
theorem BD {xs ys:List Value} (d:Nat) (hd:d≤10000) (hw:(match P.underlying t with | some (.array _ _) | some (.struct _)=>true | _=>false)=true) (hg:P.eqGuardType P.depth t=false)
  (hx:eN P d t xs=true) (hy:eN P d t ys=true) (h:∀ r:Bool,(r=true↔xs=ys)→K (.bool (!r)) w):bin P .neq t cx cy (.agg xs.toArray) (.agg ys.toArray) K w:=by
 obtain ⟨r,hr,hiff⟩:=DH (w:=w) d hd hw hx hy
 exact gM (v:=.bool (!r)) (by unfold eqG; exact run_eqGuard_agg w _ _ _ _ _ _ hg) (by rw [run_neq_struct w,hr]; rfl) (h r hiff)
end
end Go.Proofs.YtgpfkmdknlcemaaGreatDoor
namespace Go.Proofs.YtgpfkmdknlcemaaGreatDoor
open Go.RowKit
set_option maxRecDepth 100000
def dF (K:KV):KE:=ac Q (cd Tryz.f7 [1,1,1]) (rk Tryz.f7 K) xf (rk Tryz.f7 K)
def hY (K:KV):KE:=ac Q (cd Tryz.f7 [1,1,0,1,0]) (dF K) (xx xf (dF K) 0) (rk Tryz.f7 K)
theorem sA {K:KV} {n0 acts1 pick2:Value} {w:World}
  (h:alc Q 30 (fun A2=>conv Q 5 3 n0 fun A4=>bin Q BinOp.rem 3 false true A4 (ci 6) fun A5=>bin Q BinOp.add 3 true false (ci 1) A5 fun A6=>call Q 18 #[A6] fun A7=>hY K [n0,acts1,pick2,undef,undef,undef,Value.pointer none,A2,A7,ci 0,n0,A4,A5,A6,A7,undef,undef,undef,undef,undef,undef,undef,undef,undef,undef,undef,undef,undef,undef,undef,undef,undef,undef,undef,undef,undef,undef,undef,undef,undef,undef,undef,undef,undef,undef]) w) :
  Gives Q 7 #[n0,acts1,pick2] w K:=by
 refine aK Tryz.func7 (by kernel_rfl) ?_
 revert h
 delta hY dF
 exact fun h=>Eq.mp (by kernel_rfl) h
theorem sC:bD Q 7:=⟨_,Tryz.func7,by kernel_rfl,by kernel_rfl⟩
theorem qt {K:KV} {n0 acts1 pick2 n3 acts4 pick5 A1 A2 w_8 i9 A3 A4 A5 A6 A7 A8 A9 C0 C1 C2 C3 C4 C5 C6 C7 C8 C9 D0 D1 D2 D3 D4 D5 D6 D7 D8 D9 E0 E1 E2 E3 E4 E5 E6 E7:Value} {w:World} (Inv:Value→World→Prop) (μ:Value→World→Nat) (h0:Inv i9 w)
  (hs:∀ (i9':Value) (dd:Nat→Value) (w:World) (m:Nat),Inv i9' w→m=μ i9' w →
  blt Q Builtin.len #[22] 3 #[false] #[acts1] (fun C0=>bin Q BinOp.lss 3 false false i9' C0 fun C1 w=>cond C1 (af Q 22 acts1 i9' (fun C7=>ld Q 74 C7 fun C8=>call Q 19 #[w_8,C8] fun _=>bin Q BinOp.add 3 false true i9' (ci 1) fun C3 w=>(Inv C3 w)∧((μ C3 w)<m)) w) (dF K [n0,acts1,pick2,n3,acts4,pick5,A1,A2,w_8,i9',A3,A4,A5,A6,A7,i9',acts1,C0,C1,dd 19,dd 20,dd 21,dd 22,dd 23,dd 24,dd 25,dd 26,D0,D1,D2,D3,D4,D5,D6,D7,D8,D9,E0,E1,E2,E3,E4,E5,E6,E7] w)) w) :
  hY K [n0,acts1,pick2,n3,acts4,pick5,A1,A2,w_8,i9,A3,A4,A5,A6,A7,A8,A9,C0,C1,C2,C3,C4,C5,C6,C7,C8,C9,D0,D1,D2,D3,D4,D5,D6,D7,D8,D9,E0,E1,E2,E3,E4,E5,E6,E7] w:=by
 refine aB (cd Tryz.f7 [1,1,0,1,0,0]) [9,15,16,17,18,19,20,21,22,23,24,25,26] (by kernel_rfl) (fun e2 w2=>Inv (gd e2 9) w2) (fun e2 w2=>μ (gd e2 9) w2) h0 ?_
 intro e' w' hI
 have h:=hs (gd e' 9) (fun i=>gd e' i) w' _ hI rfl
 revert h
 generalize (dF K)=qc0
 exact fun h=>Eq.mp (by kernel_rfl) h
theorem qu {K:KV} {n0 acts1 pick2 n3 acts4 pick5 A1 A2 w_8 i9 A3 A4 A5 A6 A7 A8 A9 C0 C1 C2 C3 C4 C5 C6 C7 C8 C9 D0 D1 D2 D3 D4 D5 D6 D7 D8 D9 E0 E1 E2 E3 E4 E5 E6 E7:Value} {w:World}
  (h:sti (aj w_8) (fun D2=>sti (aa Q 47 D2 0) fun D3=>sti (ld Q 44 D3) fun D4=>sti (conv Q 5 3 pick2) fun D6=>sti (aj w_8) fun D8=>sti (aa Q 47 D8 0) fun D9=>sti (ld Q 44 D9) fun E0=>sti (blt Q Builtin.len #[44] 3 #[false] #[E0]) fun E1=>sti (bin Q BinOp.rem 3 false false D6 E1) fun E2=>sti (af Q 44 D4 E2) fun E3=>sti (ld Q 80 E3) fun E4=>sti (aj E4) fun E5=>sti (aa Q 79 E5 0) fun E6=>sti (ld Q 30 E6) fun E7=>sto Q 30 A2 E7 fun _=>aH Q [(none,w_8),(some 30,A2)] K) w.drew) :
  dF K [n0,acts1,pick2,n3,acts4,pick5,A1,A2,w_8,i9,A3,A4,A5,A6,A7,A8,A9,C0,C1,C2,C3,C4,C5,C6,C7,C8,C9,D0,D1,D2,D3,D4,D5,D6,D7,D8,D9,E0,E1,E2,E3,E4,E5,E6,E7] w:=by
 delta dF
 revert h
 exact fun h=>Eq.mp (by kernel_rfl) h
attribute [irreducible] dF hY
def ip (K:KV):KE:=ac Q (cd Tryz.f8 [1,1,1,1,1,1]) (rk Tryz.f8 K) xf (rk Tryz.f8 K)
def dO (K:KV):KE:=ac Q (cd Tryz.f8 [1,1,1,1,1,1,1,1]) (rk Tryz.f8 K) xf (rk Tryz.f8 K)
def jS (K:KV):KE:=ac Q (cd Tryz.f8 [1,1,1,1,1,1,1,0,1,0]) (dO K) (xx xf (dO K) 0) (rk Tryz.f8 K)
def dP (K:KV):KE:=ac Q (cd Tryz.f8 [1,1,1,1,1,1,1,1,1]) (rk Tryz.f8 K) xf (rk Tryz.f8 K)
def jT (K:KV):KE:=ac Q (cd Tryz.f8 [1,1,1,1,1,1,1,1,0,1,0]) (dP K) (xx xf (dP K) 2) (rk Tryz.f8 K)
theorem v9 {K:KV} (xc0:Code) {s0 node1 i2:Value} {w:World}
  (h:box Q 30 s0 (fun s3 w=>aX (fun S w=>hld S (ld Q 30 s3) fun A6=>hld S (ld Q 30 s3) fun C0=>call Q 16 #[A6,node1,i2] (fun A9=>dB S fun _=>call Q 20 #[C0,node1,i2] fun C3=>aX fun S w=>hld S (bin Q BinOp.neq 2 false false A9 C3) fun C4=>cond C4 (K cF w) (ld Q 30 s3 (fun C5=>call Q 17 #[C5,node1] fun C7=>ld Q 30 s3 fun C8=>call Q 21 #[C8,node1] fun D0=>ld Q 30 s3 fun D1=>call Q 13 #[D1,i2] fun D3=>ld Q 30 s3 fun D4=>call Q 22 #[D4,i2] fun D6=>ac Q xc0 (rk Tryz.f8 K) (fun _ _ _=>False) (rk Tryz.f8 K) (s0::node1::i2::s3::undef::undef::cF::C7::D0::D3::D6::undef::undef::A6::node1::i2::A9::C0::node1::i2::C3::C4::C5::node1::C7::C8::node1::D0::D1::i2::D3::D4::i2::D6::undef::undef::undef::undef::undef::undef::undef::undef::undef::undef::undef::undef::undef::undef::undef::undef::undef::undef::undef::undef::undef::undef::undef::undef::undef::undef::undef::undef::undef::undef::undef::undef::undef::undef::undef::undef::undef::undef::undef::undef::undef::undef::[])) w)) w) w.drew) w) :
  ac Q (rep [1,1,1,1,1,1] xc0 (cd Tryz.f8 [])) (rk Tryz.f8 K) xf (rk Tryz.f8 K) (s0::node1::i2::undef::undef::undef::undef::undef::undef::undef::undef::undef::undef::undef::undef::undef::undef::undef::undef::undef::undef::undef::undef::undef::undef::undef::undef::undef::undef::undef::undef::undef::undef::undef::undef::undef::undef::undef::undef::undef::undef::undef::undef::undef::undef::undef::undef::undef::undef::undef::undef::undef::undef::undef::undef::undef::undef::undef::undef::undef::undef::undef::undef::undef::undef::undef::undef::undef::undef::undef::undef::undef::undef::undef::undef::undef::[]) w:=Eq.mp (by kernel_rfl) h
theorem tZ {K:KV} {s0 node1 i2:Value} {w:World}
  (h:box Q 30 s0 (fun s3 w=>aX (fun S w=>hld S (ld Q 30 s3) fun A6=>hld S (ld Q 30 s3) fun C0=>call Q 16 #[A6,node1,i2] (fun A9=>dB S fun _=>call Q 20 #[C0,node1,i2] fun C3=>aX fun S w=>hld S (bin Q BinOp.neq 2 false false A9 C3) fun C4=>cond C4 (K cF w) (ld Q 30 s3 (fun C5=>call Q 17 #[C5,node1] fun C7=>ld Q 30 s3 fun C8=>call Q 21 #[C8,node1] fun D0=>ld Q 30 s3 fun D1=>call Q 13 #[D1,i2] fun D3=>ld Q 30 s3 fun D4=>call Q 22 #[D4,i2] fun D6=>ip K (s0::node1::i2::s3::undef::undef::cF::C7::D0::D3::D6::undef::undef::A6::node1::i2::A9::C0::node1::i2::C3::C4::C5::node1::C7::C8::node1::D0::D1::i2::D3::D4::i2::D6::undef::undef::undef::undef::undef::undef::undef::undef::undef::undef::undef::undef::undef::undef::undef::undef::undef::undef::undef::undef::undef::undef::undef::undef::undef::undef::undef::undef::undef::undef::undef::undef::undef::undef::undef::undef::undef::undef::undef::undef::undef::undef::[])) w)) w) w.drew) w) :
  Gives Q 8 #[s0,node1,i2] w K:=aK Tryz.func8 (by kernel_rfl) (Eq.mp (congrArg (fun c=>ac Q c (rk Tryz.f8 K) xf (rk Tryz.f8 K) (s0::node1::i2::undef::undef::undef::undef::undef::undef::undef::undef::undef::undef::undef::undef::undef::undef::undef::undef::undef::undef::undef::undef::undef::undef::undef::undef::undef::undef::undef::undef::undef::undef::undef::undef::undef::undef::undef::undef::undef::undef::undef::undef::undef::undef::undef::undef::undef::undef::undef::undef::undef::undef::undef::undef::undef::undef::undef::undef::undef::undef::undef::undef::undef::undef::undef::undef::undef::undef::undef::undef::undef::undef::undef::undef::undef::[]) w) (by kernel_rfl:(rep [1,1,1,1,1,1] (cd Tryz.f8 [1,1,1,1,1,1]) (cd Tryz.f8 []))=(cd Tryz.f8 []))) (v9 (cd Tryz.f8 [1,1,1,1,1,1]) h))
theorem u7:bD Q 8:=⟨_,Tryz.func8,by kernel_rfl,by kernel_rfl⟩
section
variable {s0 node1 i2 s3 node4 i5 A1 a7 b8 x9 y10 k_11 k_12 A6 A7 A8 A9 C0 C1 C2 C3 C4 C5 C6 C7 C8 C9 D0 D1 D2 D3 D4 D5 D6 D7 D8 D9 E0 E1 E2 E3 E4 E5 E6 E7 E8 E9 F0 F1 F2 F3 F4 F5 F6 F7 F8 F9 G0 G1 G2 G3 G4 G5 G6 G7 G8 G9 H0 H1 H2 H3 H4 H5 H6 H7 H8:Value}
theorem rc {K:KV} {w:World}
  (h:blt Q Builtin.len #[65] 3 #[false] #[a7] (fun D8=>blt Q Builtin.len #[81] 3 #[false] #[b8] fun E0=>bin Q BinOp.neq 3 false false D8 E0 fun E1 w=>au E1 false (fun k40=>blt Q Builtin.len #[58] 3 #[false] #[x9] (fun E4=>blt Q Builtin.len #[58] 3 #[false] #[y10] fun E6=>bin Q BinOp.neq 3 false false E4 E6 fun E7=>k40 [x9,E4,y10,E6,E7]) w) (fun k=>k [undef,undef,undef,undef,undef] w) fun us40=>pick E1 cT (gd us40 4) fun E8 w=>cond E8 (K cF w) (ac Q (cd Tryz.f8 [1,1,1,1,1,1,1,0,1,0]) (ac Q (cd Tryz.f8 [1,1,1,1,1,1,1,1]) (rk Tryz.f8 K) (fun _ _ _=>False) (rk Tryz.f8 K)) (fun i=>@Bool.rec (fun _=>KE) ((fun _ _ _=>False) i) (ac Q (cd Tryz.f8 [1,1,1,1,1,1,1,1]) (rk Tryz.f8 K) (fun _ _ _=>False) (rk Tryz.f8 K)) (Nat.beq i 0)) (rk Tryz.f8 K) (s0::node1::i2::s3::node4::i5::A1::a7::b8::x9::y10::(ci 0)::k_12::A6::A7::A8::A9::C0::C1::C2::C3::C4::C5::C6::C7::C8::C9::D0::D1::D2::D3::D4::D5::D6::a7::D8::b8::E0::E1::E1::(gd us40 0)::(gd us40 1)::(gd us40 2)::(gd us40 3)::(gd us40 4)::E8::E9::F0::F1::F2::F3::F4::F5::F6::F7::F8::F9::G0::G1::G2::G3::G4::G5::G6::G7::G8::G9::H0::H1::H2::H3::H4::H5::H6::H7::H8::[]) w)) w) :
  ac Q (cd Tryz.f8 [1,1,1,1,1,1]) (rk Tryz.f8 K) xf (rk Tryz.f8 K) (s0::node1::i2::s3::node4::i5::A1::a7::b8::x9::y10::k_11::k_12::A6::A7::A8::A9::C0::C1::C2::C3::C4::C5::C6::C7::C8::C9::D0::D1::D2::D3::D4::D5::D6::D7::D8::D9::E0::E1::E2::E3::E4::E5::E6::E7::E8::E9::F0::F1::F2::F3::F4::F5::F6::F7::F8::F9::G0::G1::G2::G3::G4::G5::G6::G7::G8::G9::H0::H1::H2::H3::H4::H5::H6::H7::H8::[]) w:=Eq.mp (by kernel_rfl) h
theorem re {K:KV} {w:World}
  (h:blt Q Builtin.len #[65] 3 #[false] #[a7] (fun D8=>blt Q Builtin.len #[81] 3 #[false] #[b8] fun E0=>bin Q BinOp.neq 3 false false D8 E0 fun E1 w=>au E1 false (fun k40=>blt Q Builtin.len #[58] 3 #[false] #[x9] (fun E4=>blt Q Builtin.len #[58] 3 #[false] #[y10] fun E6=>bin Q BinOp.neq 3 false false E4 E6 fun E7=>k40 [x9,E4,y10,E6,E7]) w) (fun k=>k [undef,undef,undef,undef,undef] w) fun us40=>pick E1 cT (gd us40 4) fun E8 w=>cond E8 (K cF w) (jS K (s0::node1::i2::s3::node4::i5::A1::a7::b8::x9::y10::(ci 0)::k_12::A6::A7::A8::A9::C0::C1::C2::C3::C4::C5::C6::C7::C8::C9::D0::D1::D2::D3::D4::D5::D6::a7::D8::b8::E0::E1::E1::(gd us40 0)::(gd us40 1)::(gd us40 2)::(gd us40 3)::(gd us40 4)::E8::E9::F0::F1::F2::F3::F4::F5::F6::F7::F8::F9::G0::G1::G2::G3::G4::G5::G6::G7::G8::G9::H0::H1::H2::H3::H4::H5::H6::H7::H8::[]) w)) w) :
  ip K (s0::node1::i2::s3::node4::i5::A1::a7::b8::x9::y10::k_11::k_12::A6::A7::A8::A9::C0::C1::C2::C3::C4::C5::C6::C7::C8::C9::D0::D1::D2::D3::D4::D5::D6::D7::D8::D9::E0::E1::E2::E3::E4::E5::E6::E7::E8::E9::F0::F1::F2::F3::F4::F5::F6::F7::F8::F9::G0::G1::G2::G3::G4::G5::G6::G7::G8::G9::H0::H1::H2::H3::H4::H5::H6::H7::H8::[]) w:=by
 delta ip
 exact Eq.mp (congrArg (fun c=>ac Q c (rk Tryz.f8 K) xf (rk Tryz.f8 K) (s0::node1::i2::s3::node4::i5::A1::a7::b8::x9::y10::k_11::k_12::A6::A7::A8::A9::C0::C1::C2::C3::C4::C5::C6::C7::C8::C9::D0::D1::D2::D3::D4::D5::D6::D7::D8::D9::E0::E1::E2::E3::E4::E5::E6::E7::E8::E9::F0::F1::F2::F3::F4::F5::F6::F7::F8::F9::G0::G1::G2::G3::G4::G5::G6::G7::G8::G9::H0::H1::H2::H3::H4::H5::H6::H7::H8::[]) w) (by kernel_rfl:(cd Tryz.f8 [1,1,1,1,1,1])=(cd Tryz.f8 [1,1,1,1,1,1]))) (rc h)
end
theorem rf {K:KV} (B1:KE) (qc0:KE) {s0 node1 i2 s3 node4 i5 a7 b8 x9 y10 k_11' k_12 A6 A7 A8 A9 C0 C1 C2 C3 C4 C5 C6 C7 C8 C9 D0 D1 D2 D3 D4 D5 D6 D7 D8 D9 E0 E1 E2 E3 E4 E5 E6 E7 E8 G4 G5 G6 G7 G8 G9 H0 H1 H2 H3 H4 H5 H6 H7 H8:Value} {dd:Nat→Value} {w:World}
  (h:blt Q Builtin.len #[65] 3 #[false] #[a7] (fun F1=>bin Q BinOp.lss 3 false false k_11' F1 fun F2 w=>cond F2 (sti (af Q 65 a7 k_11') (fun F7=>sti (ld Q 69 F7) fun F8=>sti (af Q 81 b8 k_11') fun G1=>sti (ld Q 83 G1) fun G2=>sti (bin Q BinOp.neq 83 false false F8 G2) fun G3 w=>cond G3 (K cF w) (bin Q BinOp.add 3 false true k_11' (ci 1) (fun F4=>B1 (s0::node1::i2::s3::node4::i5::(dd 6)::a7::b8::x9::y10::F4::k_12::A6::A7::A8::A9::C0::C1::C2::C3::C4::C5::C6::C7::C8::C9::D0::D1::D2::D3::D4::D5::D6::D7::D8::D9::E0::E1::E2::E3::E4::E5::E6::E7::E8::k_11'::a7::F1::F2::k_11'::F4::a7::k_11'::F7::F8::b8::k_11'::G1::G2::G3::G4::G5::G6::G7::G8::G9::H0::H1::H2::H3::H4::H5::H6::H7::H8::[])) w)) w.drew) (qc0 (s0::node1::i2::s3::node4::i5::(dd 6)::a7::b8::x9::y10::k_11'::k_12::A6::A7::A8::A9::C0::C1::C2::C3::C4::C5::C6::C7::C8::C9::D0::D1::D2::D3::D4::D5::D6::D7::D8::D9::E0::E1::E2::E3::E4::E5::E6::E7::E8::k_11'::a7::F1::F2::(dd 50)::(dd 51)::(dd 52)::(dd 53)::(dd 54)::(dd 55)::(dd 56)::(dd 57)::(dd 58)::(dd 59)::(dd 60)::G4::G5::G6::G7::G8::G9::H0::H1::H2::H3::H4::H5::H6::H7::H8::[]) w)) w) :
  ac Q (cd Tryz.f8 [1,1,1,1,1,1,1,0,1,0,0]) B1 (xx xf qc0 0) (rk Tryz.f8 K) (s0::node1::i2::s3::node4::i5::(dd 6)::a7::b8::x9::y10::k_11'::k_12::A6::A7::A8::A9::C0::C1::C2::C3::C4::C5::C6::C7::C8::C9::D0::D1::D2::D3::D4::D5::D6::D7::D8::D9::E0::E1::E2::E3::E4::E5::E6::E7::E8::(dd 46)::(dd 47)::(dd 48)::(dd 49)::(dd 50)::(dd 51)::(dd 52)::(dd 53)::(dd 54)::(dd 55)::(dd 56)::(dd 57)::(dd 58)::(dd 59)::(dd 60)::G4::G5::G6::G7::G8::G9::H0::H1::H2::H3::H4::H5::H6::H7::H8::[]) w:=Eq.mp (by kernel_rfl) h
section
variable {s0 node1 i2 s3 node4 i5 A1 a7 b8 x9 y10 k_11 k_12 A6 A7 A8 A9 C0 C1 C2 C3 C4 C5 C6 C7 C8 C9 D0 D1 D2 D3 D4 D5 D6 D7 D8 D9 E0 E1 E2 E3 E4 E5 E6 E7 E8 E9 F0 F1 F2 F3 F4 F5 F6 F7 F8 F9 G0 G1 G2 G3 G4 G5 G6 G7 G8 G9 H0 H1 H2 H3 H4 H5 H6 H7 H8:Value}
theorem rg {K:KV} {w:World} (Inv:Value→World→Prop) (μ:Value→World→Nat) (h0:Inv k_11 w)
  (hs:∀ (k_11':Value) (dd:Nat→Value) (w:World) (m:Nat),Inv k_11' w→m=μ k_11' w →
  blt Q Builtin.len #[65] 3 #[false] #[a7] (fun F1=>bin Q BinOp.lss 3 false false k_11' F1 fun F2 w=>cond F2 (sti (af Q 65 a7 k_11') (fun F7=>sti (ld Q 69 F7) fun F8=>sti (af Q 81 b8 k_11') fun G1=>sti (ld Q 83 G1) fun G2=>sti (bin Q BinOp.neq 83 false false F8 G2) fun G3 w=>cond G3 (K cF w) (bin Q BinOp.add 3 false true k_11' (ci 1) (fun F4 w=>(Inv F4 w)∧((μ F4 w)<m)) w)) w.drew) (dO K (s0::node1::i2::s3::node4::i5::(dd 6)::a7::b8::x9::y10::k_11'::k_12::A6::A7::A8::A9::C0::C1::C2::C3::C4::C5::C6::C7::C8::C9::D0::D1::D2::D3::D4::D5::D6::D7::D8::D9::E0::E1::E2::E3::E4::E5::E6::E7::E8::k_11'::a7::F1::F2::(dd 50)::(dd 51)::(dd 52)::(dd 53)::(dd 54)::(dd 55)::(dd 56)::(dd 57)::(dd 58)::(dd 59)::(dd 60)::G4::G5::G6::G7::G8::G9::H0::H1::H2::H3::H4::H5::H6::H7::H8::[]) w)) w) :
  jS K (s0::node1::i2::s3::node4::i5::A1::a7::b8::x9::y10::k_11::k_12::A6::A7::A8::A9::C0::C1::C2::C3::C4::C5::C6::C7::C8::C9::D0::D1::D2::D3::D4::D5::D6::D7::D8::D9::E0::E1::E2::E3::E4::E5::E6::E7::E8::E9::F0::F1::F2::F3::F4::F5::F6::F7::F8::F9::G0::G1::G2::G3::G4::G5::G6::G7::G8::G9::H0::H1::H2::H3::H4::H5::H6::H7::H8::[]) w:=by
 refine aB (cd Tryz.f8 [1,1,1,1,1,1,1,0,1,0,0]) [6,11,46,47,48,49,50,51,52,53,54,55,56,57,58,59,60] (by kernel_rfl) (fun e2 w2=>Inv (gd e2 11) w2) (fun e2 w2=>μ (gd e2 11) w2) h0 ?_
 intro e' w' hI
 have h:=hs (gd e' 11) (fun i=>gd e' i) w' _ hI rfl
 have h2:ac Q (cd Tryz.f8 [1,1,1,1,1,1,1,0,1,0,0]) (fun e2 w2=>Inv (gd e2 11) w2∧μ (gd e2 11) w2 < μ (gd e' 11) w') (xx xf (dO K) 0) (rk Tryz.f8 K) (s0::node1::i2::s3::node4::i5::(gd e' 6)::a7::b8::x9::y10::(gd e' 11)::k_12::A6::A7::A8::A9::C0::C1::C2::C3::C4::C5::C6::C7::C8::C9::D0::D1::D2::D3::D4::D5::D6::D7::D8::D9::E0::E1::E2::E3::E4::E5::E6::E7::E8::(gd e' 46)::(gd e' 47)::(gd e' 48)::(gd e' 49)::(gd e' 50)::(gd e' 51)::(gd e' 52)::(gd e' 53)::(gd e' 54)::(gd e' 55)::(gd e' 56)::(gd e' 57)::(gd e' 58)::(gd e' 59)::(gd e' 60)::G4::G5::G6::G7::G8::G9::H0::H1::H2::H3::H4::H5::H6::H7::H8::[]) w':=rf (fun e2 w2=>Inv (gd e2 11) w2∧μ (gd e2 11) w2 < μ (gd e' 11) w') (dO K) (Eq.mp (by kernel_rfl) h)
 exact Eq.mp (by kernel_rfl) h2
theorem rh {K:KV} {w:World}
  (h:ac Q (cd Tryz.f8 [1,1,1,1,1,1,1,1,0,1,0]) (ac Q (cd Tryz.f8 [1,1,1,1,1,1,1,1,1]) (rk Tryz.f8 K) (fun _ _ _=>False) (rk Tryz.f8 K)) (fun i=>@Bool.rec (fun _=>KE) ((fun _ _ _=>False) i) (ac Q (cd Tryz.f8 [1,1,1,1,1,1,1,1,1]) (rk Tryz.f8 K) (fun _ _ _=>False) (rk Tryz.f8 K)) (Nat.beq i 2)) (rk Tryz.f8 K) (s0::node1::i2::s3::node4::i5::A1::a7::b8::x9::y10::k_11::(ci 0)::A6::A7::A8::A9::C0::C1::C2::C3::C4::C5::C6::C7::C8::C9::D0::D1::D2::D3::D4::D5::D6::D7::D8::D9::E0::E1::E2::E3::E4::E5::E6::E7::E8::E9::F0::F1::F2::F3::F4::F5::F6::F7::F8::F9::G0::G1::G2::G3::G4::G5::G6::G7::G8::G9::H0::H1::H2::H3::H4::H5::H6::H7::H8::[]) w) :
  ac Q (cd Tryz.f8 [1,1,1,1,1,1,1,1]) (rk Tryz.f8 K) xf (rk Tryz.f8 K) (s0::node1::i2::s3::node4::i5::A1::a7::b8::x9::y10::k_11::k_12::A6::A7::A8::A9::C0::C1::C2::C3::C4::C5::C6::C7::C8::C9::D0::D1::D2::D3::D4::D5::D6::D7::D8::D9::E0::E1::E2::E3::E4::E5::E6::E7::E8::E9::F0::F1::F2::F3::F4::F5::F6::F7::F8::F9::G0::G1::G2::G3::G4::G5::G6::G7::G8::G9::H0::H1::H2::H3::H4::H5::H6::H7::H8::[]) w:=Eq.mp (by kernel_rfl) h
theorem rl {K:KV} {w:World}
  (h:jT K (s0::node1::i2::s3::node4::i5::A1::a7::b8::x9::y10::k_11::(ci 0)::A6::A7::A8::A9::C0::C1::C2::C3::C4::C5::C6::C7::C8::C9::D0::D1::D2::D3::D4::D5::D6::D7::D8::D9::E0::E1::E2::E3::E4::E5::E6::E7::E8::E9::F0::F1::F2::F3::F4::F5::F6::F7::F8::F9::G0::G1::G2::G3::G4::G5::G6::G7::G8::G9::H0::H1::H2::H3::H4::H5::H6::H7::H8::[]) w) :
  dO K (s0::node1::i2::s3::node4::i5::A1::a7::b8::x9::y10::k_11::k_12::A6::A7::A8::A9::C0::C1::C2::C3::C4::C5::C6::C7::C8::C9::D0::D1::D2::D3::D4::D5::D6::D7::D8::D9::E0::E1::E2::E3::E4::E5::E6::E7::E8::E9::F0::F1::F2::F3::F4::F5::F6::F7::F8::F9::G0::G1::G2::G3::G4::G5::G6::G7::G8::G9::H0::H1::H2::H3::H4::H5::H6::H7::H8::[]) w:=by
 delta dO
 exact Eq.mp (congrArg (fun c=>ac Q c (rk Tryz.f8 K) xf (rk Tryz.f8 K) (s0::node1::i2::s3::node4::i5::A1::a7::b8::x9::y10::k_11::k_12::A6::A7::A8::A9::C0::C1::C2::C3::C4::C5::C6::C7::C8::C9::D0::D1::D2::D3::D4::D5::D6::D7::D8::D9::E0::E1::E2::E3::E4::E5::E6::E7::E8::E9::F0::F1::F2::F3::F4::F5::F6::F7::F8::F9::G0::G1::G2::G3::G4::G5::G6::G7::G8::G9::H0::H1::H2::H3::H4::H5::H6::H7::H8::[]) w) (by kernel_rfl:(cd Tryz.f8 [1,1,1,1,1,1,1,1])=(cd Tryz.f8 [1,1,1,1,1,1,1,1]))) (rh h)
end
theorem rm {K:KV} (B1:KE) (qc0:KE) {s0 node1 i2 s3 node4 i5 a7 b8 x9 y10 k_11 k_12' A6 A7 A8 A9 C0 C1 C2 C3 C4 C5 C6 C7 C8 C9 D0 D1 D2 D3 D4 D5 D6 D7 D8 D9 E0 E1 E2 E3 E4 E5 E6 E7 E8 E9 F0 F1 F2 F3 F4 F5 F6 F7 F8 F9 G0 G1 G2 G3:Value} {dd:Nat→Value} {w:World}
  (h:blt Q Builtin.len #[58] 3 #[false] #[x9] (fun G6=>bin Q BinOp.lss 3 false false k_12' G6 fun G7 w=>cond G7 (sti (af Q 58 x9 k_12') (fun H2=>sti (ld Q 61 H2) fun H3=>sti (af Q 58 y10 k_12') fun H6=>sti (ld Q 61 H6) fun H7=>sti (bin Q BinOp.neq 61 false false H3 H7) fun H8 w=>cond H8 (K cF w) (bin Q BinOp.add 3 false true k_12' (ci 1) (fun G9=>B1 (s0::node1::i2::s3::node4::i5::(dd 6)::a7::b8::x9::y10::k_11::G9::A6::A7::A8::A9::C0::C1::C2::C3::C4::C5::C6::C7::C8::C9::D0::D1::D2::D3::D4::D5::D6::D7::D8::D9::E0::E1::E2::E3::E4::E5::E6::E7::E8::E9::F0::F1::F2::F3::F4::F5::F6::F7::F8::F9::G0::G1::G2::G3::k_12'::x9::G6::G7::k_12'::G9::x9::k_12'::H2::H3::y10::k_12'::H6::H7::H8::[])) w)) w.drew) (qc0 (s0::node1::i2::s3::node4::i5::(dd 6)::a7::b8::x9::y10::k_11::k_12'::A6::A7::A8::A9::C0::C1::C2::C3::C4::C5::C6::C7::C8::C9::D0::D1::D2::D3::D4::D5::D6::D7::D8::D9::E0::E1::E2::E3::E4::E5::E6::E7::E8::E9::F0::F1::F2::F3::F4::F5::F6::F7::F8::F9::G0::G1::G2::G3::k_12'::x9::G6::G7::(dd 65)::(dd 66)::(dd 67)::(dd 68)::(dd 69)::(dd 70)::(dd 71)::(dd 72)::(dd 73)::(dd 74)::(dd 75)::[]) w)) w) :
  ac Q (cd Tryz.f8 [1,1,1,1,1,1,1,1,0,1,0,0]) B1 (xx xf qc0 2) (rk Tryz.f8 K) (s0::node1::i2::s3::node4::i5::(dd 6)::a7::b8::x9::y10::k_11::k_12'::A6::A7::A8::A9::C0::C1::C2::C3::C4::C5::C6::C7::C8::C9::D0::D1::D2::D3::D4::D5::D6::D7::D8::D9::E0::E1::E2::E3::E4::E5::E6::E7::E8::E9::F0::F1::F2::F3::F4::F5::F6::F7::F8::F9::G0::G1::G2::G3::(dd 61)::(dd 62)::(dd 63)::(dd 64)::(dd 65)::(dd 66)::(dd 67)::(dd 68)::(dd 69)::(dd 70)::(dd 71)::(dd 72)::(dd 73)::(dd 74)::(dd 75)::[]) w:=Eq.mp (by kernel_rfl) h
section
variable {s0 node1 i2 s3 node4 i5 A1 a7 b8 x9 y10 k_11 k_12 A6 A7 A8 A9 C0 C1 C2 C3 C4 C5 C6 C7 C8 C9 D0 D1 D2 D3 D4 D5 D6 D7 D8 D9 E0 E1 E2 E3 E4 E5 E6 E7 E8 E9 F0 F1 F2 F3 F4 F5 F6 F7 F8 F9 G0 G1 G2 G3 G4 G5 G6 G7 G8 G9 H0 H1 H2 H3 H4 H5 H6 H7 H8:Value}
theorem ro {K:KV} {w:World} (Inv:Value→World→Prop) (μ:Value→World→Nat) (h0:Inv k_12 w)
  (hs:∀ (k_12':Value) (dd:Nat→Value) (w:World) (m:Nat),Inv k_12' w→m=μ k_12' w →
  blt Q Builtin.len #[58] 3 #[false] #[x9] (fun G6=>bin Q BinOp.lss 3 false false k_12' G6 fun G7 w=>cond G7 (sti (af Q 58 x9 k_12') (fun H2=>sti (ld Q 61 H2) fun H3=>sti (af Q 58 y10 k_12') fun H6=>sti (ld Q 61 H6) fun H7=>sti (bin Q BinOp.neq 61 false false H3 H7) fun H8 w=>cond H8 (K cF w) (bin Q BinOp.add 3 false true k_12' (ci 1) (fun G9 w=>(Inv G9 w)∧((μ G9 w)<m)) w)) w.drew) (dP K (s0::node1::i2::s3::node4::i5::(dd 6)::a7::b8::x9::y10::k_11::k_12'::A6::A7::A8::A9::C0::C1::C2::C3::C4::C5::C6::C7::C8::C9::D0::D1::D2::D3::D4::D5::D6::D7::D8::D9::E0::E1::E2::E3::E4::E5::E6::E7::E8::E9::F0::F1::F2::F3::F4::F5::F6::F7::F8::F9::G0::G1::G2::G3::k_12'::x9::G6::G7::(dd 65)::(dd 66)::(dd 67)::(dd 68)::(dd 69)::(dd 70)::(dd 71)::(dd 72)::(dd 73)::(dd 74)::(dd 75)::[]) w)) w) :
  jT K (s0::node1::i2::s3::node4::i5::A1::a7::b8::x9::y10::k_11::k_12::A6::A7::A8::A9::C0::C1::C2::C3::C4::C5::C6::C7::C8::C9::D0::D1::D2::D3::D4::D5::D6::D7::D8::D9::E0::E1::E2::E3::E4::E5::E6::E7::E8::E9::F0::F1::F2::F3::F4::F5::F6::F7::F8::F9::G0::G1::G2::G3::G4::G5::G6::G7::G8::G9::H0::H1::H2::H3::H4::H5::H6::H7::H8::[]) w:=by
 refine aB (cd Tryz.f8 [1,1,1,1,1,1,1,1,0,1,0,0]) [6,12,61,62,63,64,65,66,67,68,69,70,71,72,73,74,75] (by kernel_rfl) (fun e2 w2=>Inv (gd e2 12) w2) (fun e2 w2=>μ (gd e2 12) w2) h0 ?_
 intro e' w' hI
 have h:=hs (gd e' 12) (fun i=>gd e' i) w' _ hI rfl
 have h2:ac Q (cd Tryz.f8 [1,1,1,1,1,1,1,1,0,1,0,0]) (fun e2 w2=>Inv (gd e2 12) w2∧μ (gd e2 12) w2 < μ (gd e' 12) w') (xx xf (dP K) 2) (rk Tryz.f8 K) (s0::node1::i2::s3::node4::i5::(gd e' 6)::a7::b8::x9::y10::k_11::(gd e' 12)::A6::A7::A8::A9::C0::C1::C2::C3::C4::C5::C6::C7::C8::C9::D0::D1::D2::D3::D4::D5::D6::D7::D8::D9::E0::E1::E2::E3::E4::E5::E6::E7::E8::E9::F0::F1::F2::F3::F4::F5::F6::F7::F8::F9::G0::G1::G2::G3::(gd e' 61)::(gd e' 62)::(gd e' 63)::(gd e' 64)::(gd e' 65)::(gd e' 66)::(gd e' 67)::(gd e' 68)::(gd e' 69)::(gd e' 70)::(gd e' 71)::(gd e' 72)::(gd e' 73)::(gd e' 74)::(gd e' 75)::[]) w':=rm (fun e2 w2=>Inv (gd e2 12) w2∧μ (gd e2 12) w2 < μ (gd e' 12) w') (dP K) (Eq.mp (by kernel_rfl) h)
 exact Eq.mp (by kernel_rfl) h2
theorem rp {K:KV} {w:World}
  (h:K cT w) :
  ac Q (cd Tryz.f8 [1,1,1,1,1,1,1,1,1]) (rk Tryz.f8 K) xf (rk Tryz.f8 K) (s0::node1::i2::s3::node4::i5::A1::a7::b8::x9::y10::k_11::k_12::A6::A7::A8::A9::C0::C1::C2::C3::C4::C5::C6::C7::C8::C9::D0::D1::D2::D3::D4::D5::D6::D7::D8::D9::E0::E1::E2::E3::E4::E5::E6::E7::E8::E9::F0::F1::F2::F3::F4::F5::F6::F7::F8::F9::G0::G1::G2::G3::G4::G5::G6::G7::G8::G9::H0::H1::H2::H3::H4::H5::H6::H7::H8::[]) w:=Eq.mp (by kernel_rfl) h
theorem rr {K:KV} {w:World}
  (h:K cT w) :
  dP K (s0::node1::i2::s3::node4::i5::A1::a7::b8::x9::y10::k_11::k_12::A6::A7::A8::A9::C0::C1::C2::C3::C4::C5::C6::C7::C8::C9::D0::D1::D2::D3::D4::D5::D6::D7::D8::D9::E0::E1::E2::E3::E4::E5::E6::E7::E8::E9::F0::F1::F2::F3::F4::F5::F6::F7::F8::F9::G0::G1::G2::G3::G4::G5::G6::G7::G8::G9::H0::H1::H2::H3::H4::H5::H6::H7::H8::[]) w:=by
 delta dP
 exact Eq.mp (congrArg (fun c=>ac Q c (rk Tryz.f8 K) xf (rk Tryz.f8 K) (s0::node1::i2::s3::node4::i5::A1::a7::b8::x9::y10::k_11::k_12::A6::A7::A8::A9::C0::C1::C2::C3::C4::C5::C6::C7::C8::C9::D0::D1::D2::D3::D4::D5::D6::D7::D8::D9::E0::E1::E2::E3::E4::E5::E6::E7::E8::E9::F0::F1::F2::F3::F4::F5::F6::F7::F8::F9::G0::G1::G2::G3::G4::G5::G6::G7::G8::G9::H0::H1::H2::H3::H4::H5::H6::H7::H8::[]) w) (by kernel_rfl:(cd Tryz.f8 [1,1,1,1,1,1,1,1,1])=(cd Tryz.f8 [1,1,1,1,1,1,1,1,1]))) (rp h)
attribute [irreducible] ip dO jS dP jT
def bf (K:KV):KE:=ac Q (cd Tryz.f3 [1,1,1]) (rk Tryz.f3 K) xf (rk Tryz.f3 K)
def fR (K:KV):KE:=ac Q (cd Tryz.f3 [1,1,0,1,0]) (bf K) (xx xf (bf K) 0) (rk Tryz.f3 K)
def ct (K:KV) (B1:KE):KE:=ac Q (cd Tryz.f3 [1,1,0,1,0,0,1,1]) B1 (xx xf (bf K) 0) (rk Tryz.f3 K)
def fS (K:KV) (B1:KE):KE:=ac Q (cd Tryz.f3 [1,1,0,1,0,0,1,0,0,1,0]) (ct K B1) (xx (xx (xx xf (bf K) 0) (ct K B1) 1) (ct K B1) 2) (rk Tryz.f3 K)
def cv (K:KV):KE:=ac Q (cd Tryz.f3 [1,1,1,1,1,1]) (rk Tryz.f3 K) xf (rk Tryz.f3 K)
def eW (K:KV):KE:=ac Q (cd Tryz.f3 [1,1,1,1,1,0,1]) (cv K) xf (rk Tryz.f3 K)
end
theorem oQ {K:KV} {n0 acts1 pick2 raw3 node4 i5:Value} {w:World}
  (h:box Q 30 raw3 (fun raw9=>call Q 5 #[acts1] fun C2=>un Q UnOp.not C2 fun C3 w=>au C3 false (fun k22=>aa Q 30 raw9 3 (fun C5=>ld Q 27 C5 fun C6=>blt Q Builtin.len #[27] 3 #[false] #[C6] fun C7=>bin Q BinOp.gtr 3 false true C7 (ci 20) fun C8=>k22 [C5,C6,C7,C8]) w) (fun k=>k [undef,undef,undef,undef] w) fun us22=>pick C3 cT (gd us22 3) fun C9 w=>cond C9 (call Q 6 #[] K w) (fR K (n0::acts1::pick2::raw3::node4::i5::undef::undef::undef::raw9::undef::undef::cF::(ci 0)::undef::undef::undef::undef::acts1::C2::C3::C3::(gd us22 0)::(gd us22 1)::(gd us22 2)::(gd us22 3)::C9::undef::undef::undef::undef::undef::undef::undef::undef::undef::undef::undef::undef::undef::undef::undef::undef::undef::undef::undef::undef::undef::undef::undef::undef::undef::undef::undef::undef::undef::undef::undef::undef::undef::undef::undef::undef::undef::undef::undef::undef::undef::undef::undef::undef::undef::undef::undef::undef::undef::undef::undef::undef::undef::undef::undef::undef::undef::undef::undef::undef::undef::undef::undef::undef::undef::undef::undef::undef::undef::undef::undef::undef::[]) w)) w) :
  Gives Q 3 #[n0,acts1,pick2,raw3,node4,i5] w K:=by
 refine aK Tryz.func3 (by kernel_rfl) ?_
 revert h
 delta fR bf
 exact fun h=>Eq.mp (by kernel_rfl) h
theorem oR:bD Q 3:=⟨_,Tryz.func3,by kernel_rfl,by kernel_rfl⟩
section
variable {n0 acts1 pick2 raw3 node4 i5 n6 acts7 pick8 raw9 node10 i11 A5 k_13 j14 A8 s16 own17 C1 C2 C3 C4 C5 C6 C7 C8 C9 D0 D1 D2 D3 D4 D5 D6 D7 D8 D9 E0 E1 E2 E3 E4 E5 E6 E7 E8 E9 F0 F1 F2 F3 F4 F5 F6 F7 F8 F9 G0 G1 G2 G3 G4 G5 G6 G7 G8 G9 H0 H1 H2 H3 H4 H5 H6 H7 H8 H9 I0 I1 I2 I3 I4 I5 I6 I7 I8 I9 J0 J1 J2 J3 J4 J5 J6 J7 J8 J9 L0 L1:Value}
theorem nS {K:KV} {w:World} (Inv:Value→World→Prop) (μ:Value→World→Nat) (h0:Inv k_13 w)
  (hs:∀ (k_13':Value) (dd:Nat→Value) (w:World) (m:Nat),Inv k_13' w→m=μ k_13' w →
  aa Q 30 raw9 3 (fun D2=>ld Q 27 D2 fun D3=>blt Q Builtin.len #[27] 3 #[false] #[D3] fun D4=>bin Q BinOp.lss 3 false false k_13' D4 fun D5 w=>cond D5 (fS K (fun e2 w2=>(Inv (gd e2 13) w2)∧((μ (gd e2 13) w2)<m)) (n0::acts1::pick2::raw3::node4::i5::n6::acts7::pick8::raw9::node10::i11::(dd 12)::k_13'::(ci 0)::A8::s16::own17::C1::C2::C3::C4::C5::C6::C7::C8::C9::D0::k_13'::D2::D3::D4::D5::(dd 33)::(dd 34)::(dd 35)::(dd 36)::(dd 37)::(dd 38)::(dd 39)::(dd 40)::(dd 41)::(dd 42)::(dd 43)::(dd 44)::(dd 45)::(dd 46)::(dd 47)::(dd 48)::(dd 49)::(dd 50)::(dd 51)::(dd 52)::(dd 53)::F7::F8::F9::G0::G1::G2::G3::G4::G5::G6::G7::G8::G9::H0::H1::H2::H3::H4::H5::H6::H7::H8::H9::I0::I1::I2::I3::I4::I5::I6::I7::I8::I9::J0::J1::J2::J3::J4::J5::J6::J7::J8::J9::L0::L1::[]) w) (bf K (n0::acts1::pick2::raw3::node4::i5::n6::acts7::pick8::raw9::node10::i11::(dd 12)::k_13'::(dd 14)::A8::s16::own17::C1::C2::C3::C4::C5::C6::C7::C8::C9::D0::k_13'::D2::D3::D4::D5::(dd 33)::(dd 34)::(dd 35)::(dd 36)::(dd 37)::(dd 38)::(dd 39)::(dd 40)::(dd 41)::(dd 42)::(dd 43)::(dd 44)::(dd 45)::(dd 46)::(dd 47)::(dd 48)::(dd 49)::(dd 50)::(dd 51)::(dd 52)::(dd 53)::F7::F8::F9::G0::G1::G2::G3::G4::G5::G6::G7::G8::G9::H0::H1::H2::H3::H4::H5::H6::H7::H8::H9::I0::I1::I2::I3::I4::I5::I6::I7::I8::I9::J0::J1::J2::J3::J4::J5::J6::J7::J8::J9::L0::L1::[]) w)) w) :
  fR K (n0::acts1::pick2::raw3::node4::i5::n6::acts7::pick8::raw9::node10::i11::A5::k_13::j14::A8::s16::own17::C1::C2::C3::C4::C5::C6::C7::C8::C9::D0::D1::D2::D3::D4::D5::D6::D7::D8::D9::E0::E1::E2::E3::E4::E5::E6::E7::E8::E9::F0::F1::F2::F3::F4::F5::F6::F7::F8::F9::G0::G1::G2::G3::G4::G5::G6::G7::G8::G9::H0::H1::H2::H3::H4::H5::H6::H7::H8::H9::I0::I1::I2::I3::I4::I5::I6::I7::I8::I9::J0::J1::J2::J3::J4::J5::J6::J7::J8::J9::L0::L1::[]) w:=by
 refine aB (cd Tryz.f3 [1,1,0,1,0,0]) [12,13,14,28,29,30,31,32,33,34,35,36,37,38,39,40,41,42,43,44,45,46,47,48,49,50,51,52,53] (by kernel_rfl) (fun e2 w2=>Inv (gd e2 13) w2) (fun e2 w2=>μ (gd e2 13) w2) h0 ?_
 intro e' w' hI
 have h:=hs (gd e' 13) (fun i=>gd e' i) w' _ hI rfl
 revert h
 delta fS ct
 generalize (bf K)=qc0
 exact fun h=>Eq.mp (by kernel_rfl) h
theorem nT {K:KV} {B1:KE} {w:World} (Inv:Value→World→Prop) (μ:Value→World→Nat) (h0:Inv j14 w)
  (hs:∀ (j14':Value) (dd:Nat→Value) (w:World) (m:Nat),Inv j14' w→m=μ j14' w →
  bin Q BinOp.lss 3 false false j14' k_13 (fun E0 w=>cond E0 (sti (aa Q 30 raw9 3) (fun E3=>sti (ld Q 27 E3) fun E4=>sti (af Q 27 E4 j14') fun E6=>sti (aa Q 38 E6 0) fun E7=>sti (ld Q 24 E7) fun E8=>sti (aa Q 30 raw9 3) fun E9=>sti (ld Q 27 E9) fun F0=>sti (af Q 27 F0 k_13) fun F2=>sti (aa Q 38 F2 0) fun F3=>sti (ld Q 24 F3) fun F4=>sti (bin Q BinOp.eql 24 false false E8 F4) fun F5 w=>cond F5 (call Q 6 #[] K w) (bin Q BinOp.add 3 false true j14' (ci 1) (fun E2 w=>(Inv E2 w)∧((μ E2 w)<m)) w)) w.drew) (ct K B1 (n0::acts1::pick2::raw3::node4::i5::n6::acts7::pick8::raw9::node10::i11::(dd 12)::k_13::j14'::A8::s16::own17::C1::C2::C3::C4::C5::C6::C7::C8::C9::D0::D1::D2::D3::D4::D5::D6::D7::j14'::k_13::E0::(dd 38)::(dd 39)::(dd 40)::(dd 41)::(dd 42)::(dd 43)::(dd 44)::(dd 45)::(dd 46)::(dd 47)::(dd 48)::(dd 49)::(dd 50)::(dd 51)::(dd 52)::(dd 53)::F7::F8::F9::G0::G1::G2::G3::G4::G5::G6::G7::G8::G9::H0::H1::H2::H3::H4::H5::H6::H7::H8::H9::I0::I1::I2::I3::I4::I5::I6::I7::I8::I9::J0::J1::J2::J3::J4::J5::J6::J7::J8::J9::L0::L1::[]) w)) w) :
  fS K B1 (n0::acts1::pick2::raw3::node4::i5::n6::acts7::pick8::raw9::node10::i11::A5::k_13::j14::A8::s16::own17::C1::C2::C3::C4::C5::C6::C7::C8::C9::D0::D1::D2::D3::D4::D5::D6::D7::D8::D9::E0::E1::E2::E3::E4::E5::E6::E7::E8::E9::F0::F1::F2::F3::F4::F5::F6::F7::F8::F9::G0::G1::G2::G3::G4::G5::G6::G7::G8::G9::H0::H1::H2::H3::H4::H5::H6::H7::H8::H9::I0::I1::I2::I3::I4::I5::I6::I7::I8::I9::J0::J1::J2::J3::J4::J5::J6::J7::J8::J9::L0::L1::[]) w:=by
 refine aB (cd Tryz.f3 [1,1,0,1,0,0,1,0,0,1,0,0]) [12,14,35,36,37,38,39,40,41,42,43,44,45,46,47,48,49,50,51,52,53] (by kernel_rfl) (fun e2 w2=>Inv (gd e2 14) w2) (fun e2 w2=>μ (gd e2 14) w2) h0 ?_
 intro e' w' hI
 have h:=hs (gd e' 14) (fun i=>gd e' i) w' _ hI rfl
 revert h
 generalize (bf K)=qc0
 generalize (ct K B1)=qc1
 exact fun h=>Eq.mp (by kernel_rfl) h
theorem nU {K:KV} {w:World}
  (h:call Q 7 #[n0,acts1,pick2] (fun G1=>ext Q G1 0 fun G2=>ext Q G1 1 fun G3=>alc Q 30 fun s16=>sto Q 30 s16 G3 fun _=>aa Q 30 s16 3 fun G5=>ld Q 27 G5 fun G6=>blt Q Builtin.len #[27] 3 #[false] #[G6] fun G7=>bin Q BinOp.gtr 3 false true G7 (ci 0) fun G8=>eW K (n0::acts1::pick2::raw3::node4::i5::n6::acts7::pick8::raw9::node10::i11::A5::k_13::j14::G2::s16::node4::C1::C2::C3::C4::C5::C6::C7::C8::C9::D0::D1::D2::D3::D4::D5::D6::D7::D8::D9::E0::E1::E2::E3::E4::E5::E6::E7::E8::E9::F0::F1::F2::F3::F4::F5::F6::G1::n0::acts1::pick2::G1::G2::G3::node4::G5::G6::G7::G8::G9::H0::H1::H2::H3::H4::H5::H6::H7::H8::H9::I0::I1::I2::I3::I4::I5::I6::I7::I8::I9::J0::J1::J2::J3::J4::J5::J6::J7::J8::J9::L0::L1::[])) w) :
  bf K (n0::acts1::pick2::raw3::node4::i5::n6::acts7::pick8::raw9::node10::i11::A5::k_13::j14::A8::s16::own17::C1::C2::C3::C4::C5::C6::C7::C8::C9::D0::D1::D2::D3::D4::D5::D6::D7::D8::D9::E0::E1::E2::E3::E4::E5::E6::E7::E8::E9::F0::F1::F2::F3::F4::F5::F6::F7::F8::F9::G0::G1::G2::G3::G4::G5::G6::G7::G8::G9::H0::H1::H2::H3::H4::H5::H6::H7::H8::H9::I0::I1::I2::I3::I4::I5::I6::I7::I8::I9::J0::J1::J2::J3::J4::J5::J6::J7::J8::J9::L0::L1::[]) w:=by
 delta bf
 refine Eq.mp (congrArg (fun c=>ac Q c _ _ _ _ w) (by kernel_rfl:(rep [1,1,0,1] (cd Tryz.f3 [1,1,1,1,1,0,1]) (cd Tryz.f3 [1,1,1]))=(cd Tryz.f3 [1,1,1]))) ?_
 revert h
 delta eW cv
 generalize (cd Tryz.f3 [1,1,1,1,1,0,1])=xc0
 exact fun h=>Eq.mp (by kernel_rfl) h
theorem nV {K:KV} {B1:KE} {w:World}
  (h:bin Q BinOp.add 3 false true k_13 (ci 1) (fun D7=>B1 (n0::acts1::pick2::raw3::node4::i5::n6::acts7::pick8::raw9::node10::i11::A5::D7::j14::A8::s16::own17::C1::C2::C3::C4::C5::C6::C7::C8::C9::D0::D1::D2::D3::D4::D5::k_13::D7::D8::D9::E0::E1::E2::E3::E4::E5::E6::E7::E8::E9::F0::F1::F2::F3::F4::F5::F6::F7::F8::F9::G0::G1::G2::G3::G4::G5::G6::G7::G8::G9::H0::H1::H2::H3::H4::H5::H6::H7::H8::H9::I0::I1::I2::I3::I4::I5::I6::I7::I8::I9::J0::J1::J2::J3::J4::J5::J6::J7::J8::J9::L0::L1::[])) w) :
  ct K B1 (n0::acts1::pick2::raw3::node4::i5::n6::acts7::pick8::raw9::node10::i11::A5::k_13::j14::A8::s16::own17::C1::C2::C3::C4::C5::C6::C7::C8::C9::D0::D1::D2::D3::D4::D5::D6::D7::D8::D9::E0::E1::E2::E3::E4::E5::E6::E7::E8::E9::F0::F1::F2::F3::F4::F5::F6::F7::F8::F9::G0::G1::G2::G3::G4::G5::G6::G7::G8::G9::H0::H1::H2::H3::H4::H5::H6::H7::H8::H9::I0::I1::I2::I3::I4::I5::I6::I7::I8::I9::J0::J1::J2::J3::J4::J5::J6::J7::J8::J9::L0::L1::[]) w:=by
 delta ct
 revert h
 generalize (bf K)=qc0
 exact fun h=>Eq.mp (by kernel_rfl) h
theorem nW {K:KV} {w:World}
  (h:cond G8 (sti (aa Q 30 s16 3) (fun G9=>sti (ld Q 27 G9) fun H0=>sti (conv Q 5 3 pick2) fun H2=>sti (aa Q 30 s16 3) fun H3=>sti (ld Q 27 H3) fun H4=>sti (blt Q Builtin.len #[27] 3 #[false] #[H4]) fun H5=>sti (bin Q BinOp.rem 3 false false H2 H5) fun H6=>sti (af Q 27 H0 H6) fun H7=>sti (aa Q 38 H7 0) fun H8=>sti (ld Q 24 H8) fun H9=>cv K (n0::acts1::pick2::raw3::node4::i5::n6::acts7::pick8::raw9::node10::i11::A5::k_13::j14::A8::s16::H9::C1::C2::C3::C4::C5::C6::C7::C8::C9::D0::D1::D2::D3::D4::D5::D6::D7::D8::D9::E0::E1::E2::E3::E4::E5::E6::E7::E8::E9::F0::F1::F2::F3::F4::F5::F6::F7::F8::F9::G0::G1::G2::G3::G4::G5::G6::G7::G8::G9::H0::pick2::H2::H3::H4::H5::H6::H7::H8::H9::I0::I1::I2::I3::I4::I5::I6::I7::I8::I9::J0::J1::J2::J3::J4::J5::J6::J7::J8::J9::L0::L1::[])) w.drew) (cv K (n0::acts1::pick2::raw3::node4::i5::n6::acts7::pick8::raw9::node10::i11::A5::k_13::j14::A8::s16::own17::C1::C2::C3::C4::C5::C6::C7::C8::C9::D0::D1::D2::D3::D4::D5::D6::D7::D8::D9::E0::E1::E2::E3::E4::E5::E6::E7::E8::E9::F0::F1::F2::F3::F4::F5::F6::F7::F8::F9::G0::G1::G2::G3::G4::G5::G6::G7::G8::G9::H0::H1::H2::H3::H4::H5::H6::H7::H8::H9::I0::I1::I2::I3::I4::I5::I6::I7::I8::I9::J0::J1::J2::J3::J4::J5::J6::J7::J8::J9::L0::L1::[]) w)) :
  eW K (n0::acts1::pick2::raw3::node4::i5::n6::acts7::pick8::raw9::node10::i11::A5::k_13::j14::A8::s16::own17::C1::C2::C3::C4::C5::C6::C7::C8::C9::D0::D1::D2::D3::D4::D5::D6::D7::D8::D9::E0::E1::E2::E3::E4::E5::E6::E7::E8::E9::F0::F1::F2::F3::F4::F5::F6::F7::F8::F9::G0::G1::G2::G3::G4::G5::G6::G7::G8::G9::H0::H1::H2::H3::H4::H5::H6::H7::H8::H9::I0::I1::I2::I3::I4::I5::I6::I7::I8::I9::J0::J1::J2::J3::J4::J5::J6::J7::J8::J9::L0::L1::[]) w:=by
 delta eW
 revert h
 generalize (cv K)=qc0
 exact fun h=>Eq.mp (by kernel_rfl) h
theorem nX {K:KV} {w:World}
  (h:ld Q 30 s16 (fun I0=>conv Q 5 3 pick2 fun I3=>bin Q BinOp.rem 3 false true I3 (ci 6) fun I4=>bin Q BinOp.add 3 true false (ci 1) I4 fun I5=>call Q 8 #[I0,own17,I5] fun I6 w=>au I6 true (fun k85=>ld Q 30 s16 (fun I8=>call Q 8 #[I8,node4,i5] fun J1=>k85 [I8,node4,i5,J1]) w) (fun k=>k [undef,undef,undef,undef] w) fun us85=>pick I6 (gd us85 3) cF fun J2 w=>au J2 true (fun k91=>ld Q 30 raw9 (fun J4=>call Q 8 #[J4,node4,i5] fun J7=>k91 [J4,node4,i5,J7]) w) (fun k=>k [undef,undef,undef,undef] w) fun us91=>pick J2 (gd us91 3) cF fun J8 w=>au J8 true (fun k97=>call Q 6 #[] (fun L0=>k97 [L0]) w) (fun k=>k [undef] w) fun us97=>pick J8 (gd us97 0) cF K) w) :
  cv K (n0::acts1::pick2::raw3::node4::i5::n6::acts7::pick8::raw9::node10::i11::A5::k_13::j14::A8::s16::own17::C1::C2::C3::C4::C5::C6::C7::C8::C9::D0::D1::D2::D3::D4::D5::D6::D7::D8::D9::E0::E1::E2::E3::E4::E5::E6::E7::E8::E9::F0::F1::F2::F3::F4::F5::F6::F7::F8::F9::G0::G1::G2::G3::G4::G5::G6::G7::G8::G9::H0::H1::H2::H3::H4::H5::H6::H7::H8::H9::I0::I1::I2::I3::I4::I5::I6::I7::I8::I9::J0::J1::J2::J3::J4::J5::J6::J7::J8::J9::L0::L1::[]) w:=by
 delta cv
 revert h
 exact fun h=>Eq.mp (by kernel_rfl) h
attribute [irreducible] bf fR ct fS cv eW
end
theorem vc {K:KV} {l0:Value} {w:World}
  (h:blt Q Builtin.len #[22] 3 #[false] #[l0] (fun A0=>bin Q BinOp.leq 3 false true A0 (ci 60) K) w) :
  Gives Q 5 #[l0] w K:=by
 refine aK Tryz.func5 (by kernel_rfl) ?_
 revert h
 exact fun h=>Eq.mp (by kernel_rfl) h
theorem vd:bD Q 5:=⟨_,Tryz.func5,by kernel_rfl,by kernel_rfl⟩
end Go.Proofs.YtgpfkmdknlcemaaGreatDoor
namespace Go.Proofs.YtgpfkmdknlcemaaGreatDoor
set_option maxRecDepth 100000
open Go.RowKit
attribute [local irreducible] bin un conv call bl blt slc aa fld af idx lkp bL bP eSt rng nxt ent ext alc box bld aJ ld sto aj bm mkS ifc pick rdy wts au sti cond aH Gives ac aW bA cOp
section
variable {w:World} {K:KV}
set_option maxHeartbeats 8000000 in
theorem ve {s : STA} {id i : Int} (hs : SK w s) (h : ∀ w', Below w.heap.size w w' → K (.bool true) w') : call Tryz.prog 8 #[.agg (saC s).toArray, .int .u64 id, iv i] K w := by
  refine aE u7 (tZ ?_)
  refine bh fun w1 hb b1 s1 => ?_
  have hb : blk w1 w.heap.size 30 (saC s) := by simpa [Value.cells] using hb
  have cutS : ((saC s).drop 0).take 20 = saC s := by rw [List.drop_zero, List.take_of_length_le (by rw [hs.len]; omega)]
  have hlt := hb.lt
  have b1 : Below w.heap.size w w1.drew := b1.drew
  have hb : blk w1.drew w.heap.size 30 (saC s) := hb
  have hs1 : SK w1.drew s := hs.bel b1 (Nat.le_refl _)
  have hlt1 : w.heap.size < w1.drew.heap.size := hlt
  generalize w1.drew = w2 at *
  refine aC (fun x => blk x w.heap.size 30 (saC s)) hb ?_
  refine ab (v := .agg (saC s).toArray) (fun x hx K hK => ldA (n := 20) (vs := saC s) Tryz.underlying30 rfl (by kernel_rfl) hx cutS hs.len hK) ?_
  refine ab (v := .agg (saC s).toArray) (fun x hx K hK => ldA (n := 20) (vs := saC s) Tryz.underlying30 rfl (by kernel_rfl) hx cutS hs.len hK) ?_
  unfold iv
  refine HA hs1 fun w3 b3 => ?_
  have b03 : Below w.heap.size w w3 := b1.trans (b3.mono (by omega))
  have hb3 : blk w3 w.heap.size 30 (saC s) := ae b3 hb hb.lt
  refine bn hb3 ?_
  refine CN (hs.bel b03 (Nat.le_refl _)) fun w4 b4 => ?_
  have hs3 := b3.size
  have b04 : Below w.heap.size w w4 := b03.trans (b4.mono (by omega))
  have hb4 : blk w4 w.heap.size 30 (saC s) := ae b4 hb3 hb3.lt
  refine aC (fun _ => True) trivial ?_
  unfold iv
  refine ab (v := .bool (decide (jV s id i ≠ jV s id i))) (fun x hx K hK => dn hK) ?_
  refine ag (fun hh => hh rfl) ?_
  have hs4 := b4.size
  refine ldA (n := 20) (vs := saC s) Tryz.underlying30 rfl (by kernel_rfl) hb4 cutS hs.len ?_
  refine BE (hs.bel b04 (Nat.le_refl _)) fun w5 am cm om b5 hml => ?_
  have b05 : Below w.heap.size w w5 := b04.trans (b5.mono (by omega))
  have hb5 : blk w5 w.heap.size 30 (saC s) := ae b5 hb4 hb4.lt
  have hs5 := b5.size
  refine ldA (n := 20) (vs := saC s) Tryz.underlying30 rfl (by kernel_rfl) hb5 cutS hs.len ?_
  refine zO (hs.bel b05 (Nat.le_refl _)) fun w6 ar cr om2 b6 _ => ?_
  have b06 : Below w.heap.size w w6 := b05.trans (b6.mono (by omega))
  have hb6 : blk w6 w.heap.size 30 (saC s) := ae b6 hb5 hb5.lt
  have hs6 := b6.size
  have om : w6.ownsRow w4.heap.size 69 3 (.slice am (dr s id).length cm) (dr s id).length ((dr s id).flatMap mvC) := bj om fun q hq => b6.block q (World.ownsRow.lt om q hq).2
  refine ldA (n := 20) (vs := saC s) Tryz.underlying30 rfl (by kernel_rfl) hb6 cutS hs.len ?_
  refine IG (i := i) (hs.bel b06 (Nat.le_refl _)) fun w7 ax cx ox b7 => ?_
  have b07 : Below w.heap.size w w7 := b06.trans (b7.mono (by omega))
  have hb7 : blk w7 w.heap.size 30 (saC s) := ae b7 hb6 hb6.lt
  have hs7 := b7.size
  have om : w7.ownsRow w4.heap.size 69 3 (.slice am (dr s id).length cm) (dr s id).length ((dr s id).flatMap mvC) := bj om fun q hq => b7.block q (World.ownsRow.lt om q hq).2
  have om2 : w7.ownsRow w5.heap.size 83 3 (.slice ar (dr s id).length cr) (dr s id).length ((dr s id).flatMap mvC) := bj om2 fun q hq => b7.block q (World.ownsRow.lt om2 q hq).2
  refine ldA (n := 20) (vs := saC s) Tryz.underlying30 rfl (by kernel_rfl) hb7 cutS hs.len ?_
  refine Hz (i := i) (hs.bel b07 (Nat.le_refl _)) fun w8 ay cy oy b8 => ?_
  have b08 : Below w.heap.size w w8 := b07.trans (b8.mono (by omega))
  have om : w8.ownsRow w4.heap.size 69 3 (.slice am (dr s id).length cm) (dr s id).length ((dr s id).flatMap mvC) := bj om fun q hq => b8.block q (World.ownsRow.lt om q hq).2
  have om2 : w8.ownsRow w5.heap.size 83 3 (.slice ar (dr s id).length cr) (dr s id).length ((dr s id).flatMap mvC) := bj om2 fun q hq => b8.block q (World.ownsRow.lt om2 q hq).2
  have ox : w8.ownsRow w6.heap.size 61 6 (.slice ax (gA s i).length cx) (gA s i).length ((gA s i).flatMap aqC) := bj ox fun q hq => b8.block q (World.ownsRow.lt ox q hq).2
  have hs8 := b8.size
  generalize dr s id = M at *
  generalize hA : gA s i = A at *
  refine re ?_
  refine aI Tryz.underlying65 ?_
  refine aI Tryz.underlying81 ?_
  refine dn ?_
  refine cE (fun hh => hh rfl) ?_
  refine aI Tryz.underlying58 ?_
  refine aI Tryz.underlying58 ?_
  refine dn ?_
  refine bt (fun hh => hh rfl) ?_
  refine ag (fun hh => hh rfl) ?_
  refine rg (Inv := fun kv wr => ∃ j : Nat, kv = .int .i64 (j : Nat) ∧ j ≤ M.length ∧ Below w8.heap.size w8 wr) (μ := fun kv _ => M.length - (intOf kv).toNat) ⟨0, rfl, by omega, Below.refl _ _⟩ ?_
  rintro _ dd w9 m ⟨j, rfl, hj, b9⟩ hm
  refine aI Tryz.underlying65 ?_
  refine aD ?_
  by_cases hjn : j < M.length
  · refine ai (by omega) ?_
    have b9 : Below w8.heap.size w8 w9.drew := b9.drew
    obtain ⟨g, cur, rfl, op⟩ := aZ (bj om fun q hq => b9.block q (World.ownsRow.lt om q hq).2) (by omega)
    obtain ⟨g', cur', rfl, op'⟩ := aZ (bj om2 fun q hq => b9.block q (World.ownsRow.lt om2 q hq).2) (by omega)
    have hx := List.getElem?_eq_getElem hjn
    have e1 : (cur.drop (0 + ((j : Nat) : Int).toNat * 3)).take 3 = mvC M[j] := by rw [Int.toNat_natCast, Nat.zero_add]; exact op.elem np rfl hx
    have e2 : (cur'.drop (0 + ((j : Nat) : Int).toNat * 3)).take 3 = mvC M[j] := by rw [Int.toNat_natCast, Nat.zero_add]; exact op'.elem np rfl hx
    refine a8 (v := .pointer (some ⟨g, 0 + ((j : Nat) : Int).toNat * 3, none⟩)) (fun K hK => bJ Tryz.underlying65 (s := 3) (fun _ => by kernel_rfl) (by omega) (by omega) hK) ?_
    refine a8 (v := .agg (mvC M[j]).toArray) (fun K hK => ldA (n := 3) (vs := mvC M[j]) Tryz.underlying69 rfl (by kernel_rfl) op.blk e1 rfl hK) ?_
    refine a8 (v := .pointer (some ⟨g', 0 + ((j : Nat) : Int).toNat * 3, none⟩)) (fun K hK => bJ Tryz.underlying81 (s := 3) (fun _ => by kernel_rfl) (by omega) (by omega) hK) ?_
    refine a8 (v := .agg (mvC M[j]).toArray) (fun K hK => ldA (n := 3) (vs := mvC M[j]) Tryz.underlying83 rfl (by kernel_rfl) op'.blk e2 rfl hK) ?_
    refine a8 (v := .bool false) (fun K hK => BD 2 (by omega) (by kernel_rfl) (by kernel_rfl) (by kernel_rfl) (by kernel_rfl) fun r hr => by rw [hr.2 rfl]; exact hK) ?_
    refine cW ?_
    refine aF (by omega) (by omega) ?_
    exact ⟨⟨j + 1, congrArg (Value.int .i64) (by push_cast; rfl), by omega, b9⟩, by rw [hm]; show M.length - ((j : Int) + 1).toNat < M.length - (j : Int).toNat; omega⟩
  · refine ag (by omega) ?_
    refine rl ?_
    have b09 : Below w.heap.size w w9 := b08.trans (b9.mono (by omega))
    have ox9 : w9.ownsRow w6.heap.size 61 6 (.slice ax A.length cx) A.length (A.flatMap aqC) := bj ox fun q hq => b9.block q (World.ownsRow.lt ox q hq).2
    have oy9 : w9.ownsRow w7.heap.size 61 6 (.slice ay A.length cy) A.length (A.flatMap aqC) := bj oy fun q hq => b9.block q (World.ownsRow.lt oy q hq).2
    refine ro (Inv := fun kv wr => ∃ j : Nat, kv = .int .i64 (j : Nat) ∧ j ≤ A.length ∧ Below w9.heap.size w9 wr) (μ := fun kv _ => A.length - (intOf kv).toNat) ⟨0, rfl, by omega, Below.refl _ _⟩ ?_
    rintro _ dd w10 m ⟨j, rfl, hj, b10⟩ hm
    refine aI Tryz.underlying58 ?_
    refine aD ?_
    by_cases hjn : j < A.length
    · refine ai (by omega) ?_
      have b10 : Below w9.heap.size w9 w10.drew := b10.drew
      obtain ⟨g, cur, rfl, op⟩ := aZ (bj ox9 fun q hq => b10.block q (World.ownsRow.lt ox9 q hq).2) (by omega)
      obtain ⟨g', cur', rfl, op'⟩ := aZ (bj oy9 fun q hq => b10.block q (World.ownsRow.lt oy9 q hq).2) (by omega)
      have hx := List.getElem?_eq_getElem hjn
      have e1 : (cur.drop (0 + ((j : Nat) : Int).toNat * 6)).take 6 = aqC A[j] := by rw [Int.toNat_natCast, Nat.zero_add]; exact op.elem tB rfl hx
      have e2 : (cur'.drop (0 + ((j : Nat) : Int).toNat * 6)).take 6 = aqC A[j] := by rw [Int.toNat_natCast, Nat.zero_add]; exact op'.elem tB rfl hx
      refine a8 (v := .pointer (some ⟨g, 0 + ((j : Nat) : Int).toNat * 6, none⟩)) (fun K hK => bJ Tryz.underlying58 (s := 6) (fun _ => by kernel_rfl) (by omega) (by omega) hK) ?_
      refine a8 (v := .agg (aqC A[j]).toArray) (fun K hK => ldA (n := 6) (vs := aqC A[j]) Tryz.underlying61 rfl (by kernel_rfl) op.blk e1 rfl hK) ?_
      refine a8 (v := .pointer (some ⟨g', 0 + ((j : Nat) : Int).toNat * 6, none⟩)) (fun K hK => bJ Tryz.underlying58 (s := 6) (fun _ => by kernel_rfl) (by omega) (by omega) hK) ?_
      refine a8 (v := .agg (aqC A[j]).toArray) (fun K hK => ldA (n := 6) (vs := aqC A[j]) Tryz.underlying61 rfl (by kernel_rfl) op'.blk e2 rfl hK) ?_
      refine a8 (v := .bool false) (fun K hK => BD 2 (by omega) (by kernel_rfl) (by kernel_rfl) (by kernel_rfl) (by kernel_rfl) fun r hr => by rw [hr.2 rfl]; exact hK) ?_
      refine cW ?_
      have hnc := op.nc
      have hcm := op.cm
      unfold maxLen at hcm
      refine aF (by omega) (by omega) ?_
      exact ⟨⟨j + 1, congrArg (Value.int .i64) (by push_cast; rfl), by omega, b10⟩, by rw [hm]; show A.length - ((j : Int) + 1).toNat < A.length - (j : Int).toNat; omega⟩
    · refine ag (by omega) ?_
      refine rr ?_
      exact h w10 (b09.trans (b10.mono (by have := b9.size; omega)))
end
end Go.Proofs.YtgpfkmdknlcemaaGreatDoor
namespace Go.Proofs.YtgpfkmdknlcemaaGreatDoor
open Go.RowKit
set_option maxRecDepth 100000
def cX (K:KV):KE:=ac Q (cd Tryz.f127 [1,1]) (rk Tryz.f127 K) xf (rk Tryz.f127 K)
def fT (K:KV):KE:=ac Q (cd Tryz.f127 [1,0,1,0]) (cX K) (xx xf (cX K) 0) (rk Tryz.f127 K)
theorem oS {K:KV} {A0 id1:Value} {w:World}
  (h:fT K [A0,id1,undef,undef,ci 0,ci 0,undef,undef,undef,undef,undef,undef,undef,undef,undef,undef,undef,undef,undef,undef,undef,undef,undef,undef,undef,undef] w) :
  Gives Q 127 #[A0,id1] w K:=by
 refine aK Tryz.func127 (by kernel_rfl) ?_
 revert h
 delta fT cX
 exact fun h=>Eq.mp (by kernel_rfl) h
theorem oT:bD Q 127:=⟨_,Tryz.func127,by kernel_rfl,by kernel_rfl⟩
theorem nY {K:KV} {A0 id1 A1 id3 A3 i5 A4 A5 A6 A7 A8 A9 C0 C1 C2 C3 C4 C5 C6 C7 C8 C9 D0 D1 D2 D3:Value} {w:World} (Inv:Value→World→Prop) (μ:Value→World→Nat) (h0:Inv i5 w)
  (hs:∀ (i5':Value) (dd:Nat→Value) (w:World) (m:Nat),Inv i5' w→m=μ i5' w →
  aj A0 (fun A6=>aa Q 140 A6 0 fun A7=>ld Q 138 A7 fun A8=>blt Q Builtin.len #[138] 3 #[false] #[A8] fun A9=>bin Q BinOp.lss 3 false false i5' A9 fun C0 w=>cond C0 (aj A0 (fun C4=>aa Q 140 C4 0 fun C5=>ld Q 138 C5 fun C6=>af Q 138 C6 i5' fun C8=>aa Q 199 C8 0 fun C9=>ld Q 24 C9 fun D0=>bin Q BinOp.eql 24 false false D0 id1 fun D2 w=>cond D2 (K i5' w) (bin Q BinOp.add 3 false true i5' (ci 1) (fun C2 w=>(Inv C2 w)∧((μ C2 w)<m)) w)) w) (cX K [A0,id1,A1,id3,dd 4,i5',i5',A0,A6,A7,A8,A9,C0,dd 13,dd 14,dd 15,dd 16,dd 17,dd 18,dd 19,dd 20,dd 21,dd 22,dd 23,dd 24,dd 25] w)) w) :
  fT K [A0,id1,A1,id3,A3,i5,A4,A5,A6,A7,A8,A9,C0,C1,C2,C3,C4,C5,C6,C7,C8,C9,D0,D1,D2,D3] w:=by
 refine aB (cd Tryz.f127 [1,0,1,0,0]) [4,5,6,7,8,9,10,11,12,13,14,15,16,17,18,19,20,21,22,23,24,25] (by kernel_rfl) (fun e2 w2=>Inv (gd e2 5) w2) (fun e2 w2=>μ (gd e2 5) w2) h0 ?_
 intro e' w' hI
 have h:=hs (gd e' 5) (fun i=>gd e' i) w' _ hI rfl
 revert h
 generalize (cX K)=qc0
 exact fun h=>Eq.mp (by kernel_rfl) h
theorem nZ {K:KV} {A0 id1 A1 id3 A3 i5 A4 A5 A6 A7 A8 A9 C0 C1 C2 C3 C4 C5 C6 C7 C8 C9 D0 D1 D2 D3:Value} {w:World}
  (h:K (ci (-1)) w) :
  cX K [A0,id1,A1,id3,A3,i5,A4,A5,A6,A7,A8,A9,C0,C1,C2,C3,C4,C5,C6,C7,C8,C9,D0,D1,D2,D3] w:=by
 delta cX
 revert h
 exact fun h=>Eq.mp (by kernel_rfl) h
attribute [irreducible] cX fT
theorem pr {K:KV} {A0 id1:Value} {w:World}
  (h:call Q 127 #[A0,id1] (fun A5=>bin Q BinOp.geq 3 false true A5 (ci 0) K) w) :
  Gives Q 126 #[A0,id1] w K:=by
 refine aK Tryz.func126 (by kernel_rfl) ?_
 revert h
 exact fun h=>Eq.mp (by kernel_rfl) h
theorem pu:bD Q 126:=⟨_,Tryz.func126,by kernel_rfl,by kernel_rfl⟩
def cY (K:KV):KE:=ac Q (cd Tryz.f106 [1,1,1]) (rk Tryz.f106 K) xf (rk Tryz.f106 K)
def fU (K:KV):KE:=ac Q (cd Tryz.f106 [1,1,0,0]) (cY K) (xx xf (cY K) 0) (rk Tryz.f106 K)
theorem oU {K:KV} {A0 id1:Value} {w:World}
  (h:fU K [A0,id1,undef,undef,cN,cN,undef,undef,undef,undef,undef,undef,undef,undef,undef,undef,undef,undef,undef,undef,undef,undef,undef,undef,undef] w) :
  Gives Q 106 #[A0,id1] w K:=by
 refine aK Tryz.func106 (by kernel_rfl) ?_
 revert h
 delta fU cY
 exact fun h=>Eq.mp (by kernel_rfl) h
theorem oW:bD Q 106:=⟨_,Tryz.func106,by kernel_rfl,by kernel_rfl⟩
theorem o0 {K:KV} {A0 id1 A1 id3 A3 out5 A4 A5 A6 A7 A8 A9 C0 C1 C2 C3 C4 C5 C6 C7 C8 C9 D0 D1 D2:Value} {w:World} (Inv:Value→Value→World→Prop) (μ:Value→Value→World→Nat) (h0:Inv id1 out5 w)
  (hs:∀ (id1' out5':Value) (dd:Nat→Value) (w:World) (m:Nat),Inv id1' out5' w→m=μ id1' out5' w →
  call Q 127 #[A0,id1'] (fun A6=>bin Q BinOp.geq 3 false true A6 (ci 0) fun A7 w=>cond A7 (aJ Q 76 1 #[(0,id1')] (fun C0=>blt Q Builtin.append #[76,76] 76 #[false,false] #[out5',C0] fun C1 w=>aX (fun S w=>hld S (aj A0) fun C3=>hld S (aa Q 140 C3 0) fun C4=>hld S (ld Q 138 C4) fun C5=>call Q 127 #[A0,id1'] (fun C8=>dB S fun S w=>hld S (af Q 138 C5 C8) fun C9=>hld S (aa Q 199 C9 1) fun D0=>hld S (ld Q 24 D0) fun D1=>(Inv D1 C1 w)∧((μ D1 C1 w)<m)) w) w.drew) w) (cY K [A0,id1',A1,id3,A3,out5',A0,id1',A6,A7,dd 10,dd 11,dd 12,dd 13,dd 14,dd 15,dd 16,dd 17,dd 18,dd 19,dd 20,dd 21,dd 22,dd 23,D2] w)) w) :
  fU K [A0,id1,A1,id3,A3,out5,A4,A5,A6,A7,A8,A9,C0,C1,C2,C3,C4,C5,C6,C7,C8,C9,D0,D1,D2] w:=by
 refine aB (cd Tryz.f106 [1,1,0,0,0]) [1,5,6,7,8,9,10,11,12,13,14,15,16,17,18,19,20,21,22,23] (by kernel_rfl) (fun e2 w2=>Inv (gd e2 1) (gd e2 5) w2) (fun e2 w2=>μ (gd e2 1) (gd e2 5) w2) h0 ?_
 intro e' w' hI
 have h:=hs (gd e' 1) (gd e' 5) (fun i=>gd e' i) w' _ hI rfl
 revert h
 generalize (cY K)=qc0
 exact fun h=>Eq.mp (by kernel_rfl) h
theorem od {K:KV} {A0 id1 A1 id3 A3 out5 A4 A5 A6 A7 A8 A9 C0 C1 C2 C3 C4 C5 C6 C7 C8 C9 D0 D1 D2:Value} {w:World}
  (h:K out5 w) :
  cY K [A0,id1,A1,id3,A3,out5,A4,A5,A6,A7,A8,A9,C0,C1,C2,C3,C4,C5,C6,C7,C8,C9,D0,D1,D2] w:=by
 delta cY
 revert h
 exact fun h=>Eq.mp (by kernel_rfl) h
attribute [irreducible] cY fU
def fh (K:KV):KE:=ac Q (cd Tryz.f104 [1,1,1,1,1,1]) (rk Tryz.f104 K) xf (rk Tryz.f104 K)
def cJ (K:KV):KE:=ac Q (cd Tryz.f104 [1,1,1,1,1,1,1,1]) (rk Tryz.f104 K) xf (rk Tryz.f104 K)
def iC (K:KV):KE:=ac Q (cd Tryz.f104 [1,1,1,1,1,1,1,0,0]) (cJ K) (xx xf (cJ K) 0) (rk Tryz.f104 K)
theorem qw {K:KV} (xc0:Code) {A0 id1 parent2:Value} {w:World}
  (h:bin Q BinOp.eql 24 false true id1 (cu 0) (fun A7 w=>cond A7 (K (ci 1) w) (call Q 126 #[A0,id1] (fun C0 w=>cond C0 (K (ci 14) w) (bin Q BinOp.neq 24 false true parent2 (cu 0) (fun C2 w=>au C2 true (fun k16=>call Q 126 #[A0,parent2] (fun C6=>un Q UnOp.not C6 fun C7=>k16 [A0,parent2,C6,C7]) w) (fun k=>k [undef,undef,undef,undef] w) fun us16=>pick C2 (gd us16 3) cF fun C8 w=>cond C8 (K (ci 9) w) (aj A0 (fun D0=>aa Q 140 D0 0 fun D1=>ld Q 138 D1 fun D2=>blt Q Builtin.len #[138] 3 #[false] #[D2] fun D3=>bin Q BinOp.geq 3 false true D3 (ci 32) fun D4 w=>au D4 false (fun k28=>call Q 106 #[A0,parent2] (fun D8=>blt Q Builtin.len #[76] 3 #[false] #[D8] fun D9=>bin Q BinOp.geq 3 false true D9 (ci 4) fun E0=>k28 [A0,parent2,D8,D9,E0]) w) (fun k=>k [undef,undef,undef,undef,undef] w) fun us28=>pick D4 cT (gd us28 4) fun E1 w=>cond E1 (K (ci 6) w) (aj A0 (fun E3=>aa Q 140 E3 0 fun E4=>ld Q 138 E4 fun E5=>blt Q Builtin.len #[138] 3 #[false] #[E5] fun E6=>ac Q xc0 (rk Tryz.f104 K) (fun _ _ _=>False) (rk Tryz.f104 K) (A0::id1::parent2::undef::undef::undef::(ci 0)::E6::id1::A7::A0::id1::C0::parent2::C2::C2::(gd us16 0)::(gd us16 1)::(gd us16 2)::(gd us16 3)::C8::A0::D0::D1::D2::D3::D4::D4::(gd us28 0)::(gd us28 1)::(gd us28 2)::(gd us28 3)::(gd us28 4)::E1::A0::E3::E4::E5::E6::undef::undef::undef::undef::undef::undef::undef::undef::undef::undef::undef::undef::undef::undef::undef::undef::undef::undef::undef::undef::undef::undef::undef::undef::undef::undef::undef::undef::undef::undef::undef::undef::undef::undef::undef::undef::undef::undef::undef::undef::undef::undef::undef::undef::undef::undef::undef::undef::undef::undef::[])) w)) w)) w)) w)) w) :
  ac Q (rep [1,1,1,1,1,1] xc0 (cd Tryz.f104 [])) (rk Tryz.f104 K) xf (rk Tryz.f104 K) (A0::id1::parent2::undef::undef::undef::undef::undef::undef::undef::undef::undef::undef::undef::undef::undef::undef::undef::undef::undef::undef::undef::undef::undef::undef::undef::undef::undef::undef::undef::undef::undef::undef::undef::undef::undef::undef::undef::undef::undef::undef::undef::undef::undef::undef::undef::undef::undef::undef::undef::undef::undef::undef::undef::undef::undef::undef::undef::undef::undef::undef::undef::undef::undef::undef::undef::undef::undef::undef::undef::undef::undef::undef::undef::undef::undef::undef::undef::undef::undef::undef::undef::undef::undef::undef::undef::undef::undef::undef::[]) w:=Eq.mp (by kernel_rfl) h
theorem pw {K:KV} {A0 id1 parent2:Value} {w:World}
  (h:bin Q BinOp.eql 24 false true id1 (cu 0) (fun A7 w=>cond A7 (K (ci 1) w) (call Q 126 #[A0,id1] (fun C0 w=>cond C0 (K (ci 14) w) (bin Q BinOp.neq 24 false true parent2 (cu 0) (fun C2 w=>au C2 true (fun k16=>call Q 126 #[A0,parent2] (fun C6=>un Q UnOp.not C6 fun C7=>k16 [A0,parent2,C6,C7]) w) (fun k=>k [undef,undef,undef,undef] w) fun us16=>pick C2 (gd us16 3) cF fun C8 w=>cond C8 (K (ci 9) w) (aj A0 (fun D0=>aa Q 140 D0 0 fun D1=>ld Q 138 D1 fun D2=>blt Q Builtin.len #[138] 3 #[false] #[D2] fun D3=>bin Q BinOp.geq 3 false true D3 (ci 32) fun D4 w=>au D4 false (fun k28=>call Q 106 #[A0,parent2] (fun D8=>blt Q Builtin.len #[76] 3 #[false] #[D8] fun D9=>bin Q BinOp.geq 3 false true D9 (ci 4) fun E0=>k28 [A0,parent2,D8,D9,E0]) w) (fun k=>k [undef,undef,undef,undef,undef] w) fun us28=>pick D4 cT (gd us28 4) fun E1 w=>cond E1 (K (ci 6) w) (aj A0 (fun E3=>aa Q 140 E3 0 fun E4=>ld Q 138 E4 fun E5=>blt Q Builtin.len #[138] 3 #[false] #[E5] fun E6=>fh K (A0::id1::parent2::undef::undef::undef::(ci 0)::E6::id1::A7::A0::id1::C0::parent2::C2::C2::(gd us16 0)::(gd us16 1)::(gd us16 2)::(gd us16 3)::C8::A0::D0::D1::D2::D3::D4::D4::(gd us28 0)::(gd us28 1)::(gd us28 2)::(gd us28 3)::(gd us28 4)::E1::A0::E3::E4::E5::E6::undef::undef::undef::undef::undef::undef::undef::undef::undef::undef::undef::undef::undef::undef::undef::undef::undef::undef::undef::undef::undef::undef::undef::undef::undef::undef::undef::undef::undef::undef::undef::undef::undef::undef::undef::undef::undef::undef::undef::undef::undef::undef::undef::undef::undef::undef::undef::undef::undef::undef::[])) w)) w)) w)) w)) w) :
  Gives Q 104 #[A0,id1,parent2] w K:=aK Tryz.func104 (by kernel_rfl) (Eq.mp (congrArg (fun c=>ac Q c (rk Tryz.f104 K) xf (rk Tryz.f104 K) (A0::id1::parent2::undef::undef::undef::undef::undef::undef::undef::undef::undef::undef::undef::undef::undef::undef::undef::undef::undef::undef::undef::undef::undef::undef::undef::undef::undef::undef::undef::undef::undef::undef::undef::undef::undef::undef::undef::undef::undef::undef::undef::undef::undef::undef::undef::undef::undef::undef::undef::undef::undef::undef::undef::undef::undef::undef::undef::undef::undef::undef::undef::undef::undef::undef::undef::undef::undef::undef::undef::undef::undef::undef::undef::undef::undef::undef::undef::undef::undef::undef::undef::undef::undef::undef::undef::undef::undef::undef::[]) w) (by kernel_rfl:(rep [1,1,1,1,1,1] (cd Tryz.f104 [1,1,1,1,1,1]) (cd Tryz.f104 []))=(cd Tryz.f104 []))) (qw (cd Tryz.f104 [1,1,1,1,1,1]) h))
theorem px:bD Q 104:=⟨_,Tryz.func104,by kernel_rfl,by kernel_rfl⟩
section
variable {A0 id1 parent2 A2 id4 parent5 A4 at7 A6 A7 A8 A9 C0 C1 C2 C3 C4 C5 C6 C7 C8 C9 D0 D1 D2 D3 D4 D5 D6 D7 D8 D9 E0 E1 E2 E3 E4 E5 E6 E7 E8 E9 F0 F1 F2 F3 F4 F5 F6 F7 F8 F9 G0 G1 G2 G3 G4 G5 G6 G7 G8 G9 H0 H1 H2 H3 H4 H5 H6 H7 H8 H9 I0 I1 I2 I3 I4 I5 I6 I7 I8 I9 J0 J1 J2 J3 J4 J5 J6:Value}
theorem ow {K:KV} {w:World}
  (h:aj A0 (fun E9=>aa Q 140 E9 0 fun F0=>ld Q 138 F0 fun F1=>bld Q 199 #[] fun F2=>aJ Q 138 1 #[(0,F2)] fun F3=>blt Q Builtin.append #[138,138] 138 #[false,false] #[F1,F3] fun F4=>aj A0 fun F5=>aa Q 140 F5 0 fun F6=>sto Q 138 F6 F4 fun _=>ac Q (cd Tryz.f104 [1,1,1,1,1,1,1,0,0]) (ac Q (cd Tryz.f104 [1,1,1,1,1,1,1,1]) (rk Tryz.f104 K) (fun _ _ _=>False) (rk Tryz.f104 K)) (fun i=>@Bool.rec (fun _=>KE) ((fun _ _ _=>False) i) (ac Q (cd Tryz.f104 [1,1,1,1,1,1,1,1]) (rk Tryz.f104 K) (fun _ _ _=>False) (rk Tryz.f104 K)) (Nat.beq i 0)) (rk Tryz.f104 K) (A0::id1::parent2::A2::id4::parent5::A4::at7::A6::A7::A8::A9::C0::C1::C2::C3::C4::C5::C6::C7::C8::C9::D0::D1::D2::D3::D4::D5::D6::D7::D8::D9::E0::E1::E2::E3::E4::E5::E6::A0::A0::E9::F0::F1::F2::F3::F4::F5::F6::F7::F8::F9::G0::G1::G2::G3::G4::G5::G6::G7::G8::G9::H0::H1::H2::H3::H4::H5::H6::H7::H8::H9::I0::I1::I2::I3::I4::I5::I6::I7::I8::I9::J0::J1::J2::J3::J4::J5::J6::[])) w) :
  ac Q (cd Tryz.f104 [1,1,1,1,1,1]) (rk Tryz.f104 K) xf (rk Tryz.f104 K) (A0::id1::parent2::A2::id4::parent5::A4::at7::A6::A7::A8::A9::C0::C1::C2::C3::C4::C5::C6::C7::C8::C9::D0::D1::D2::D3::D4::D5::D6::D7::D8::D9::E0::E1::E2::E3::E4::E5::E6::E7::E8::E9::F0::F1::F2::F3::F4::F5::F6::F7::F8::F9::G0::G1::G2::G3::G4::G5::G6::G7::G8::G9::H0::H1::H2::H3::H4::H5::H6::H7::H8::H9::I0::I1::I2::I3::I4::I5::I6::I7::I8::I9::J0::J1::J2::J3::J4::J5::J6::[]) w:=Eq.mp (by kernel_rfl) h
theorem oA {K:KV} {w:World}
  (h:aj A0 (fun E9=>aa Q 140 E9 0 fun F0=>ld Q 138 F0 fun F1=>bld Q 199 #[] fun F2=>aJ Q 138 1 #[(0,F2)] fun F3=>blt Q Builtin.append #[138,138] 138 #[false,false] #[F1,F3] fun F4=>aj A0 fun F5=>aa Q 140 F5 0 fun F6=>sto Q 138 F6 F4 fun _=>iC K (A0::id1::parent2::A2::id4::parent5::A4::at7::A6::A7::A8::A9::C0::C1::C2::C3::C4::C5::C6::C7::C8::C9::D0::D1::D2::D3::D4::D5::D6::D7::D8::D9::E0::E1::E2::E3::E4::E5::E6::A0::A0::E9::F0::F1::F2::F3::F4::F5::F6::F7::F8::F9::G0::G1::G2::G3::G4::G5::G6::G7::G8::G9::H0::H1::H2::H3::H4::H5::H6::H7::H8::H9::I0::I1::I2::I3::I4::I5::I6::I7::I8::I9::J0::J1::J2::J3::J4::J5::J6::[])) w) :
  fh K (A0::id1::parent2::A2::id4::parent5::A4::at7::A6::A7::A8::A9::C0::C1::C2::C3::C4::C5::C6::C7::C8::C9::D0::D1::D2::D3::D4::D5::D6::D7::D8::D9::E0::E1::E2::E3::E4::E5::E6::E7::E8::E9::F0::F1::F2::F3::F4::F5::F6::F7::F8::F9::G0::G1::G2::G3::G4::G5::G6::G7::G8::G9::H0::H1::H2::H3::H4::H5::H6::H7::H8::H9::I0::I1::I2::I3::I4::I5::I6::I7::I8::I9::J0::J1::J2::J3::J4::J5::J6::[]) w:=by
 delta fh
 exact Eq.mp (congrArg (fun c=>ac Q c (rk Tryz.f104 K) xf (rk Tryz.f104 K) (A0::id1::parent2::A2::id4::parent5::A4::at7::A6::A7::A8::A9::C0::C1::C2::C3::C4::C5::C6::C7::C8::C9::D0::D1::D2::D3::D4::D5::D6::D7::D8::D9::E0::E1::E2::E3::E4::E5::E6::E7::E8::E9::F0::F1::F2::F3::F4::F5::F6::F7::F8::F9::G0::G1::G2::G3::G4::G5::G6::G7::G8::G9::H0::H1::H2::H3::H4::H5::H6::H7::H8::H9::I0::I1::I2::I3::I4::I5::I6::I7::I8::I9::J0::J1::J2::J3::J4::J5::J6::[]) w) (by kernel_rfl:(cd Tryz.f104 [1,1,1,1,1,1])=(cd Tryz.f104 [1,1,1,1,1,1]))) (ow h)
end
theorem oB {K:KV} (B1:KE) (qc0:KE) {A0 id1 parent2 A2 id4 parent5 A4 at7' A6 A7 A8 A9 C0 C1 C2 C3 C4 C5 C6 C7 C8 C9 D0 D1 D2 D3 D4 D5 D6 D7 D8 D9 E0 E1 E2 E3 E4 E5 E6 E7 E8 E9 F0 F1 F2 F3 F4 F5 F6 G0' G1' G2' G3' G4' G5' G6' G7' G8' G9' H0' I8 I9 J0 J1 J2 J3 J4 J5 J6:Value} {dd:Nat→Value} {w:World}
  (h:bin Q BinOp.gtr 3 false true at7' (ci 0) (fun F8 w=>au F8 true (fun k52=>aj A0 (fun G1=>aa Q 140 G1 0 fun G2=>ld Q 138 G2 fun G3=>bin Q BinOp.sub 3 false true at7' (ci 1) fun G5=>af Q 138 G3 G5 fun G6=>aa Q 199 G6 0 fun G7=>ld Q 24 G7 fun G8=>bin Q BinOp.gtr 24 false false G8 id1 fun H0=>k52 [A0,G1,G2,G3,at7',G5,G6,G7,G8,id1,H0]) w) (fun k=>k [undef,undef,undef,undef,undef,undef,undef,undef,undef,undef,undef] w) fun us52=>pick F8 (gd us52 10) cF fun H1 w=>cond H1 (sti (aj A0) (fun H3=>sti (aa Q 140 H3 0) fun H4=>sti (ld Q 138 H4) fun H5=>sti (aj A0) fun H8=>sti (aa Q 140 H8 0) fun H9=>sti (ld Q 138 H9) fun I0=>sti (bin Q BinOp.sub 3 false true at7' (ci 1)) fun I2=>sti (af Q 138 I0 I2) fun I3=>sti (ld Q 199 I3) fun I4=>sti (af Q 138 H5 at7') fun I5=>sto Q 199 I5 I4 fun _=>bin Q BinOp.sub 3 false true at7' (ci 1) fun I7=>B1 (A0::id1::parent2::A2::id4::parent5::A4::I7::A6::A7::A8::A9::C0::C1::C2::C3::C4::C5::C6::C7::C8::C9::D0::D1::D2::D3::D4::D5::D6::D7::D8::D9::E0::E1::E2::E3::E4::E5::E6::E7::E8::E9::F0::F1::F2::F3::F4::F5::F6::at7'::F8::F8::(gd us52 0)::(gd us52 1)::(gd us52 2)::(gd us52 3)::(gd us52 4)::(gd us52 5)::(gd us52 6)::(gd us52 7)::(gd us52 8)::(gd us52 9)::(gd us52 10)::H1::A0::H3::H4::H5::at7'::A0::H8::H9::I0::at7'::I2::I3::I4::I5::at7'::I7::I8::I9::J0::J1::J2::J3::J4::J5::J6::[])) w.drew) (qc0 (A0::id1::parent2::A2::id4::parent5::A4::at7'::A6::A7::A8::A9::C0::C1::C2::C3::C4::C5::C6::C7::C8::C9::D0::D1::D2::D3::D4::D5::D6::D7::D8::D9::E0::E1::E2::E3::E4::E5::E6::E7::E8::E9::F0::F1::F2::F3::F4::F5::F6::at7'::F8::F8::(gd us52 0)::(gd us52 1)::(gd us52 2)::(gd us52 3)::(gd us52 4)::(gd us52 5)::(gd us52 6)::(gd us52 7)::(gd us52 8)::(gd us52 9)::(gd us52 10)::H1::(dd 64)::(dd 65)::(dd 66)::(dd 67)::(dd 68)::(dd 69)::(dd 70)::(dd 71)::(dd 72)::(dd 73)::(dd 74)::(dd 75)::(dd 76)::(dd 77)::(dd 78)::(dd 79)::I8::I9::J0::J1::J2::J3::J4::J5::J6::[]) w)) w) :
  ac Q (cd Tryz.f104 [1,1,1,1,1,1,1,0,0,0]) B1 (xx xf qc0 0) (rk Tryz.f104 K) (A0::id1::parent2::A2::id4::parent5::A4::at7'::A6::A7::A8::A9::C0::C1::C2::C3::C4::C5::C6::C7::C8::C9::D0::D1::D2::D3::D4::D5::D6::D7::D8::D9::E0::E1::E2::E3::E4::E5::E6::E7::E8::E9::F0::F1::F2::F3::F4::F5::F6::(dd 49)::(dd 50)::(dd 51)::G0'::G1'::G2'::G3'::G4'::G5'::G6'::G7'::G8'::G9'::H0'::(dd 63)::(dd 64)::(dd 65)::(dd 66)::(dd 67)::(dd 68)::(dd 69)::(dd 70)::(dd 71)::(dd 72)::(dd 73)::(dd 74)::(dd 75)::(dd 76)::(dd 77)::(dd 78)::(dd 79)::I8::I9::J0::J1::J2::J3::J4::J5::J6::[]) w:=Eq.mp (by kernel_rfl) h
section
variable {A0 id1 parent2 A2 id4 parent5 A4 at7 A6 A7 A8 A9 C0 C1 C2 C3 C4 C5 C6 C7 C8 C9 D0 D1 D2 D3 D4 D5 D6 D7 D8 D9 E0 E1 E2 E3 E4 E5 E6 E7 E8 E9 F0 F1 F2 F3 F4 F5 F6 F7 F8 F9 G0 G1 G2 G3 G4 G5 G6 G7 G8 G9 H0 H1 H2 H3 H4 H5 H6 H7 H8 H9 I0 I1 I2 I3 I4 I5 I6 I7 I8 I9 J0 J1 J2 J3 J4 J5 J6:Value}
theorem oC {K:KV} {w:World} (Inv:Value→Value→Value→Value→Value→Value→Value→Value→Value→Value→Value→Value→World→Prop) (μ:Value→Value→Value→Value→Value→Value→Value→Value→Value→Value→Value→Value→World→Nat) (h0:Inv at7 G0 G1 G2 G3 G4 G5 G6 G7 G8 G9 H0 w)
  (hs:∀ (at7' G0' G1' G2' G3' G4' G5' G6' G7' G8' G9' H0':Value) (dd:Nat→Value) (w:World) (m:Nat),Inv at7' G0' G1' G2' G3' G4' G5' G6' G7' G8' G9' H0' w→m=μ at7' G0' G1' G2' G3' G4' G5' G6' G7' G8' G9' H0' w →
  bin Q BinOp.gtr 3 false true at7' (ci 0) (fun F8 w=>au F8 true (fun k52=>aj A0 (fun G1=>aa Q 140 G1 0 fun G2=>ld Q 138 G2 fun G3=>bin Q BinOp.sub 3 false true at7' (ci 1) fun G5=>af Q 138 G3 G5 fun G6=>aa Q 199 G6 0 fun G7=>ld Q 24 G7 fun G8=>bin Q BinOp.gtr 24 false false G8 id1 fun H0=>k52 [A0,G1,G2,G3,at7',G5,G6,G7,G8,id1,H0]) w) (fun k=>k [undef,undef,undef,undef,undef,undef,undef,undef,undef,undef,undef] w) fun us52=>pick F8 (gd us52 10) cF fun H1 w=>cond H1 (sti (aj A0) (fun H3=>sti (aa Q 140 H3 0) fun H4=>sti (ld Q 138 H4) fun H5=>sti (aj A0) fun H8=>sti (aa Q 140 H8 0) fun H9=>sti (ld Q 138 H9) fun I0=>sti (bin Q BinOp.sub 3 false true at7' (ci 1)) fun I2=>sti (af Q 138 I0 I2) fun I3=>sti (ld Q 199 I3) fun I4=>sti (af Q 138 H5 at7') fun I5=>sto Q 199 I5 I4 fun _=>bin Q BinOp.sub 3 false true at7' (ci 1) fun I7 w=>(Inv I7 (gd us52 0) (gd us52 1) (gd us52 2) (gd us52 3) (gd us52 4) (gd us52 5) (gd us52 6) (gd us52 7) (gd us52 8) (gd us52 9) (gd us52 10) w)∧((μ I7 (gd us52 0) (gd us52 1) (gd us52 2) (gd us52 3) (gd us52 4) (gd us52 5) (gd us52 6) (gd us52 7) (gd us52 8) (gd us52 9) (gd us52 10) w)<m)) w.drew) (cJ K (A0::id1::parent2::A2::id4::parent5::A4::at7'::A6::A7::A8::A9::C0::C1::C2::C3::C4::C5::C6::C7::C8::C9::D0::D1::D2::D3::D4::D5::D6::D7::D8::D9::E0::E1::E2::E3::E4::E5::E6::E7::E8::E9::F0::F1::F2::F3::F4::F5::F6::at7'::F8::F8::(gd us52 0)::(gd us52 1)::(gd us52 2)::(gd us52 3)::(gd us52 4)::(gd us52 5)::(gd us52 6)::(gd us52 7)::(gd us52 8)::(gd us52 9)::(gd us52 10)::H1::(dd 64)::(dd 65)::(dd 66)::(dd 67)::(dd 68)::(dd 69)::(dd 70)::(dd 71)::(dd 72)::(dd 73)::(dd 74)::(dd 75)::(dd 76)::(dd 77)::(dd 78)::(dd 79)::I8::I9::J0::J1::J2::J3::J4::J5::J6::[]) w)) w) :
  iC K (A0::id1::parent2::A2::id4::parent5::A4::at7::A6::A7::A8::A9::C0::C1::C2::C3::C4::C5::C6::C7::C8::C9::D0::D1::D2::D3::D4::D5::D6::D7::D8::D9::E0::E1::E2::E3::E4::E5::E6::E7::E8::E9::F0::F1::F2::F3::F4::F5::F6::F7::F8::F9::G0::G1::G2::G3::G4::G5::G6::G7::G8::G9::H0::H1::H2::H3::H4::H5::H6::H7::H8::H9::I0::I1::I2::I3::I4::I5::I6::I7::I8::I9::J0::J1::J2::J3::J4::J5::J6::[]) w:=by
 refine aB (cd Tryz.f104 [1,1,1,1,1,1,1,0,0,0]) [7,49,50,51,52,53,54,55,56,57,58,59,60,61,62,63,64,65,66,67,68,69,70,71,72,73,74,75,76,77,78,79] (by kernel_rfl) (fun e2 w2=>Inv (gd e2 7) (gd e2 52) (gd e2 53) (gd e2 54) (gd e2 55) (gd e2 56) (gd e2 57) (gd e2 58) (gd e2 59) (gd e2 60) (gd e2 61) (gd e2 62) w2) (fun e2 w2=>μ (gd e2 7) (gd e2 52) (gd e2 53) (gd e2 54) (gd e2 55) (gd e2 56) (gd e2 57) (gd e2 58) (gd e2 59) (gd e2 60) (gd e2 61) (gd e2 62) w2) h0 ?_
 intro e' w' hI
 have h:=hs (gd e' 7) (gd e' 52) (gd e' 53) (gd e' 54) (gd e' 55) (gd e' 56) (gd e' 57) (gd e' 58) (gd e' 59) (gd e' 60) (gd e' 61) (gd e' 62) (fun i=>gd e' i) w' _ hI rfl
 have h2:ac Q (cd Tryz.f104 [1,1,1,1,1,1,1,0,0,0]) (fun e2 w2=>Inv (gd e2 7) (gd e2 52) (gd e2 53) (gd e2 54) (gd e2 55) (gd e2 56) (gd e2 57) (gd e2 58) (gd e2 59) (gd e2 60) (gd e2 61) (gd e2 62) w2∧μ (gd e2 7) (gd e2 52) (gd e2 53) (gd e2 54) (gd e2 55) (gd e2 56) (gd e2 57) (gd e2 58) (gd e2 59) (gd e2 60) (gd e2 61) (gd e2 62) w2 < μ (gd e' 7) (gd e' 52) (gd e' 53) (gd e' 54) (gd e' 55) (gd e' 56) (gd e' 57) (gd e' 58) (gd e' 59) (gd e' 60) (gd e' 61) (gd e' 62) w') (xx xf (cJ K) 0) (rk Tryz.f104 K) (A0::id1::parent2::A2::id4::parent5::A4::(gd e' 7)::A6::A7::A8::A9::C0::C1::C2::C3::C4::C5::C6::C7::C8::C9::D0::D1::D2::D3::D4::D5::D6::D7::D8::D9::E0::E1::E2::E3::E4::E5::E6::E7::E8::E9::F0::F1::F2::F3::F4::F5::F6::(gd e' 49)::(gd e' 50)::(gd e' 51)::(gd e' 52)::(gd e' 53)::(gd e' 54)::(gd e' 55)::(gd e' 56)::(gd e' 57)::(gd e' 58)::(gd e' 59)::(gd e' 60)::(gd e' 61)::(gd e' 62)::(gd e' 63)::(gd e' 64)::(gd e' 65)::(gd e' 66)::(gd e' 67)::(gd e' 68)::(gd e' 69)::(gd e' 70)::(gd e' 71)::(gd e' 72)::(gd e' 73)::(gd e' 74)::(gd e' 75)::(gd e' 76)::(gd e' 77)::(gd e' 78)::(gd e' 79)::I8::I9::J0::J1::J2::J3::J4::J5::J6::[]) w':=oB (fun e2 w2=>Inv (gd e2 7) (gd e2 52) (gd e2 53) (gd e2 54) (gd e2 55) (gd e2 56) (gd e2 57) (gd e2 58) (gd e2 59) (gd e2 60) (gd e2 61) (gd e2 62) w2∧μ (gd e2 7) (gd e2 52) (gd e2 53) (gd e2 54) (gd e2 55) (gd e2 56) (gd e2 57) (gd e2 58) (gd e2 59) (gd e2 60) (gd e2 61) (gd e2 62) w2 < μ (gd e' 7) (gd e' 52) (gd e' 53) (gd e' 54) (gd e' 55) (gd e' 56) (gd e' 57) (gd e' 58) (gd e' 59) (gd e' 60) (gd e' 61) (gd e' 62) w') (cJ K) (Eq.mp (by kernel_rfl) h)
 exact Eq.mp (by kernel_rfl) h2
theorem oD {K:KV} {w:World}
  (h:aj A0 (fun I9=>aa Q 140 I9 0 fun J0=>ld Q 138 J0 fun J1=>bld Q 199 #[(0,id1),(1,parent2)] fun J5=>af Q 138 J1 at7 fun J6=>sto Q 199 J6 J5 fun _=>K (ci 0)) w) :
  ac Q (cd Tryz.f104 [1,1,1,1,1,1,1,1]) (rk Tryz.f104 K) xf (rk Tryz.f104 K) (A0::id1::parent2::A2::id4::parent5::A4::at7::A6::A7::A8::A9::C0::C1::C2::C3::C4::C5::C6::C7::C8::C9::D0::D1::D2::D3::D4::D5::D6::D7::D8::D9::E0::E1::E2::E3::E4::E5::E6::E7::E8::E9::F0::F1::F2::F3::F4::F5::F6::F7::F8::F9::G0::G1::G2::G3::G4::G5::G6::G7::G8::G9::H0::H1::H2::H3::H4::H5::H6::H7::H8::H9::I0::I1::I2::I3::I4::I5::I6::I7::I8::I9::J0::J1::J2::J3::J4::J5::J6::[]) w:=Eq.mp (by kernel_rfl) h
theorem oE {K:KV} {w:World}
  (h:aj A0 (fun I9=>aa Q 140 I9 0 fun J0=>ld Q 138 J0 fun J1=>bld Q 199 #[(0,id1),(1,parent2)] fun J5=>af Q 138 J1 at7 fun J6=>sto Q 199 J6 J5 fun _=>K (ci 0)) w) :
  cJ K (A0::id1::parent2::A2::id4::parent5::A4::at7::A6::A7::A8::A9::C0::C1::C2::C3::C4::C5::C6::C7::C8::C9::D0::D1::D2::D3::D4::D5::D6::D7::D8::D9::E0::E1::E2::E3::E4::E5::E6::E7::E8::E9::F0::F1::F2::F3::F4::F5::F6::F7::F8::F9::G0::G1::G2::G3::G4::G5::G6::G7::G8::G9::H0::H1::H2::H3::H4::H5::H6::H7::H8::H9::I0::I1::I2::I3::I4::I5::I6::I7::I8::I9::J0::J1::J2::J3::J4::J5::J6::[]) w:=by
 delta cJ
 exact Eq.mp (congrArg (fun c=>ac Q c (rk Tryz.f104 K) xf (rk Tryz.f104 K) (A0::id1::parent2::A2::id4::parent5::A4::at7::A6::A7::A8::A9::C0::C1::C2::C3::C4::C5::C6::C7::C8::C9::D0::D1::D2::D3::D4::D5::D6::D7::D8::D9::E0::E1::E2::E3::E4::E5::E6::E7::E8::E9::F0::F1::F2::F3::F4::F5::F6::F7::F8::F9::G0::G1::G2::G3::G4::G5::G6::G7::G8::G9::H0::H1::H2::H3::H4::H5::H6::H7::H8::H9::I0::I1::I2::I3::I4::I5::I6::I7::I8::I9::J0::J1::J2::J3::J4::J5::J6::[]) w) (by kernel_rfl:(cd Tryz.f104 [1,1,1,1,1,1,1,1])=(cd Tryz.f104 [1,1,1,1,1,1,1,1]))) (oD h)
attribute [irreducible] fh cJ iC
end
theorem wd {K:KV} {origin0 seq1:Value} {w:World}
  (h:bin Q BinOp.lss 3 false true origin0 (ci 1) (fun A4 w=>au A4 false (fun k8=>bin Q BinOp.gtr 3 false true origin0 (ci 6) (fun A7=>k8 [origin0,A7]) w) (fun k=>k [undef,undef] w) fun us8=>pick A4 cT (gd us8 1) fun A8 w=>au A8 false (fun k12=>bin Q BinOp.lss 24 false true seq1 (cu 1) (fun C1=>k12 [seq1,C1]) w) (fun k=>k [undef,undef] w) fun us12=>pick A8 cT (gd us12 1) fun C2 w=>au C2 false (fun k16=>bin Q BinOp.geq 24 false true seq1 (cu 1099511627776) (fun C5=>k16 [seq1,C5]) w) (fun k=>k [undef,undef] w) fun us16=>pick C2 cT (gd us16 1) fun C6 w=>cond C6 (K (cu 0) w) (conv Q 3 24 origin0 (fun C8=>bin Q BinOp.shl 24 false true C8 (cu 40) fun C9=>bin Q BinOp.add 24 false false C9 seq1 K) w)) w) :
  Gives Q 103 #[origin0,seq1] w K:=by
 refine aK Tryz.func103 (by kernel_rfl) ?_
 revert h
 exact fun h=>Eq.mp (by kernel_rfl) h
theorem we:bD Q 103:=⟨_,Tryz.func103,by kernel_rfl,by kernel_rfl⟩
end Go.Proofs.YtgpfkmdknlcemaaGreatDoor
