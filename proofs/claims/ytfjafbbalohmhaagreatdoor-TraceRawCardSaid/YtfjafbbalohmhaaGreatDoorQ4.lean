/- Laid together: R29c R29d STrE TrcE Run RowG. -/
import Derived.Test.YtfjafbbalohmhaaGreatDoorQ3
import Derived.Test.YtfjafbbalohmhaaGreatDoorSh
import Derived.Test.YtfjafbbalohmhaaGreatDoorChecked
import Derived.Test.YtfjafbbalohmhaaGreatDoorQ2
import Derived.Test.YtfjafbbalohmhaaGreatDoorQ1
import Derived.Maps.AppendAt
namespace Go.Proofs.YtfjafbbalohmhaaGreatDoor
set_option maxRecDepth 100000
open Go.RowKit
theorem hG_f {v : Value} {want : Bool} {S : World → Prop} {s : KV → World → Prop} {k : Value → Prop} (hv : asB v ≠ some want) (hk : k undef) : hG v want S s k := ⟨undef, fun h => absurd h hv, fun _ => rfl, hk⟩
theorem xG_f {v : Value} {want : Bool} {s : KV → World → Prop} {K : KV} {w : World} (hv : asB v ≠ some want) (h : K undef w) : xG v want s K w := ⟨fun hh => absurd hh hv, fun _ => h⟩
theorem fA_Rdr_0 {w : World} {K : KV} {b o : Nat} (h : K (.pointer (some ⟨b, o + 0, none⟩)) w) : fldA Tryz.prog 80 (.pointer (some ⟨b, o, none⟩)) 0 K w := fldA_of (by kernel_rfl) h
theorem fA_Rdr_1 {w : World} {K : KV} {b o : Nat} (h : K (.pointer (some ⟨b, o + 1, none⟩)) w) : fldA Tryz.prog 80 (.pointer (some ⟨b, o, none⟩)) 1 K w := fldA_of (by kernel_rfl) h
theorem fA_Rdr_2 {w : World} {K : KV} {b o : Nat} (h : K (.pointer (some ⟨b, o + 2, none⟩)) w) : fldA Tryz.prog 80 (.pointer (some ⟨b, o, none⟩)) 2 K w := fldA_of (by kernel_rfl) h
structure GR (w0 w : World) (p q r : Nat) (a : Option Addr) (n c : Nat) (b : List UInt8) (st : EyS) (cs : List Value) : Prop where
  ey : blk w p 80 (eyC a n c st)
  sp : blk w q 27 cs
  rs : blk w r 27 stp0
  at_ : st.1 ≤ b.length
  bel : Below w0.heap.size w0 w
  rb : RB w0 a n c b
  pq : p ≠ q
  rp : r ≠ p
  rq : r ≠ q
  lp : w0.heap.size ≤ p
  lq : w0.heap.size ≤ q
attribute [local irreducible] bin un conv call callV blt slc fldA fld idxA idx lkp mUpd mEnt eSt rng nxt ent ext alc box bld bldS ld sto nilC mkMap mkS ifc pick rdy wts gsel sti cond retM Gives cCode cGrp cSeq cOp
section
variable {w : World} {K : KV}
theorem rnext_c {p : Nat} {a : Option Addr} {n c : Nat} {b : List UInt8} {st : EyS} {kk : Int} (k : Nat) (hp : blk w p 80 (eyC a n c st)) (hr : RB w a n c b) (hn : n ≤ 4611686018427387904) (hat : st.1 ≤ b.length) (hk : k = 1 ∨ k = 2 ∨ k = 4 ∨ k = 8) (hkk : kk = (k : Int))
    (h : ∀ w', blk w' p 80 (eyC a n c (gtE b st k).2) → Oth p w w' → K (.int .u64 ((gtE b st k).1 : Nat)) w') : call Tryz.prog 31 #[.pointer (some ⟨p, 0, none⟩), .int .i64 kk] K w := by
  subst hkk
  obtain ⟨i, sp⟩ := st
  have hlen := hr.len
  have hrd : RB w.drew a n c b := RV.drew hr
  refine call_of leatref29_reader_next_go (leatref29_reader_next_in ?_)
  refine hReg_of (fun x => blk x p 80 (eyC a n c (i, sp)) ∧ RB x a n c b) ⟨hp, hrd⟩ ?_
  refine hld_of (fun x hx K hK => nilC_p hK) ?_
  refine hld_of (fun x hx K hK => fA_Rdr_0 hK) ?_
  refine hld_of (v := .slice a n c) (fun x hx K hK => ld1 (fun _ => by kernel_rfl) hx.1 rfl hK) ?_
  refine hld_of (fun x hx K hK => nilC_p hK) ?_
  refine hld_of (fun x hx K hK => fA_Rdr_1 hK) ?_
  refine hld_of (v := i6 i) (fun x hx K hK => ld1 (fun _ => by kernel_rfl) hx.1 rfl hK) ?_
  unfold i6
  refine rtake_c hrd hn ?_
  have hpd : blk w.drew p 80 (eyC a n c (i, sp)) := hp
  refine hReg_of (fun _ => True) trivial ?_
  refine hld_of (fun x hx K hK => ext3_a hK) ?_
  refine hld_of (fun x hx K hK => ext3_b hK) ?_
  refine hld_of (fun x hx K hK => ext3_c hK) ?_
  refine nilC_p ?_
  refine fA_Rdr_2 ?_
  refine ld1 (v := .bool sp) (fun _ => by kernel_rfl) hpd rfl ?_
  have hat : i ≤ b.length := hat
  rw [takeS_get hk hat]
  have bad : (gtE b (i, sp) k) = (0, (i, true)) → (∀ w', blk w' p 80 (eyC a n c (i, true)) → Oth p w.drew w' → K (.int .u64 0) w') := by
    intro hq w' h1 h2
    rw [hq] at h
    exact h w' h1 ⟨h2.os, h2.tape, h2.output, h2.size, h2.other⟩
  have stop : (gtE b (i, sp) k) = (0, (i, true)) → nilC (.pointer (some ⟨p, 0, none⟩)) (fun t31 w => fldA Tryz.prog 80 t31 2 (fun t32 w => sto Tryz.prog 4 t32 (.bool true) (fun _t w => K (.int .u64 0) w) w) w) w.drew := by
    intro hq
    refine nilC_p ?_
    refine fA_Rdr_2 ?_
    refine sto1 (fun _ => by kernel_rfl) hpd (by simp [eyC]) rfl ?_
    intro w' h1 h2
    exact bad hq w' h1 h2
  cases sp with
  | true =>
    refine gsel_Tn ?_
    refine pick_T ?_
    refine cond_T ?_
    exact stop (by simp [gtE])
  | false =>
    refine gsel_Fn ?_
    by_cases hf : i + k ≤ b.length
    · rw [if_pos hf]
      refine bin_neq ?_
      refine pick_F ?_
      refine cond_f (by simp) ?_
      refine nilC_p ?_
      refine fA_Rdr_1 ?_
      refine sto1 (fun _ => by kernel_rfl) hpd (by simp [eyC]) rfl ?_
      intro w' h1 h2
      have hq : gtE b (i, false) k = (beNat ((b.drop i).take k), (i + k, false)) := by simp [gtE, hf]
      rw [hq] at h
      exact h w' h1 ⟨h2.os, h2.tape, h2.output, h2.size, h2.other⟩
    · rw [if_neg hf]
      refine bin_neq ?_
      refine pick_F ?_
      refine cond_t (by simp) ?_
      exact stop (by simp [gtE, hf])
variable {w0 : World} {p q r : Nat} {a : Option Addr} {n c : Nat} {b : List UInt8} {st : EyS} {cs : List Value}
theorem GR.now (h : GR w0 w p q r a n c b st cs) : RB w a n c b := RV.below h.rb h.bel (Nat.le_refl _)
theorem gr_get {kk : Int} (k : Nat) (hs : GR w0 w p q r a n c b st cs) (hn : n ≤ 4611686018427387904) (hk : k = 1 ∨ k = 2 ∨ k = 4 ∨ k = 8) (hkk : kk = (k : Int)) (h : ∀ w', GR w0 w' p q r a n c b (gtE b st k).2 cs → Oth p w w' → K (.int .u64 ((gtE b st k).1 : Nat)) w') :
    call Tryz.prog 31 #[.pointer (some ⟨p, 0, none⟩), .int .i64 kk] K w :=
  rnext_c k hs.ey hs.now hn hs.at_ hk hkk fun w' h1 h2 => h w' ⟨h1, oth_blk h2 hs.sp (Ne.symm hs.pq), oth_blk h2 hs.rs hs.rp, gtE_le hs.at_, oth_below hs.bel h2 hs.lp, hs.rb, hs.pq, hs.rp, hs.rq, hs.lp, hs.lq⟩ h2
theorem gr_sto {t : TypeId} {i : Nat} {v : Value} (hs : GR w0 w p q r a n c b st cs) (ht : ∀ w, (sizeOf t).run Tryz.prog w = .ok 1 w) (hi : i < cs.length) (hv : v.oneCell' = true) (h : ∀ w', GR w0 w' p q r a n c b st (cs.set i v) → Oth q w w' → K undef w') : sto Tryz.prog t (.pointer (some ⟨q, i, none⟩)) v K w :=
  sto1 ht hs.sp hi hv fun w' h1 h2 => h w' ⟨oth_blk h2 hs.ey hs.pq, h1, oth_blk h2 hs.rs hs.rq, hs.at_, oth_below hs.bel h2 hs.lq, hs.rb, hs.pq, hs.rp, hs.rq, hs.lp, hs.lq⟩ h2
theorem GR.fresh {w' : World} (hs : GR w0 w p q r a n c b st cs) (hb : Below w.heap.size w w') : GR w0 w' p q r a n c b st cs :=
  ⟨below_blk hb hs.ey hs.ey.lt, below_blk hb hs.sp hs.sp.lt, below_blk hb hs.rs hs.rs.lt, hs.at_, hs.bel.trans (hb.mono hs.bel.size), hs.rb, hs.pq, hs.rp, hs.rq, hs.lp, hs.lq⟩
theorem GR.drew (hs : GR w0 w p q r a n c b st cs) : GR w0 w.drew p q r a n c b st cs := ⟨hs.ey, hs.sp, hs.rs, hs.at_, hs.bel.drew, hs.rb, hs.pq, hs.rp, hs.rq, hs.lp, hs.lq⟩
theorem less_of {K2 : Value → KV} {x : Nat} (hx : x < 4294967296) (h : K2 (i6 x) (i6 ((x : Int) - 1)) w) : conv Tryz.prog 22 3 (.int .u64 (x : Nat)) (fun t w => bin Tryz.prog .sub 3 false true t (.int .i64 1) (K2 t) w) w := by
  refine cvUI (by omega) (by omega) ?_
  refine sub64 (by omega) (by omega) ?_
  exact h
set_option maxHeartbeats 4000000 in
theorem rgetP1_c {B : Nat} {b0 b1 t2 t3 r4 s5 n6 i7 t8 t9 t10 t11 t12 t13 t14 t15 t16 t17 t18 t19 t20 t21 t22 t23 t24 t25 t26 t27 t28 t29 t30 t31 t32 t33 t34 t35 t36 t37 t38 t39 t40 t41 t42 t43 t44 t45 t46 t47 t48 t49 t50 t51 t52 t53 t54 t55 t56 t57 t58 t59 t60 t61 t62 t63 t64 t65 t66 t67 t68 t69 t70 t71 t72 t73 t74 t75 t76 t77 t78 t79 t80 t81 t82 t83 t84 t85 t86 t87 t88 t89 t90 t91 t92 t93 t94 t95 t96 t97 t98 t99 t100 t101 t102 t103 t104 t105 t106 : Value} {s : STP} {av : Option Addr} {cv : Nat} (hs : GR w0 w p q r a n c b st (stC s (.slice av s.picks.length cv))) (hw : STW s) (hlen : b.length = n) (hn : n ≤ 4611686018427387904) (hon : ON w B av s.picks.length cv s.picks) (hpl : s.picks.length ≤ 1000)
    (h0 : ∀ w', ¬ (st.2 = false ∧ b ≠ [] ∧ putT s = b) → Below w0.heap.size w0 w' → K (.tuple #[.agg stp0.toArray, .int .i64 5]) w')
    (h1 : ∀ w', (st.2 = false ∧ b ≠ [] ∧ putT s = b) → Below w0.heap.size w0 w' → ON w' w0.heap.size av s.picks.length cv s.picks → K (.tuple #[.agg (stC s (.slice av s.picks.length cv)).toArray, .int .i64 0]) w')
    (hr0 : r = w0.heap.size) (hrB : r < B) (hqB : q < B) (e1 : r4 = .pointer (some ⟨p, 0, none⟩)) (e2 : s5 = .pointer (some ⟨q, 0, none⟩)) (e3 : t2 = .pointer (some ⟨r, 0, none⟩)) (e4 : b0 = .slice a n c) : leatref29_Get_P1 K ((b0 :: b1 :: t2 :: t3 :: r4 :: s5 :: n6 :: i7 :: t8 :: t9 :: t10 :: t11 :: t12 :: t13 :: t14 :: t15 :: t16 :: t17 :: t18 :: t19 :: t20 :: t21 :: t22 :: t23 :: t24 :: t25 :: t26 :: t27 :: t28 :: t29 :: t30 :: t31 :: t32 :: t33 :: t34 :: t35 :: t36 :: t37 :: t38 :: t39 :: t40 :: t41 :: t42 :: t43 :: t44 :: t45 :: t46 :: t47 :: t48 :: t49 :: t50 :: t51 :: t52 :: t53 :: t54 :: t55 :: t56 :: t57 :: t58 :: t59 :: t60 :: t61 :: t62 :: t63 :: t64 :: t65 :: t66 :: t67 :: t68 :: t69 :: t70 :: t71 :: t72 :: t73 :: t74 :: t75 :: t76 :: t77 :: t78 :: t79 :: t80 :: t81 :: t82 :: t83 :: t84 :: t85 :: t86 :: t87 :: t88 :: t89 :: t90 :: t91 :: t92 :: t93 :: t94 :: t95 :: t96 :: t97 :: t98 :: t99 :: t100 :: t101 :: t102 :: t103 :: t104 :: t105 :: t106 :: [])) w := by
  subst e1 e2 e3 e4
  refine leatref29_Get_P1_r ?_
  obtain ⟨i, sp⟩ := st
  have no : ∀ {w1 : World}, GR w0 w1 p q r a n c b (i, sp) (stC s (.slice av s.picks.length cv)) → ¬ (sp = false ∧ b ≠ [] ∧ putT s = b) → bld Tryz.prog 27 #[] (fun t91 w => sto Tryz.prog 27 (.pointer (some ⟨r, 0, none⟩)) t91 (fun _t w => retM Tryz.prog [(some 27, .pointer (some ⟨r, 0, none⟩)), (none, (.int .i64 5))] K w) w) w1 := by
    intro w1 hs1 hbad
    refine bld_of (vs := stp0) (by kernel_rfl) ?_
    refine stoA (n := 12) (vs := stp0) (by kernel_rfl) rfl hs1.rs (by simp [stp0]) (by simp [stp0, i6, Value.oneCell']) ?_
    intro w2 h2 o2
    refine retM_ct (v := .agg stp0.toArray) (fun K' hK' => ldA (n := 12) (vs := stp0) Tryz.underlying27 rfl (by kernel_rfl) h2 rfl rfl hK') ?_
    exact h0 w2 hbad (oth_below hs1.bel o2 (by omega))
  have yes : ∀ {w1 : World}, GR w0 w1 p q r a n c b (i, sp) (stC s (.slice av s.picks.length cv)) → ON w1 B av s.picks.length cv s.picks → (sp = false ∧ b ≠ [] ∧ putT s = b) → ld Tryz.prog 27 (.pointer (some ⟨q, 0, none⟩)) (fun t92 w => sto Tryz.prog 27 (.pointer (some ⟨r, 0, none⟩)) t92 (fun _t w => retM Tryz.prog [(some 27, .pointer (some ⟨r, 0, none⟩)), (none, (.int .i64 0))] K w) w) w1 := by
    intro w1 hs1 hrn1 x1
    refine ldA (n := 12) (vs := stC s (.slice av s.picks.length cv)) Tryz.underlying27 rfl (by kernel_rfl) hs1.sp rfl rfl ?_
    refine stoA (n := 12) (vs := stC s (.slice av s.picks.length cv)) (by kernel_rfl) rfl hs1.rs (by simp [stp0]) (by simp [stC, i6, Value.oneCell']) ?_
    intro w2 h2 o2
    refine retM_ct (v := .agg (stC s (.slice av s.picks.length cv)).toArray) (fun K' hK' => ldA (n := 12) (vs := stC s (.slice av s.picks.length cv)) Tryz.underlying27 rfl (by kernel_rfl) h2 rfl rfl hK') ?_
    refine h1 w2 x1 (oth_below hs1.bel o2 (by omega)) (OV.mono (ownS hrn1 fun k hk => o2.other k ?_) (by omega))
    have := (OV.block hrn1 k hk).1
    omega
  have hs := hs.drew
  have hon : ON w.drew B av s.picks.length cv s.picks := hon
  refine hReg_of (fun x => blk x p 80 (eyC a n c (i, sp)) ∧ RB x a n c b ∧ blk x q 27 (stC s (.slice av s.picks.length cv))) ⟨hs.ey, hs.now, hs.sp⟩ ?_
  refine hld_of (fun x hx K hK => nilC_p hK) ?_
  refine hld_of (fun x hx K hK => fA_Rdr_2 hK) ?_
  refine hld_of (v := .bool sp) (fun x hx K hK => ld1 (fun _ => by kernel_rfl) hx.1 rfl hK) ?_
  cases sp with
  | true =>
    have hf : asB (.bool true) ≠ some false := by simp [asB]
    refine hG_f hf ?_
    refine hG_f hf ?_
    refine hG_f hf ?_
    refine hld_of (fun x hx K hK => pick_T hK) ?_
    refine hG_f hf ?_
    refine hG_f hf ?_
    refine hG_f hf ?_
    refine xG_f hf ?_
    refine hSub_same ⟨hs.ey, hs.now, hs.sp⟩ ?_
    refine hG_f hf ?_
    refine hG_f hf ?_
    refine hld_of (fun x hx K hK => pick_T hK) ?_
    refine cond_T ?_
    exact no hs (by simp)
  | false =>
    have hT : asB (.bool false) = some false := rfl
    refine hG_t (x := .slice a n c) hT (fun x hx K hK => hK) ?_
    refine hG_t (x := .int .i64 n) hT (fun x hx K hK => lenB8 hK) ?_
    refine hG_t (x := .bool (decide ((n : Int) = 0))) hT (fun x hx K hK => bin_eql hK) ?_
    refine hld_of (v := .bool (decide ((n : Int) = 0))) (fun x hx K hK => pick_F hK) ?_
    by_cases hz : n = 0
    · have hf : asB (.bool (decide ((n : Int) = 0))) ≠ some false := by simp [asB, hz]
      have hb0 : b = [] := by cases b with | nil => rfl | cons x l => simp at hlen; omega
      have hz' : (n : Int) = 0 := by omega
      refine hG_f hf ?_
      refine hG_f hf ?_
      refine hG_f hf ?_
      refine xG_f hf ?_
      refine hSub_same ⟨hs.ey, hs.now, hs.sp⟩ ?_
      refine hG_f hf ?_
      refine hG_f hf ?_
      refine hld_of (fun x hx K hK => pick_t hz' hK) ?_
      refine cond_T ?_
      exact no hs (by simp [hb0])
    · have hz' : ¬ (n : Int) = 0 := by omega
      have ht : asB (.bool (decide ((n : Int) = 0))) = some false := asB_f hz'
      have hb0 : b ≠ [] := by rintro rfl; simp at hlen; omega
      refine hG_t (x := .agg (stC s (.slice av s.picks.length cv)).toArray) ht (fun x hx K hK => ldA (n := 12) (vs := stC s (.slice av s.picks.length cv)) Tryz.underlying27 rfl (by kernel_rfl) hx.2.2 rfl rfl hK) ?_
      refine hG_t (x := .slice a n c) ht (fun x hx K hK => hK) ?_
      refine hG_t (x := .string (bstr b)) ht (fun x hx K hK => str8 hx.2.1 hK) ?_
      refine xG_t ht ?_
      refine rput29_c hw (OV.rv hon) (by omega) ?_
      intro w2 a' n' c' hr' b2
      have hs2 := hs.fresh b2
      have hon2 : ON w2 B av s.picks.length cv s.picks := ownS hon fun k hk => b2.block k (OV.block hon k hk).2
      refine hSub_of (fun x => RB x a' n' c' (putT s) ∧ blk x p 80 (eyC a n c (i, false)) ∧ RB x a n c b ∧ blk x q 27 (stC s (.slice av s.picks.length cv))) (fun x hx => hx.2) ⟨hr', hs2.ey, hs2.now, hs2.sp⟩ ?_
      refine hG_t (x := .string (bstr (putT s))) ht (fun x hx K hK => str8 hx.1 hK) ?_
      refine hG_t (x := .bool (decide (putT s ≠ b))) ht (fun x hx K hK => bin_neqS hK) ?_
      refine hld_of (v := .bool (decide (putT s ≠ b))) (fun x hx K hK => pick_f hz' hK) ?_
      by_cases he : putT s = b
      · refine cond_f (fun hh => hh he) ?_
        exact yes hs2 hon2 ⟨rfl, hb0, he⟩
      · refine cond_t he ?_
        exact no hs2 (fun hh => he hh.2.2)
end
end Go.Proofs.YtfjafbbalohmhaaGreatDoor
namespace Go.Proofs.YtfjafbbalohmhaaGreatDoor
set_option maxRecDepth 100000
open Go.RowKit
attribute [local irreducible] bin un conv call callV blt slc fldA fld idxA idx lkp mUpd mEnt eSt rng nxt ent ext alc box bld bldS ld sto nilC mkMap mkS ifc pick rdy wts gsel sti cond retM Gives cCode cGrp cSeq cOp
section
variable {w : World} {K : KV} {a : Option Addr} {n c : Nat} {b : List UInt8}
set_option maxHeartbeats 4000000 in
theorem rget29_c (hr : RB w a n c b) (hn : n ≤ 4611686018427387904)
    (h : ∀ w' v, Below w.heap.size w w' → (match getP b with | none => v = .tuple #[.agg stp0.toArray, .int .i64 5] | some s => ∃ a' c', ON w' w.heap.size a' s.picks.length c' s.picks ∧ v = .tuple #[.agg (stC s (.slice a' s.picks.length c')).toArray, .int .i64 0]) → K v w') :
    call Tryz.prog 13 #[.slice a n c] K w := by
  have hlen := hr.len
  refine call_of leatref29_Get_go (leatref29_Get_in ?_)
  refine alc_of (z := .agg stp0.toArray) (by kernel_rfl) fun w1 hr1 b1 s1 => ?_
  have hr1 : blk w1 w.heap.size 27 stp0 := hr1
  refine bld_of (vs := eyC a n c (0, false)) (by kernel_rfl) ?_
  refine box_of fun w2 hp2 b2 s2 => ?_
  have hp2 : blk w2 w1.heap.size 80 (eyC a n c (0, false)) := hp2
  have lt1 : ∀ st : EyS, (gtE b st 1).1 < 256 := fun st => gtE_lt
  have lt2 : ∀ st : EyS, (gtE b st 2).1 < 4294967296 := fun st => Nat.lt_of_lt_of_le gtE_lt (by decide)
  have lt4 : ∀ st : EyS, (gtE b st 4).1 < 4294967296 := fun st => Nat.lt_of_lt_of_le gtE_lt (by decide)
  have hb12 : Below w.heap.size w w2 := b1.trans (b2.mono (by omega))
  refine rnext_c 1 hp2 (hr.below hb12 (Nat.le_refl _)) hn (Nat.zero_le _) (by simp) rfl fun w2' hp2' o2 => ?_
  have hr2' : blk w2' w.heap.size 27 stp0 := oth_blk o2 (below_blk b2 hr1 (by omega)) (by omega)
  have b2' : Below w.heap.size w w2' := oth_below hb12 o2 (by omega)
  have hsz : w2'.heap.size = w2.heap.size := o2.size
  refine convU8 (lt1 _) ?_
  refine bld_of (vs := stC ⟨(gtE b (0, false) 1).1, 0, 0, 0, 0, 0, 0, 0, 0, 0, 0, []⟩ (.slice none 0 0)) (by kernel_rfl) ?_
  refine alc_of (z := .agg stp0.toArray) (by kernel_rfl) fun w3 hq3 b3 s3 => ?_
  have hq3 : blk w3 w2'.heap.size 27 stp0 := hq3
  have hs : GR w w3 w1.heap.size w2'.heap.size w.heap.size a n c b (gtE b (0, false) 1).2 stp0 :=
    ⟨below_blk b3 hp2' hp2'.lt, hq3, below_blk b3 hr2' hr2'.lt, gtE_le (Nat.zero_le _), b2'.trans (b3.mono (by omega)), hr, by omega, by omega, by omega, by omega, by omega⟩
  refine stoA (n := 12) (vs := stC ⟨(gtE b (0, false) 1).1, 0, 0, 0, 0, 0, 0, 0, 0, 0, 0, []⟩ (.slice none 0 0)) (by kernel_rfl) rfl hs.sp (by simp [stp0]) (by simp [stC, i6, Value.oneCell']) fun w4 hq4 o4 => ?_
  have h4 : GR w w4 w1.heap.size w2'.heap.size w.heap.size a n c b (gtE b (0, false) 1).2 (stC ⟨(gtE b (0, false) 1).1, 0, 0, 0, 0, 0, 0, 0, 0, 0, 0, []⟩ (.slice none 0 0)) :=
    ⟨oth_blk o4 hs.ey hs.pq, hq4, oth_blk o4 hs.rs hs.rq, hs.at_, oth_below hs.bel o4 hs.lq, hs.rb, hs.pq, hs.rp, hs.rq, hs.lp, hs.lq⟩
  generalize w1.heap.size = p at *
  generalize w2'.heap.size = q at *
  clear b1 b2 b3 hr1 hp2 hq3 s1 s2 hs hq4 o4 hr2' b2' hb12 hp2' o2
  -- Who, J, K
  refine gr_get 2 h4 hn (by simp) rfl fun w5 h5 _ => ?_
  refine less_of (lt2 _) ?_
  refine fA_Stp_1 ?_
  refine gr_sto h5 (fun _ => by kernel_rfl) (by simp [stC]) rfl fun w6 h6 _ => ?_
  refine gr_get 2 h6 hn (by simp) rfl fun w7 h7 _ => ?_
  refine less_of (lt2 _) ?_
  refine fA_Stp_4 ?_
  refine gr_sto h7 (fun _ => by kernel_rfl) (by simp [stC]) rfl fun w8 h8 _ => ?_
  refine gr_get 2 h8 hn (by simp) rfl fun w9 h9 _ => ?_
  refine less_of (lt2 _) ?_
  refine fA_Stp_3 ?_
  refine gr_sto h9 (fun _ => by kernel_rfl) (by simp [stC]) rfl fun w10 h10 _ => ?_
  refine leatref29_Get_A1_r ?_
  -- N, Kind, Node, To, Amount
  refine gr_get 4 h10 hn (by simp) rfl fun w11 h11 _ => ?_
  refine less_of (lt4 _) ?_
  refine fA_Stp_5 ?_
  refine gr_sto h11 (fun _ => by kernel_rfl) (by simp [stC]) rfl fun w12 h12 _ => ?_
  refine gr_get 1 h12 hn (by simp) rfl fun w13 h13 _ => ?_
  refine convU8 (lt1 _) ?_
  refine fA_Stp_2 ?_
  refine fA_Tas_0 ?_
  refine gr_sto h13 (fun _ => by kernel_rfl) (by simp [stC]) rfl fun w14 h14 _ => ?_
  refine gr_get 8 h14 hn (by simp) rfl fun w15 h15 _ => ?_
  refine fA_Stp_2 ?_
  refine fA_Tas_1 ?_
  refine gr_sto h15 (fun _ => by kernel_rfl) (by simp [stC]) rfl fun w16 h16 _ => ?_
  refine gr_get 2 h16 hn (by simp) rfl fun w17 h17 _ => ?_
  refine less_of (lt2 _) ?_
  refine fA_Stp_2 ?_
  refine fA_Tas_2 ?_
  refine gr_sto h17 (fun _ => by kernel_rfl) (by simp [stC]) rfl fun w18 h18 _ => ?_
  refine gr_get 8 h18 hn (by simp) rfl fun w19 h19 _ => ?_
  refine bin_sub ?_
  refine convAm ?_
  refine fA_Stp_2 ?_
  refine fA_Tas_3 ?_
  refine gr_sto h19 (fun _ => by kernel_rfl) (by simp [stC]) rfl fun w20 h20 _ => ?_
  refine leatref29_Get_A2_r ?_
  refine gr_get 8 h20 hn (by simp) rfl fun w21 h21 _ => ?_
  refine fA_Stp_2 ?_
  refine fA_Tas_4 ?_
  refine gr_sto h21 (fun _ => by kernel_rfl) (by simp [stC]) rfl fun w22 h22 _ => ?_
  refine gr_get 8 h22 hn (by simp) rfl fun w23 h23 _ => ?_
  refine fA_Stp_2 ?_
  refine fA_Tas_5 ?_
  refine gr_sto h23 (fun _ => by kernel_rfl) (by simp [stC]) rfl fun w24 h24 _ => ?_
  refine gr_get 1 h24 hn (by simp) rfl fun w26 h26 _ => ?_
  have hs0 : GR w w26 p q w.heap.size a n c b (rdsT b (0, false)).st (stC (stpT (rdsT b (0, false)) []) (.slice none 0 0)) := h26
  clear h4 h5 h6 h7 h8 h9 h10 h11 h12 h13 h14 h15 h16 h17 h18 h19 h20 h21 h22 h23 h24 h26
  have hgp := getR_eq b
  unfold getR at hgp
  simp only at hgp
  have hcnt : (rdsT b (0, false)).cnt < 256 := lt1 _
  have hSW : ∀ l, STW (stpT (rdsT b (0, false)) l) := fun l => ⟨by have : (rdsT b (0, false)).d < 256 := lt1 _; simp only [stpT]; omega, by have : (rdsT b (0, false)).kind < 256 := lt1 _; simp only [stpT]; omega,
    by have : (rdsT b (0, false)).node < 256 ^ 8 := gtE_lt; simp only [stpT]; omega, by have : (rdsT b (0, false)).req < 256 ^ 8 := gtE_lt; simp only [stpT]; omega, by have : (rdsT b (0, false)).of_ < 256 ^ 8 := gtE_lt; simp only [stpT]; omega⟩
  have hcn : (gtE b (gtE b (gtE b (gtE b (gtE b (gtE b (gtE b (gtE b (gtE b (gtE b (gtE b (gtE b (0, false) 1).2 2).2 2).2 2).2 4).2 1).2 8).2 2).2 8).2 8).2 8).2 1).1 = (rdsT b (0, false)).cnt := rfl
  rw [hcn]
  refine cvUI (by omega) (by omega) ?_
  have hpl := pksE_len b (rdsT b (0, false)).cnt (rdsT b (0, false)).st
  generalize hfull : pksE b (rdsT b (0, false)).cnt (rdsT b (0, false)).st = full at hgp hpl
  refine leatref29_Get_L1_r (Inv := fun i _ _ _ _ _ wr => ∃ (m : Nat) (acc : List Int) (st : EyS) (a' : Option Addr) (c' : Nat), i = .int .i64 (((rdsT b (0, false)).cnt : Int) - (m : Nat)) ∧ m ≤ (rdsT b (0, false)).cnt ∧ GR w wr p q w.heap.size a n c b st (stC (stpT (rdsT b (0, false)) acc) (.slice a' acc.length c')) ∧ ON wr w26.heap.size a' acc.length c' acc ∧
      (acc ++ (pksE b m st).1, (pksE b m st).2) = full ∧ acc.length + m ≤ 256 ∧ w26.heap.size ≤ wr.heap.size)
    (μ := fun i _ _ _ _ _ _ => ((rdsT b (0, false)).cnt - intOf i).toNat) ⟨(rdsT b (0, false)).cnt, [], (rdsT b (0, false)).st, none, 0, by rw [Int.sub_self], Nat.le_refl _, hs0, OV.nil _ _ _, by simpa using hfull, by simp; omega, Nat.le_refl _⟩ ?_
  rintro _ _ _ _ _ _ dd w27 m0 ⟨m, acc, st, a', c', rfl, hmc, hs1, hon, hf, ham, hsz2⟩ hm0
  have hpq := hs0.sp.lt
  have hpp := hs0.ey.lt
  have hrr := hs0.rs.lt
  have fin0 : pksE b m st = ([], st) → full = (acc, st) := fun he => by rw [he] at hf; simpa using hf.symm
  have hW1 := hSW acc
  have fin1 : pksE b m st = ([], st) → ∀ w', ¬ (st.2 = false ∧ b ≠ [] ∧ putT (stpT (rdsT b (0, false)) acc) = b) → Below w.heap.size w w' → K (.tuple #[.agg stp0.toArray, .int .i64 5]) w' := by
    intro he w' hbad hb
    refine h w' _ hb ?_
    rw [fin0 he, if_neg hbad] at hgp
    rw [← hgp]
  have fin2 : pksE b m st = ([], st) → ∀ w', (st.2 = false ∧ b ≠ [] ∧ putT (stpT (rdsT b (0, false)) acc) = b) → Below w.heap.size w w' → ON w' w.heap.size a' acc.length c' acc → K (.tuple #[.agg (stC (stpT (rdsT b (0, false)) acc) (.slice a' acc.length c')).toArray, .int .i64 0]) w' := by
    intro he w' x1 hb hrn
    refine h w' _ hb ?_
    rw [fin0 he, if_pos x1] at hgp
    rw [← hgp]
    exact ⟨a', c', hrn, rfl⟩
  have hal : acc.length ≤ 1000 := by omega
  have hey := hs1.ey
  refine bin_lss ?_
  by_cases hm : m = 0
  · subst hm
    refine gsel_pf (by simp) ?_
    refine pick_f (by simp) ?_
    refine cond_F ?_
    exact rgetP1_c (s := stpT (rdsT b (0, false)) acc) hs1 hW1 hlen hn hon hal (fin1 rfl) (fin2 rfl) rfl hrr hpq rfl rfl rfl rfl
  have hlt : ((rdsT b (0, false)).cnt : Int) - (m : Nat) < (rdsT b (0, false)).cnt := by omega
  refine gsel_pt hlt ?_
  refine nilC_p ?_
  refine fA_Rdr_2 ?_
  obtain ⟨i, sp⟩ := st
  refine ld1 (v := .bool sp) (fun _ => by kernel_rfl) hey rfl ?_
  refine un_not ?_
  refine pick_t hlt ?_
  cases sp with
  | true =>
    rw [Bool.not_true]
    refine cond_F ?_
    have he : pksE b m (i, true) = ([], (i, true)) := by cases m <;> rfl
    exact rgetP1_c (s := stpT (rdsT b (0, false)) acc) hs1 hW1 hlen hn hon hal (fin1 he) (fin2 he) rfl hrr hpq rfl rfl rfl rfl
  | false =>
    rw [Bool.not_false]
    refine cond_T ?_
    obtain ⟨m, rfl⟩ := Nat.exists_eq_succ_of_ne_zero hm
    have he : pksE b (m + 1) (i, false) = ((((gtE b (i, false) 1).1 : Int) - 1) :: (pksE b m (gtE b (i, false) 1).2).1, (pksE b m (gtE b (i, false) 1).2).2) := rfl
    rw [Nat.succ_eq_add_one, he] at hf
    have hgl := lt1 (i, false)
    refine hReg_of (fun z => blk z q 27 (stC (stpT (rdsT b (0, false)) acc) (.slice a' acc.length c'))) hs1.drew.sp ?_
    refine hld_of (fun z hz K hK => fA_Stp_6 hK) ?_
    refine hld_of (v := .slice a' acc.length c') (fun z hz K hK => ld1 (fun _ => by kernel_rfl) hz rfl hK) ?_
    refine gr_get 1 hs1.drew hn (by simp) rfl fun w28 h28 o28 => ?_
    refine hSub_same h28.sp ?_
    refine hld_of (v := i6 ((gtE b (i, false) 1).1 : Nat)) (fun z hz K hK => cvUI (by omega) (by omega) hK) ?_
    refine hld_of (v := i6 (((gtE b (i, false) 1).1 : Nat) - 1)) (fun z hz K hK => sub64 (by omega) (by omega) hK) ?_
    generalize ((gtE b (i, false) 1).1 : Int) - 1 = x at hf
    have hon28 : ON w28 w26.heap.size a' acc.length c' acc := ownS hon fun k hk => o28.other k (by have := (OV.block hon k hk).1; omega)
    refine bldSG (vs := [i6 x]) Tryz.underlying25 (s := 1) (by kernel_rfl) (by kernel_rfl) (by omega) rfl (by simp) (by simp) (by simp) (by simp [Value.cells, i6]) ?_
    intro w29 hb29 b29 s29
    have hb29 : blk w29 w28.heap.size 3 [i6 x] := by simpa [Value.cells, i6] using hb29
    have h29 := h28.fresh b29
    refine hSub_same h29.sp ?_
    have hon29 : ON w29 w26.heap.size a' acc.length c' acc := ownS hon28 fun k hk => b29.block k (OV.block hon28 k hk).2
    have hsz28 : w28.heap.size = w27.heap.size := o28.size
    refine apN hon29 hb29 (by omega) (by omega) ?_
    intro a2 c2 w30 hon30 g30
    have hne : ∀ {k : Nat} {E : TypeId} {cs : List Value}, blk w29 k E cs → k < w26.heap.size → blk w30 k E cs := by
      intro k E cs hb hk
      unfold blk
      rw [g30.block k hb.lt (fun e => by have := (OV.block hon29 k e.symm).1; omega)]
      exact hb
    have b30 : Below w26.heap.size w29 w30 := below_of_grown g30 (by omega) (fun k hk => (OV.block hon29 k hk).1)
    have h30 : GR w w30 p q w.heap.size a n c b (gtE b (i, false) 1).2 (stC (stpT (rdsT b (0, false)) acc) (.slice a' acc.length c')) :=
      ⟨hne h29.ey hpp, hne h29.sp hpq, hne h29.rs hrr, h29.at_, h29.bel.trans (b30.mono (by omega)), h29.rb, h29.pq, h29.rp, h29.rq, h29.lp, h29.lq⟩
    refine hReg_of (fun _ => True) trivial ?_
    refine hld_of (fun z hz K hK => fA_Stp_6 hK) ?_
    refine gr_sto h30 (fun _ => by kernel_rfl) (by simp [stC]) rfl fun w31 h31 o31 => ?_
    have hon31 : ON w31 w26.heap.size a2 (acc.length + 1) c2 (acc ++ [x]) := ownS hon30 fun k hk => o31.other k (by have := (OV.block hon30 k hk).1; omega)
    refine add64 (by omega) (by omega) ?_
    have hs30 : w29.heap.size ≤ w30.heap.size := b30.size
    refine ⟨⟨m, acc ++ [x], (gtE b (i, false) 1).2, a2, c2, by congr 1; omega, by omega, ?_, ?_, ?_, by simp; omega, by rw [o31.size]; omega⟩, by rw [hm0]; simp only [intOf]; omega⟩
    · rw [List.length_append, List.length_singleton]; exact h31
    · rw [List.length_append, List.length_singleton]; exact hon31
    · rw [← hf]; simp
end
end Go.Proofs.YtfjafbbalohmhaaGreatDoor
namespace Go.Proofs.YtfjafbbalohmhaaGreatDoor
open Go.RowKit
set_option maxRecDepth 100000

def trace_each_P1 (K : KV) : KE := cCode Tryz.prog (cd Tryz.f32 [1, 1, 1, 1, 1]) (retK Tryz.prog Tryz.f32.results.toList K) (fun _ _ _ => False) (retK Tryz.prog Tryz.f32.results.toList K)
def trace_each_L1 (K : KV) : KE := cCode Tryz.prog (cd Tryz.f32 [1, 1, 1, 1, 0, 1, 0]) (trace_each_P1 K) (fun i => @Bool.rec (fun _ => KE) ((fun _ _ _ => False) i) (trace_each_P1 K) (Nat.beq i 0)) (retK Tryz.prog Tryz.f32.results.toList K)
def trace_each_P2 (K : KV) (B1 : KE) : KE := cCode Tryz.prog (cd Tryz.f32 [1, 1, 1, 1, 0, 1, 0, 0, 1, 1]) B1 (fun i => @Bool.rec (fun _ => KE) ((fun _ _ _ => False) i) (trace_each_P1 K) (Nat.beq i 0)) (retK Tryz.prog Tryz.f32.results.toList K)
def trace_each_A1 (K : KV) (B1 : KE) : KE := cCode Tryz.prog (cd Tryz.f32 [1, 1, 1, 1, 0, 1, 0, 0, 1, 0, 0, 1, 1, 1]) (trace_each_P2 K B1) (fun i => @Bool.rec (fun _ => KE) ((fun i => @Bool.rec (fun _ => KE) ((fun _ _ _ => False) i) (trace_each_P1 K) (Nat.beq i 0)) i) (trace_each_P2 K B1) (Nat.beq i 1)) (retK Tryz.prog Tryz.f32.results.toList K)
theorem trace_each_k {K : KV} {b0 take1 : Value} {w : World}
    (h : bld Tryz.prog 75 #[(0, b0)] (fun C3 w =>
    box Tryz.prog 75 C3 (fun C4 w =>
    call Tryz.prog 29 #[C4, (Value.int IntKind.i64 1)] (fun C6 w =>
    conv Tryz.prog 22 3 C6 (fun C7 w =>
    nilC C4 (fun C9 w =>
    fldA Tryz.prog 75 C9 2 (fun D0 w =>
    ld Tryz.prog 4 D0 (fun D1 w =>
    gsel D1 false (fun k23 =>
    bin Tryz.prog BinOp.lss 3 false true C7 (Value.int IntKind.i64 1) (fun D4 w =>
    k23 [C7, D4] w) w)
    (fun k => k [undef, undef] w) (fun us23 w =>
    pick D1 (Value.bool true) (gd us23 1) (fun D5 w =>
    gsel D5 false (fun k27 =>
    bin Tryz.prog BinOp.gtr 3 false true C7 (Value.int IntKind.i64 6) (fun D8 w =>
    k27 [C7, D8] w) w)
    (fun k => k [undef, undef] w) (fun us27 w =>
    pick D5 (Value.bool true) (gd us27 1) (fun D9 w =>
    cond D9
      (K (Value.tuple #[(Value.int IntKind.i64 0), (Value.bool false)]) w)
      ((cCode Tryz.prog (cd Tryz.f32 [1, 1, 1, 1, 0, 1, 0]) (cCode Tryz.prog (cd Tryz.f32 [1, 1, 1, 1, 1]) (retK Tryz.prog Tryz.f32.results.toList K) (fun _ _ _ => False) (retK Tryz.prog Tryz.f32.results.toList K)) (fun i => @Bool.rec (fun _ => KE) ((fun _ _ _ => False) i) (cCode Tryz.prog (cd Tryz.f32 [1, 1, 1, 1, 1]) (retK Tryz.prog Tryz.f32.results.toList K) (fun _ _ _ => False) (retK Tryz.prog Tryz.f32.results.toList K)) (Nat.beq i 0)) (retK Tryz.prog Tryz.f32.results.toList K)) (b0::take1::undef::undef::(Value.int IntKind.i64 0)::(Value.bool false)::C4::C7::(Value.int IntKind.i64 0)::undef::undef::undef::b0::C3::C4::C4::C6::C7::C4::C9::D0::D1::D1::(gd us23 0)::(gd us23 1)::D5::D5::(gd us27 0)::(gd us27 1)::D9::undef::undef::undef::undef::undef::undef::undef::undef::undef::undef::undef::undef::undef::undef::undef::undef::undef::undef::undef::undef::undef::undef::undef::undef::undef::undef::undef::undef::undef::undef::undef::undef::undef::undef::undef::undef::undef::undef::undef::undef::undef::undef::undef::undef::undef::undef::undef::undef::undef::undef::undef::undef::undef::undef::undef::undef::undef::undef::undef::undef::undef::undef::undef::undef::undef::[]) w)) w)) w)) w) w) w) w) w) w) w) :
    cCode Tryz.prog (cd Tryz.f32 []) (retK Tryz.prog Tryz.f32.results.toList K) (fun _ _ _ => False) (retK Tryz.prog Tryz.f32.results.toList K) (b0::take1::undef::undef::undef::undef::undef::undef::undef::undef::undef::undef::undef::undef::undef::undef::undef::undef::undef::undef::undef::undef::undef::undef::undef::undef::undef::undef::undef::undef::undef::undef::undef::undef::undef::undef::undef::undef::undef::undef::undef::undef::undef::undef::undef::undef::undef::undef::undef::undef::undef::undef::undef::undef::undef::undef::undef::undef::undef::undef::undef::undef::undef::undef::undef::undef::undef::undef::undef::undef::undef::undef::undef::undef::undef::undef::undef::undef::undef::undef::undef::undef::undef::undef::undef::undef::undef::undef::undef::undef::undef::undef::undef::undef::undef::[]) w := Eq.mp (by kernel_rfl) h

theorem trace_each_in {K : KV} {b0 take1 : Value} {w : World}
    (h : bld Tryz.prog 75 #[(0, b0)] (fun C3 w =>
    box Tryz.prog 75 C3 (fun C4 w =>
    call Tryz.prog 29 #[C4, (Value.int IntKind.i64 1)] (fun C6 w =>
    conv Tryz.prog 22 3 C6 (fun C7 w =>
    nilC C4 (fun C9 w =>
    fldA Tryz.prog 75 C9 2 (fun D0 w =>
    ld Tryz.prog 4 D0 (fun D1 w =>
    gsel D1 false (fun k23 =>
    bin Tryz.prog BinOp.lss 3 false true C7 (Value.int IntKind.i64 1) (fun D4 w =>
    k23 [C7, D4] w) w)
    (fun k => k [undef, undef] w) (fun us23 w =>
    pick D1 (Value.bool true) (gd us23 1) (fun D5 w =>
    gsel D5 false (fun k27 =>
    bin Tryz.prog BinOp.gtr 3 false true C7 (Value.int IntKind.i64 6) (fun D8 w =>
    k27 [C7, D8] w) w)
    (fun k => k [undef, undef] w) (fun us27 w =>
    pick D5 (Value.bool true) (gd us27 1) (fun D9 w =>
    cond D9
      (K (Value.tuple #[(Value.int IntKind.i64 0), (Value.bool false)]) w)
      ((trace_each_L1 K) (b0::take1::undef::undef::(Value.int IntKind.i64 0)::(Value.bool false)::C4::C7::(Value.int IntKind.i64 0)::undef::undef::undef::b0::C3::C4::C4::C6::C7::C4::C9::D0::D1::D1::(gd us23 0)::(gd us23 1)::D5::D5::(gd us27 0)::(gd us27 1)::D9::undef::undef::undef::undef::undef::undef::undef::undef::undef::undef::undef::undef::undef::undef::undef::undef::undef::undef::undef::undef::undef::undef::undef::undef::undef::undef::undef::undef::undef::undef::undef::undef::undef::undef::undef::undef::undef::undef::undef::undef::undef::undef::undef::undef::undef::undef::undef::undef::undef::undef::undef::undef::undef::undef::undef::undef::undef::undef::undef::undef::undef::undef::undef::undef::undef::[]) w)) w)) w)) w) w) w) w) w) w) w) :
    Gives Tryz.prog 32 #[b0, take1] w K := enter' Tryz.func32 (by kernel_rfl) (Eq.mp (congrArg (fun c => cCode Tryz.prog c (retK Tryz.prog Tryz.f32.results.toList K) (fun _ _ _ => False) (retK Tryz.prog Tryz.f32.results.toList K) (b0::take1::undef::undef::undef::undef::undef::undef::undef::undef::undef::undef::undef::undef::undef::undef::undef::undef::undef::undef::undef::undef::undef::undef::undef::undef::undef::undef::undef::undef::undef::undef::undef::undef::undef::undef::undef::undef::undef::undef::undef::undef::undef::undef::undef::undef::undef::undef::undef::undef::undef::undef::undef::undef::undef::undef::undef::undef::undef::undef::undef::undef::undef::undef::undef::undef::undef::undef::undef::undef::undef::undef::undef::undef::undef::undef::undef::undef::undef::undef::undef::undef::undef::undef::undef::undef::undef::undef::undef::undef::undef::undef::undef::undef::undef::[]) w) (by kernel_rfl : (cd Tryz.f32 []) = (cd Tryz.f32 []))) (trace_each_k h))
theorem trace_each_go : isGo Tryz.prog 32 := ⟨_, Tryz.func32, by kernel_rfl, by kernel_rfl⟩

theorem trace_each_L1_k {K : KV} (B1 : KE) (qc0 : KE) (xc0 : Code) {b0 take1 b2 take3 y6 n7 k_8' C2 C3 C4 C5 C6 C7 C8 C9 D0 D1 D2 D3 D4 D5 D6 D7 D8 D9 F7' F8' F9' G0' G1' G2' G3' G4' G5' G8' G9' L4 : Value} {dd : Nat → Value} {w : World}
    (h : nilC y6 (fun E1 w =>
    fldA Tryz.prog 75 E1 1 (fun E2 w =>
    ld Tryz.prog 3 E2 (fun E3 w =>
    blt Tryz.prog Builtin.len #[28] 3 #[false] #[b0] (fun E5 w =>
    bin Tryz.prog BinOp.lss 3 false false E3 E5 (fun E6 w =>
    cond E6
      (call Tryz.prog 29 #[y6, (Value.int IntKind.i64 2)] (fun F0 w =>
    conv Tryz.prog 22 3 F0 (fun F1 w =>
    nilC y6 (fun F3 w =>
    fldA Tryz.prog 75 F3 2 (fun F4 w =>
    ld Tryz.prog 4 F4 (fun F5 w =>
    gsel F5 false (fun k47 =>
    blt Tryz.prog Builtin.len #[28] 3 #[false] #[b0] (fun F9 w =>
    nilC y6 (fun G1 w =>
    fldA Tryz.prog 75 G1 1 (fun G2 w =>
    ld Tryz.prog 3 G2 (fun G3 w =>
    bin Tryz.prog BinOp.sub 3 false false F9 G3 (fun G4 w =>
    bin Tryz.prog BinOp.gtr 3 false false F1 G4 (fun G5 w =>
    k47 [F1, b0, F9, y6, G1, G2, G3, G4, G5] w) w) w) w) w) w) w)
    (fun k => k [undef, undef, undef, undef, undef, undef, undef, undef, undef] w) (fun us47 w =>
    pick F5 (Value.bool true) (gd us47 8) (fun G6 w =>
    gsel G6 false (fun k58 =>
    bin Tryz.prog BinOp.geq 3 false true k_8' (Value.int IntKind.i64 65536) (fun G9 w =>
    k58 [k_8', G9] w) w)
    (fun k => k [undef, undef] w) (fun us58 w =>
    pick G6 (Value.bool true) (gd us58 1) (fun H0 w =>
    cond H0
      (K (Value.tuple #[(Value.int IntKind.i64 0), (Value.bool false)]) w)
      (hReg (fun S w =>
    hld S (fun k w => nilC y6 k w) (fun H4 =>
    hld S (fun k w => fldA Tryz.prog 75 H4 1 k w) (fun H5 =>
    hld S (fun k w => ld Tryz.prog 3 H5 k w) (fun H6 =>
    hld S (fun k w => nilC y6 k w) (fun H8 =>
    hld S (fun k w => fldA Tryz.prog 75 H8 1 k w) (fun H9 =>
    hld S (fun k w => ld Tryz.prog 3 H9 k w) (fun I0 =>
    hld (fun _ => True) (fun k w => bin Tryz.prog BinOp.add 3 false false I0 F1 k w) (fun I2 =>
    hld S (fun k w => slc Tryz.prog 28 b0 (some H6) (some I2) none k w) (fun I3 =>
    (call Tryz.prog 12 #[I3] (fun I4 w =>
    hReg (fun S w =>
    hld S (fun k w => ext Tryz.prog I4 0 k w) (fun I5 =>
    hld S (fun k w => ext Tryz.prog I4 1 k w) (fun I6 =>
    alc Tryz.prog 27 (fun s10 w =>
    hSub S (fun S w =>
    sto Tryz.prog 27 s10 I5 (fun _t w =>
    hSub S (fun S w =>
    (cCode Tryz.prog xc0 (cCode Tryz.prog (cd Tryz.f32 [1, 1, 1, 1, 0, 1, 0, 0, 1, 1]) B1 (fun i => @Bool.rec (fun _ => KE) ((fun _ _ _ => False) i) qc0 (Nat.beq i 0)) (retK Tryz.prog Tryz.f32.results.toList K)) (fun i => @Bool.rec (fun _ => KE) ((fun i => @Bool.rec (fun _ => KE) ((fun _ _ _ => False) i) qc0 (Nat.beq i 0)) i) (cCode Tryz.prog (cd Tryz.f32 [1, 1, 1, 1, 0, 1, 0, 0, 1, 1]) B1 (fun i => @Bool.rec (fun _ => KE) ((fun _ _ _ => False) i) qc0 (Nat.beq i 0)) (retK Tryz.prog Tryz.f32.results.toList K)) (Nat.beq i 1)) (retK Tryz.prog Tryz.f32.results.toList K)) (b0::take1::b2::take3::(dd 4)::(dd 5)::y6::n7::k_8'::F1::s10::I6::C2::C3::C4::C5::C6::C7::C8::C9::D0::D1::D2::D3::D4::D5::D6::D7::D8::D9::y6::E1::E2::E3::b0::E5::E6::(dd 37)::(dd 38)::y6::F0::F1::y6::F3::F4::F5::F5::(gd us47 0)::(gd us47 1)::(gd us47 2)::(gd us47 3)::(gd us47 4)::(gd us47 5)::(gd us47 6)::(gd us47 7)::(gd us47 8)::G6::G6::(gd us58 0)::(gd us58 1)::H0::I4::b0::y6::H4::H5::H6::y6::H8::H9::I0::F1::I2::I3::I4::I5::I6::(dd 77)::(dd 78)::(dd 79)::(dd 80)::(dd 81)::(dd 82)::(dd 83)::(dd 84)::(dd 85)::(dd 86)::(dd 87)::(dd 88)::(dd 89)::(dd 90)::(dd 91)::(dd 92)::(dd 93)::L4::[]) w) w) w) w) w))) w) w) ∧ (alc Tryz.prog 27 (fun s10 w =>
    hSub S (fun S w =>
    call Tryz.prog 12 #[I3] (fun I4 w =>
    hReg (fun S w =>
    hld S (fun k w => ext Tryz.prog I4 0 k w) (fun I5 =>
    hld S (fun k w => ext Tryz.prog I4 1 k w) (fun I6 =>
    sto Tryz.prog 27 s10 I5 (fun _t w =>
    hSub S (fun S w =>
    (cCode Tryz.prog xc0 (cCode Tryz.prog (cd Tryz.f32 [1, 1, 1, 1, 0, 1, 0, 0, 1, 1]) B1 (fun i => @Bool.rec (fun _ => KE) ((fun _ _ _ => False) i) qc0 (Nat.beq i 0)) (retK Tryz.prog Tryz.f32.results.toList K)) (fun i => @Bool.rec (fun _ => KE) ((fun i => @Bool.rec (fun _ => KE) ((fun _ _ _ => False) i) qc0 (Nat.beq i 0)) i) (cCode Tryz.prog (cd Tryz.f32 [1, 1, 1, 1, 0, 1, 0, 0, 1, 1]) B1 (fun i => @Bool.rec (fun _ => KE) ((fun _ _ _ => False) i) qc0 (Nat.beq i 0)) (retK Tryz.prog Tryz.f32.results.toList K)) (Nat.beq i 1)) (retK Tryz.prog Tryz.f32.results.toList K)) (b0::take1::b2::take3::(dd 4)::(dd 5)::y6::n7::k_8'::F1::s10::I6::C2::C3::C4::C5::C6::C7::C8::C9::D0::D1::D2::D3::D4::D5::D6::D7::D8::D9::y6::E1::E2::E3::b0::E5::E6::(dd 37)::(dd 38)::y6::F0::F1::y6::F3::F4::F5::F5::(gd us47 0)::(gd us47 1)::(gd us47 2)::(gd us47 3)::(gd us47 4)::(gd us47 5)::(gd us47 6)::(gd us47 7)::(gd us47 8)::G6::G6::(gd us58 0)::(gd us58 1)::H0::I4::b0::y6::H4::H5::H6::y6::H8::H9::I0::F1::I2::I3::I4::I5::I6::(dd 77)::(dd 78)::(dd 79)::(dd 80)::(dd 81)::(dd 82)::(dd 83)::(dd 84)::(dd 85)::(dd 86)::(dd 87)::(dd 88)::(dd 89)::(dd 90)::(dd 91)::(dd 92)::(dd 93)::L4::[]) w) w) w))) w) w) w) w)))))))))) w.drew)) w)) w)) w) w) w) w) w)
      (qc0 (b0::take1::b2::take3::(dd 4)::(dd 5)::y6::n7::k_8'::(dd 9)::(dd 10)::(dd 11)::C2::C3::C4::C5::C6::C7::C8::C9::D0::D1::D2::D3::D4::D5::D6::D7::D8::D9::y6::E1::E2::E3::b0::E5::E6::(dd 37)::(dd 38)::(dd 39)::(dd 40)::(dd 41)::(dd 42)::(dd 43)::(dd 44)::(dd 45)::(dd 46)::F7'::F8'::F9'::G0'::G1'::G2'::G3'::G4'::G5'::(dd 56)::(dd 57)::G8'::G9'::(dd 60)::(dd 61)::(dd 62)::(dd 63)::(dd 64)::(dd 65)::(dd 66)::(dd 67)::(dd 68)::(dd 69)::(dd 70)::(dd 71)::(dd 72)::(dd 73)::(dd 74)::(dd 75)::(dd 76)::(dd 77)::(dd 78)::(dd 79)::(dd 80)::(dd 81)::(dd 82)::(dd 83)::(dd 84)::(dd 85)::(dd 86)::(dd 87)::(dd 88)::(dd 89)::(dd 90)::(dd 91)::(dd 92)::(dd 93)::L4::[]) w)) w) w) w) w) w) :
    cCode Tryz.prog (rep [1, 0, 0, 1, 1, 1] xc0 (cd Tryz.f32 [1, 1, 1, 1, 0, 1, 0, 0])) B1 (fun i => @Bool.rec (fun _ => KE) ((fun _ _ _ => False) i) qc0 (Nat.beq i 0)) (retK Tryz.prog Tryz.f32.results.toList K) (b0::take1::b2::take3::(dd 4)::(dd 5)::y6::n7::k_8'::(dd 9)::(dd 10)::(dd 11)::C2::C3::C4::C5::C6::C7::C8::C9::D0::D1::D2::D3::D4::D5::D6::D7::D8::D9::(dd 30)::(dd 31)::(dd 32)::(dd 33)::(dd 34)::(dd 35)::(dd 36)::(dd 37)::(dd 38)::(dd 39)::(dd 40)::(dd 41)::(dd 42)::(dd 43)::(dd 44)::(dd 45)::(dd 46)::F7'::F8'::F9'::G0'::G1'::G2'::G3'::G4'::G5'::(dd 56)::(dd 57)::G8'::G9'::(dd 60)::(dd 61)::(dd 62)::(dd 63)::(dd 64)::(dd 65)::(dd 66)::(dd 67)::(dd 68)::(dd 69)::(dd 70)::(dd 71)::(dd 72)::(dd 73)::(dd 74)::(dd 75)::(dd 76)::(dd 77)::(dd 78)::(dd 79)::(dd 80)::(dd 81)::(dd 82)::(dd 83)::(dd 84)::(dd 85)::(dd 86)::(dd 87)::(dd 88)::(dd 89)::(dd 90)::(dd 91)::(dd 92)::(dd 93)::L4::[]) w := Eq.mp (by kernel_rfl) h

section
variable {b0 take1 b2 take3 A4 A5 y6 n7 k_8 size9 s10 e11 C2 C3 C4 C5 C6 C7 C8 C9 D0 D1 D2 D3 D4 D5 D6 D7 D8 D9 E0 E1 E2 E3 E4 E5 E6 E7 E8 E9 F0 F1 F2 F3 F4 F5 F6 F7 F8 F9 G0 G1 G2 G3 G4 G5 G6 G7 G8 G9 H0 H1 H2 H3 H4 H5 H6 H7 H8 H9 I0 I1 I2 I3 I4 I5 I6 I7 I8 I9 J0 J1 J2 J3 J4 J5 J6 J7 J8 J9 L0 L1 L2 L3 L4 : Value}
theorem trace_each_L1_r {K : KV} {w : World} (Inv : Value → Value → Value → Value → Value → Value → Value → Value → Value → Value → Value → Value → World → Prop) (μ : Value → Value → Value → Value → Value → Value → Value → Value → Value → Value → Value → Value → World → Nat) (h0 : Inv k_8 F7 F8 F9 G0 G1 G2 G3 G4 G5 G8 G9 w)
    (hs : ∀ (k_8' F7' F8' F9' G0' G1' G2' G3' G4' G5' G8' G9' : Value) (dd : Nat → Value) (w : World) (m : Nat), Inv k_8' F7' F8' F9' G0' G1' G2' G3' G4' G5' G8' G9' w → m = μ k_8' F7' F8' F9' G0' G1' G2' G3' G4' G5' G8' G9' w →
    nilC y6 (fun E1 w =>
    fldA Tryz.prog 75 E1 1 (fun E2 w =>
    ld Tryz.prog 3 E2 (fun E3 w =>
    blt Tryz.prog Builtin.len #[28] 3 #[false] #[b0] (fun E5 w =>
    bin Tryz.prog BinOp.lss 3 false false E3 E5 (fun E6 w =>
    cond E6
      (call Tryz.prog 29 #[y6, (Value.int IntKind.i64 2)] (fun F0 w =>
    conv Tryz.prog 22 3 F0 (fun F1 w =>
    nilC y6 (fun F3 w =>
    fldA Tryz.prog 75 F3 2 (fun F4 w =>
    ld Tryz.prog 4 F4 (fun F5 w =>
    gsel F5 false (fun k47 =>
    blt Tryz.prog Builtin.len #[28] 3 #[false] #[b0] (fun F9 w =>
    nilC y6 (fun G1 w =>
    fldA Tryz.prog 75 G1 1 (fun G2 w =>
    ld Tryz.prog 3 G2 (fun G3 w =>
    bin Tryz.prog BinOp.sub 3 false false F9 G3 (fun G4 w =>
    bin Tryz.prog BinOp.gtr 3 false false F1 G4 (fun G5 w =>
    k47 [F1, b0, F9, y6, G1, G2, G3, G4, G5] w) w) w) w) w) w) w)
    (fun k => k [undef, undef, undef, undef, undef, undef, undef, undef, undef] w) (fun us47 w =>
    pick F5 (Value.bool true) (gd us47 8) (fun G6 w =>
    gsel G6 false (fun k58 =>
    bin Tryz.prog BinOp.geq 3 false true k_8' (Value.int IntKind.i64 65536) (fun G9 w =>
    k58 [k_8', G9] w) w)
    (fun k => k [undef, undef] w) (fun us58 w =>
    pick G6 (Value.bool true) (gd us58 1) (fun H0 w =>
    cond H0
      (K (Value.tuple #[(Value.int IntKind.i64 0), (Value.bool false)]) w)
      (hReg (fun S w =>
    hld S (fun k w => nilC y6 k w) (fun H4 =>
    hld S (fun k w => fldA Tryz.prog 75 H4 1 k w) (fun H5 =>
    hld S (fun k w => ld Tryz.prog 3 H5 k w) (fun H6 =>
    hld S (fun k w => nilC y6 k w) (fun H8 =>
    hld S (fun k w => fldA Tryz.prog 75 H8 1 k w) (fun H9 =>
    hld S (fun k w => ld Tryz.prog 3 H9 k w) (fun I0 =>
    hld (fun _ => True) (fun k w => bin Tryz.prog BinOp.add 3 false false I0 F1 k w) (fun I2 =>
    hld S (fun k w => slc Tryz.prog 28 b0 (some H6) (some I2) none k w) (fun I3 =>
    (call Tryz.prog 12 #[I3] (fun I4 w =>
    hReg (fun S w =>
    hld S (fun k w => ext Tryz.prog I4 0 k w) (fun I5 =>
    hld S (fun k w => ext Tryz.prog I4 1 k w) (fun I6 =>
    alc Tryz.prog 27 (fun s10 w =>
    hSub S (fun S w =>
    sto Tryz.prog 27 s10 I5 (fun _t w =>
    hSub S (fun S w =>
    (trace_each_A1 K (fun e2 w2 => Inv (gd e2 8) (gd e2 47) (gd e2 48) (gd e2 49) (gd e2 50) (gd e2 51) (gd e2 52) (gd e2 53) (gd e2 54) (gd e2 55) (gd e2 58) (gd e2 59) w2 ∧ μ (gd e2 8) (gd e2 47) (gd e2 48) (gd e2 49) (gd e2 50) (gd e2 51) (gd e2 52) (gd e2 53) (gd e2 54) (gd e2 55) (gd e2 58) (gd e2 59) w2 < m)) (b0::take1::b2::take3::(dd 4)::(dd 5)::y6::n7::k_8'::F1::s10::I6::C2::C3::C4::C5::C6::C7::C8::C9::D0::D1::D2::D3::D4::D5::D6::D7::D8::D9::y6::E1::E2::E3::b0::E5::E6::(dd 37)::(dd 38)::y6::F0::F1::y6::F3::F4::F5::F5::(gd us47 0)::(gd us47 1)::(gd us47 2)::(gd us47 3)::(gd us47 4)::(gd us47 5)::(gd us47 6)::(gd us47 7)::(gd us47 8)::G6::G6::(gd us58 0)::(gd us58 1)::H0::I4::b0::y6::H4::H5::H6::y6::H8::H9::I0::F1::I2::I3::I4::I5::I6::(dd 77)::(dd 78)::(dd 79)::(dd 80)::(dd 81)::(dd 82)::(dd 83)::(dd 84)::(dd 85)::(dd 86)::(dd 87)::(dd 88)::(dd 89)::(dd 90)::(dd 91)::(dd 92)::(dd 93)::L4::[]) w) w) w) w) w))) w) w) ∧ (alc Tryz.prog 27 (fun s10 w =>
    hSub S (fun S w =>
    call Tryz.prog 12 #[I3] (fun I4 w =>
    hReg (fun S w =>
    hld S (fun k w => ext Tryz.prog I4 0 k w) (fun I5 =>
    hld S (fun k w => ext Tryz.prog I4 1 k w) (fun I6 =>
    sto Tryz.prog 27 s10 I5 (fun _t w =>
    hSub S (fun S w =>
    (trace_each_A1 K (fun e2 w2 => Inv (gd e2 8) (gd e2 47) (gd e2 48) (gd e2 49) (gd e2 50) (gd e2 51) (gd e2 52) (gd e2 53) (gd e2 54) (gd e2 55) (gd e2 58) (gd e2 59) w2 ∧ μ (gd e2 8) (gd e2 47) (gd e2 48) (gd e2 49) (gd e2 50) (gd e2 51) (gd e2 52) (gd e2 53) (gd e2 54) (gd e2 55) (gd e2 58) (gd e2 59) w2 < m)) (b0::take1::b2::take3::(dd 4)::(dd 5)::y6::n7::k_8'::F1::s10::I6::C2::C3::C4::C5::C6::C7::C8::C9::D0::D1::D2::D3::D4::D5::D6::D7::D8::D9::y6::E1::E2::E3::b0::E5::E6::(dd 37)::(dd 38)::y6::F0::F1::y6::F3::F4::F5::F5::(gd us47 0)::(gd us47 1)::(gd us47 2)::(gd us47 3)::(gd us47 4)::(gd us47 5)::(gd us47 6)::(gd us47 7)::(gd us47 8)::G6::G6::(gd us58 0)::(gd us58 1)::H0::I4::b0::y6::H4::H5::H6::y6::H8::H9::I0::F1::I2::I3::I4::I5::I6::(dd 77)::(dd 78)::(dd 79)::(dd 80)::(dd 81)::(dd 82)::(dd 83)::(dd 84)::(dd 85)::(dd 86)::(dd 87)::(dd 88)::(dd 89)::(dd 90)::(dd 91)::(dd 92)::(dd 93)::L4::[]) w) w) w))) w) w) w) w)))))))))) w.drew)) w)) w)) w) w) w) w) w)
      ((trace_each_P1 K) (b0::take1::b2::take3::(dd 4)::(dd 5)::y6::n7::k_8'::(dd 9)::(dd 10)::(dd 11)::C2::C3::C4::C5::C6::C7::C8::C9::D0::D1::D2::D3::D4::D5::D6::D7::D8::D9::y6::E1::E2::E3::b0::E5::E6::(dd 37)::(dd 38)::(dd 39)::(dd 40)::(dd 41)::(dd 42)::(dd 43)::(dd 44)::(dd 45)::(dd 46)::F7'::F8'::F9'::G0'::G1'::G2'::G3'::G4'::G5'::(dd 56)::(dd 57)::G8'::G9'::(dd 60)::(dd 61)::(dd 62)::(dd 63)::(dd 64)::(dd 65)::(dd 66)::(dd 67)::(dd 68)::(dd 69)::(dd 70)::(dd 71)::(dd 72)::(dd 73)::(dd 74)::(dd 75)::(dd 76)::(dd 77)::(dd 78)::(dd 79)::(dd 80)::(dd 81)::(dd 82)::(dd 83)::(dd 84)::(dd 85)::(dd 86)::(dd 87)::(dd 88)::(dd 89)::(dd 90)::(dd 91)::(dd 92)::(dd 93)::L4::[]) w)) w) w) w) w) w) :
    trace_each_L1 K (b0::take1::b2::take3::A4::A5::y6::n7::k_8::size9::s10::e11::C2::C3::C4::C5::C6::C7::C8::C9::D0::D1::D2::D3::D4::D5::D6::D7::D8::D9::E0::E1::E2::E3::E4::E5::E6::E7::E8::E9::F0::F1::F2::F3::F4::F5::F6::F7::F8::F9::G0::G1::G2::G3::G4::G5::G6::G7::G8::G9::H0::H1::H2::H3::H4::H5::H6::H7::H8::H9::I0::I1::I2::I3::I4::I5::I6::I7::I8::I9::J0::J1::J2::J3::J4::J5::J6::J7::J8::J9::L0::L1::L2::L3::L4::[]) w := by
  refine loop_rule (cd Tryz.f32 [1, 1, 1, 1, 0, 1, 0, 0]) [4, 5, 8, 9, 10, 11, 30, 31, 32, 33, 34, 35, 36, 37, 38, 39, 40, 41, 42, 43, 44, 45, 46, 47, 48, 49, 50, 51, 52, 53, 54, 55, 56, 57, 58, 59, 60, 61, 62, 63, 64, 65, 66, 67, 68, 69, 70, 71, 72, 73, 74, 75, 76, 77, 78, 79, 80, 81, 82, 83, 84, 85, 86, 87, 88, 89, 90, 91, 92, 93] (by kernel_rfl) (fun e2 w2 => Inv (gd e2 8) (gd e2 47) (gd e2 48) (gd e2 49) (gd e2 50) (gd e2 51) (gd e2 52) (gd e2 53) (gd e2 54) (gd e2 55) (gd e2 58) (gd e2 59) w2) (fun e2 w2 => μ (gd e2 8) (gd e2 47) (gd e2 48) (gd e2 49) (gd e2 50) (gd e2 51) (gd e2 52) (gd e2 53) (gd e2 54) (gd e2 55) (gd e2 58) (gd e2 59) w2) h0 ?_
  intro e' w' hI
  have h := hs (gd e' 8) (gd e' 47) (gd e' 48) (gd e' 49) (gd e' 50) (gd e' 51) (gd e' 52) (gd e' 53) (gd e' 54) (gd e' 55) (gd e' 58) (gd e' 59) (fun i => gd e' i) w' _ hI rfl
  have h2 : cCode Tryz.prog (rep [1, 0, 0, 1, 1, 1] (cd Tryz.f32 [1, 1, 1, 1, 0, 1, 0, 0, 1, 0, 0, 1, 1, 1]) (cd Tryz.f32 [1, 1, 1, 1, 0, 1, 0, 0])) (fun e2 w2 => Inv (gd e2 8) (gd e2 47) (gd e2 48) (gd e2 49) (gd e2 50) (gd e2 51) (gd e2 52) (gd e2 53) (gd e2 54) (gd e2 55) (gd e2 58) (gd e2 59) w2 ∧ μ (gd e2 8) (gd e2 47) (gd e2 48) (gd e2 49) (gd e2 50) (gd e2 51) (gd e2 52) (gd e2 53) (gd e2 54) (gd e2 55) (gd e2 58) (gd e2 59) w2 < μ (gd e' 8) (gd e' 47) (gd e' 48) (gd e' 49) (gd e' 50) (gd e' 51) (gd e' 52) (gd e' 53) (gd e' 54) (gd e' 55) (gd e' 58) (gd e' 59) w') (fun i => @Bool.rec (fun _ => KE) ((fun _ _ _ => False) i) (trace_each_P1 K) (Nat.beq i 0)) (retK Tryz.prog Tryz.f32.results.toList K) (b0::take1::b2::take3::(gd e' 4)::(gd e' 5)::y6::n7::(gd e' 8)::(gd e' 9)::(gd e' 10)::(gd e' 11)::C2::C3::C4::C5::C6::C7::C8::C9::D0::D1::D2::D3::D4::D5::D6::D7::D8::D9::(gd e' 30)::(gd e' 31)::(gd e' 32)::(gd e' 33)::(gd e' 34)::(gd e' 35)::(gd e' 36)::(gd e' 37)::(gd e' 38)::(gd e' 39)::(gd e' 40)::(gd e' 41)::(gd e' 42)::(gd e' 43)::(gd e' 44)::(gd e' 45)::(gd e' 46)::(gd e' 47)::(gd e' 48)::(gd e' 49)::(gd e' 50)::(gd e' 51)::(gd e' 52)::(gd e' 53)::(gd e' 54)::(gd e' 55)::(gd e' 56)::(gd e' 57)::(gd e' 58)::(gd e' 59)::(gd e' 60)::(gd e' 61)::(gd e' 62)::(gd e' 63)::(gd e' 64)::(gd e' 65)::(gd e' 66)::(gd e' 67)::(gd e' 68)::(gd e' 69)::(gd e' 70)::(gd e' 71)::(gd e' 72)::(gd e' 73)::(gd e' 74)::(gd e' 75)::(gd e' 76)::(gd e' 77)::(gd e' 78)::(gd e' 79)::(gd e' 80)::(gd e' 81)::(gd e' 82)::(gd e' 83)::(gd e' 84)::(gd e' 85)::(gd e' 86)::(gd e' 87)::(gd e' 88)::(gd e' 89)::(gd e' 90)::(gd e' 91)::(gd e' 92)::(gd e' 93)::L4::[]) w' := trace_each_L1_k (fun e2 w2 => Inv (gd e2 8) (gd e2 47) (gd e2 48) (gd e2 49) (gd e2 50) (gd e2 51) (gd e2 52) (gd e2 53) (gd e2 54) (gd e2 55) (gd e2 58) (gd e2 59) w2 ∧ μ (gd e2 8) (gd e2 47) (gd e2 48) (gd e2 49) (gd e2 50) (gd e2 51) (gd e2 52) (gd e2 53) (gd e2 54) (gd e2 55) (gd e2 58) (gd e2 59) w2 < μ (gd e' 8) (gd e' 47) (gd e' 48) (gd e' 49) (gd e' 50) (gd e' 51) (gd e' 52) (gd e' 53) (gd e' 54) (gd e' 55) (gd e' 58) (gd e' 59) w') (trace_each_P1 K) (cd Tryz.f32 [1, 1, 1, 1, 0, 1, 0, 0, 1, 0, 0, 1, 1, 1]) (Eq.mp (by kernel_rfl) h)
  exact Eq.mp (by kernel_rfl) h2

theorem trace_each_A1_k {K : KV} (B1 : KE) (qc0 : KE) (qc1 : KE) {w : World}
    (h : bin Tryz.prog BinOp.neq 34 false true e11 (Value.int IntKind.i64 0) (fun I8 w =>
    cond I8
      (K (Value.tuple #[(Value.int IntKind.i64 0), (Value.bool false)]) w)
      (nilC y6 (fun J0 w =>
    fldA Tryz.prog 75 J0 1 (fun J1 w =>
    ld Tryz.prog 3 J1 (fun J2 w =>
    bin Tryz.prog BinOp.add 3 false false J2 size9 (fun J4 w =>
    nilC y6 (fun J5 w =>
    fldA Tryz.prog 75 J5 1 (fun J6 w =>
    sto Tryz.prog 3 J6 J4 (fun _t w =>
    hReg (fun S w =>
    hld S (fun k w => ld Tryz.prog 27 s10 k w) (fun J8 =>
    hld S (fun k w => nilC y6 k w) (fun L0 =>
    hld S (fun k w => fldA Tryz.prog 75 L0 1 k w) (fun L1 =>
    hld S (fun k w => ld Tryz.prog 3 L1 k w) (fun L2 =>
    callV Tryz.prog take1 #[J8, L2] (fun L3 w =>
    qc0 (b0::take1::b2::take3::A4::A5::y6::n7::k_8::size9::s10::e11::C2::C3::C4::C5::C6::C7::C8::C9::D0::D1::D2::D3::D4::D5::D6::D7::D8::D9::E0::E1::E2::E3::E4::E5::E6::E7::E8::E9::F0::F1::F2::F3::F4::F5::F6::F7::F8::F9::G0::G1::G2::G3::G4::G5::G6::G7::G8::G9::H0::H1::H2::H3::H4::H5::H6::H7::H8::H9::I0::I1::I2::I3::I4::I5::I6::e11::I8::y6::J0::J1::J2::size9::J4::J5::J6::take1::J8::y6::L0::L1::L2::L3::L4::[]) w) w))))) w.drew) w) w) w) w) w) w) w)) w) :
    cCode Tryz.prog (cd Tryz.f32 [1, 1, 1, 1, 0, 1, 0, 0, 1, 0, 0, 1, 1, 1]) qc0 (fun i => @Bool.rec (fun _ => KE) ((fun i => @Bool.rec (fun _ => KE) ((fun _ _ _ => False) i) qc1 (Nat.beq i 0)) i) qc0 (Nat.beq i 1)) (retK Tryz.prog Tryz.f32.results.toList K) (b0::take1::b2::take3::A4::A5::y6::n7::k_8::size9::s10::e11::C2::C3::C4::C5::C6::C7::C8::C9::D0::D1::D2::D3::D4::D5::D6::D7::D8::D9::E0::E1::E2::E3::E4::E5::E6::E7::E8::E9::F0::F1::F2::F3::F4::F5::F6::F7::F8::F9::G0::G1::G2::G3::G4::G5::G6::G7::G8::G9::H0::H1::H2::H3::H4::H5::H6::H7::H8::H9::I0::I1::I2::I3::I4::I5::I6::I7::I8::I9::J0::J1::J2::J3::J4::J5::J6::J7::J8::J9::L0::L1::L2::L3::L4::[]) w := Eq.mp (by kernel_rfl) h

theorem trace_each_A1_r {K : KV} {B1 : KE} {w : World}
    (h : bin Tryz.prog BinOp.neq 34 false true e11 (Value.int IntKind.i64 0) (fun I8 w =>
    cond I8
      (K (Value.tuple #[(Value.int IntKind.i64 0), (Value.bool false)]) w)
      (nilC y6 (fun J0 w =>
    fldA Tryz.prog 75 J0 1 (fun J1 w =>
    ld Tryz.prog 3 J1 (fun J2 w =>
    bin Tryz.prog BinOp.add 3 false false J2 size9 (fun J4 w =>
    nilC y6 (fun J5 w =>
    fldA Tryz.prog 75 J5 1 (fun J6 w =>
    sto Tryz.prog 3 J6 J4 (fun _t w =>
    hReg (fun S w =>
    hld S (fun k w => ld Tryz.prog 27 s10 k w) (fun J8 =>
    hld S (fun k w => nilC y6 k w) (fun L0 =>
    hld S (fun k w => fldA Tryz.prog 75 L0 1 k w) (fun L1 =>
    hld S (fun k w => ld Tryz.prog 3 L1 k w) (fun L2 =>
    callV Tryz.prog take1 #[J8, L2] (fun L3 w =>
    (trace_each_P2 K B1) (b0::take1::b2::take3::A4::A5::y6::n7::k_8::size9::s10::e11::C2::C3::C4::C5::C6::C7::C8::C9::D0::D1::D2::D3::D4::D5::D6::D7::D8::D9::E0::E1::E2::E3::E4::E5::E6::E7::E8::E9::F0::F1::F2::F3::F4::F5::F6::F7::F8::F9::G0::G1::G2::G3::G4::G5::G6::G7::G8::G9::H0::H1::H2::H3::H4::H5::H6::H7::H8::H9::I0::I1::I2::I3::I4::I5::I6::e11::I8::y6::J0::J1::J2::size9::J4::J5::J6::take1::J8::y6::L0::L1::L2::L3::L4::[]) w) w))))) w.drew) w) w) w) w) w) w) w)) w) :
    trace_each_A1 K B1 (b0::take1::b2::take3::A4::A5::y6::n7::k_8::size9::s10::e11::C2::C3::C4::C5::C6::C7::C8::C9::D0::D1::D2::D3::D4::D5::D6::D7::D8::D9::E0::E1::E2::E3::E4::E5::E6::E7::E8::E9::F0::F1::F2::F3::F4::F5::F6::F7::F8::F9::G0::G1::G2::G3::G4::G5::G6::G7::G8::G9::H0::H1::H2::H3::H4::H5::H6::H7::H8::H9::I0::I1::I2::I3::I4::I5::I6::I7::I8::I9::J0::J1::J2::J3::J4::J5::J6::J7::J8::J9::L0::L1::L2::L3::L4::[]) w := by
  delta trace_each_A1
  exact Eq.mp (congrArg (fun c => cCode Tryz.prog c (trace_each_P2 K B1) (fun i => @Bool.rec (fun _ => KE) ((fun i => @Bool.rec (fun _ => KE) ((fun _ _ _ => False) i) (trace_each_P1 K) (Nat.beq i 0)) i) (trace_each_P2 K B1) (Nat.beq i 1)) (retK Tryz.prog Tryz.f32.results.toList K) (b0::take1::b2::take3::A4::A5::y6::n7::k_8::size9::s10::e11::C2::C3::C4::C5::C6::C7::C8::C9::D0::D1::D2::D3::D4::D5::D6::D7::D8::D9::E0::E1::E2::E3::E4::E5::E6::E7::E8::E9::F0::F1::F2::F3::F4::F5::F6::F7::F8::F9::G0::G1::G2::G3::G4::G5::G6::G7::G8::G9::H0::H1::H2::H3::H4::H5::H6::H7::H8::H9::I0::I1::I2::I3::I4::I5::I6::I7::I8::I9::J0::J1::J2::J3::J4::J5::J6::J7::J8::J9::L0::L1::L2::L3::L4::[]) w) (by kernel_rfl : (cd Tryz.f32 [1, 1, 1, 1, 0, 1, 0, 0, 1, 0, 0, 1, 1, 1]) = (cd Tryz.f32 [1, 1, 1, 1, 0, 1, 0, 0, 1, 0, 0, 1, 1, 1]))) (trace_each_A1_k B1 (trace_each_P2 K B1) (trace_each_P1 K) h)

theorem trace_each_P1_k {K : KV} {w : World}
    (h : K (Value.tuple #[n7, (Value.bool true)]) w) :
    cCode Tryz.prog (cd Tryz.f32 [1, 1, 1, 1, 1]) (retK Tryz.prog Tryz.f32.results.toList K) (fun _ _ _ => False) (retK Tryz.prog Tryz.f32.results.toList K) (b0::take1::b2::take3::A4::A5::y6::n7::k_8::size9::s10::e11::C2::C3::C4::C5::C6::C7::C8::C9::D0::D1::D2::D3::D4::D5::D6::D7::D8::D9::E0::E1::E2::E3::E4::E5::E6::E7::E8::E9::F0::F1::F2::F3::F4::F5::F6::F7::F8::F9::G0::G1::G2::G3::G4::G5::G6::G7::G8::G9::H0::H1::H2::H3::H4::H5::H6::H7::H8::H9::I0::I1::I2::I3::I4::I5::I6::I7::I8::I9::J0::J1::J2::J3::J4::J5::J6::J7::J8::J9::L0::L1::L2::L3::L4::[]) w := Eq.mp (by kernel_rfl) h

theorem trace_each_P1_r {K : KV} {w : World}
    (h : K (Value.tuple #[n7, (Value.bool true)]) w) :
    trace_each_P1 K (b0::take1::b2::take3::A4::A5::y6::n7::k_8::size9::s10::e11::C2::C3::C4::C5::C6::C7::C8::C9::D0::D1::D2::D3::D4::D5::D6::D7::D8::D9::E0::E1::E2::E3::E4::E5::E6::E7::E8::E9::F0::F1::F2::F3::F4::F5::F6::F7::F8::F9::G0::G1::G2::G3::G4::G5::G6::G7::G8::G9::H0::H1::H2::H3::H4::H5::H6::H7::H8::H9::I0::I1::I2::I3::I4::I5::I6::I7::I8::I9::J0::J1::J2::J3::J4::J5::J6::J7::J8::J9::L0::L1::L2::L3::L4::[]) w := by
  delta trace_each_P1
  exact Eq.mp (congrArg (fun c => cCode Tryz.prog c (retK Tryz.prog Tryz.f32.results.toList K) (fun _ _ _ => False) (retK Tryz.prog Tryz.f32.results.toList K) (b0::take1::b2::take3::A4::A5::y6::n7::k_8::size9::s10::e11::C2::C3::C4::C5::C6::C7::C8::C9::D0::D1::D2::D3::D4::D5::D6::D7::D8::D9::E0::E1::E2::E3::E4::E5::E6::E7::E8::E9::F0::F1::F2::F3::F4::F5::F6::F7::F8::F9::G0::G1::G2::G3::G4::G5::G6::G7::G8::G9::H0::H1::H2::H3::H4::H5::H6::H7::H8::H9::I0::I1::I2::I3::I4::I5::I6::I7::I8::I9::J0::J1::J2::J3::J4::J5::J6::J7::J8::J9::L0::L1::L2::L3::L4::[]) w) (by kernel_rfl : (cd Tryz.f32 [1, 1, 1, 1, 1]) = (cd Tryz.f32 [1, 1, 1, 1, 1]))) (trace_each_P1_k h)

theorem trace_each_P2_k {K : KV} (B1 : KE) (qc0 : KE) {w : World}
    (h : bin Tryz.prog BinOp.add 3 false true k_8 (Value.int IntKind.i64 1) (fun E8 w =>
    B1 (b0::take1::b2::take3::A4::A5::y6::n7::E8::size9::s10::e11::C2::C3::C4::C5::C6::C7::C8::C9::D0::D1::D2::D3::D4::D5::D6::D7::D8::D9::E0::E1::E2::E3::E4::E5::E6::k_8::E8::E9::F0::F1::F2::F3::F4::F5::F6::F7::F8::F9::G0::G1::G2::G3::G4::G5::G6::G7::G8::G9::H0::H1::H2::H3::H4::H5::H6::H7::H8::H9::I0::I1::I2::I3::I4::I5::I6::I7::I8::I9::J0::J1::J2::J3::J4::J5::J6::J7::J8::J9::L0::L1::L2::L3::L4::[]) w) w) :
    cCode Tryz.prog (cd Tryz.f32 [1, 1, 1, 1, 0, 1, 0, 0, 1, 1]) B1 (fun i => @Bool.rec (fun _ => KE) ((fun _ _ _ => False) i) qc0 (Nat.beq i 0)) (retK Tryz.prog Tryz.f32.results.toList K) (b0::take1::b2::take3::A4::A5::y6::n7::k_8::size9::s10::e11::C2::C3::C4::C5::C6::C7::C8::C9::D0::D1::D2::D3::D4::D5::D6::D7::D8::D9::E0::E1::E2::E3::E4::E5::E6::E7::E8::E9::F0::F1::F2::F3::F4::F5::F6::F7::F8::F9::G0::G1::G2::G3::G4::G5::G6::G7::G8::G9::H0::H1::H2::H3::H4::H5::H6::H7::H8::H9::I0::I1::I2::I3::I4::I5::I6::I7::I8::I9::J0::J1::J2::J3::J4::J5::J6::J7::J8::J9::L0::L1::L2::L3::L4::[]) w := Eq.mp (by kernel_rfl) h

theorem trace_each_P2_r {K : KV} {B1 : KE} {w : World}
    (h : bin Tryz.prog BinOp.add 3 false true k_8 (Value.int IntKind.i64 1) (fun E8 w =>
    B1 (b0::take1::b2::take3::A4::A5::y6::n7::E8::size9::s10::e11::C2::C3::C4::C5::C6::C7::C8::C9::D0::D1::D2::D3::D4::D5::D6::D7::D8::D9::E0::E1::E2::E3::E4::E5::E6::k_8::E8::E9::F0::F1::F2::F3::F4::F5::F6::F7::F8::F9::G0::G1::G2::G3::G4::G5::G6::G7::G8::G9::H0::H1::H2::H3::H4::H5::H6::H7::H8::H9::I0::I1::I2::I3::I4::I5::I6::I7::I8::I9::J0::J1::J2::J3::J4::J5::J6::J7::J8::J9::L0::L1::L2::L3::L4::[]) w) w) :
    trace_each_P2 K B1 (b0::take1::b2::take3::A4::A5::y6::n7::k_8::size9::s10::e11::C2::C3::C4::C5::C6::C7::C8::C9::D0::D1::D2::D3::D4::D5::D6::D7::D8::D9::E0::E1::E2::E3::E4::E5::E6::E7::E8::E9::F0::F1::F2::F3::F4::F5::F6::F7::F8::F9::G0::G1::G2::G3::G4::G5::G6::G7::G8::G9::H0::H1::H2::H3::H4::H5::H6::H7::H8::H9::I0::I1::I2::I3::I4::I5::I6::I7::I8::I9::J0::J1::J2::J3::J4::J5::J6::J7::J8::J9::L0::L1::L2::L3::L4::[]) w := by
  delta trace_each_P2
  exact Eq.mp (congrArg (fun c => cCode Tryz.prog c B1 (fun i => @Bool.rec (fun _ => KE) ((fun _ _ _ => False) i) (trace_each_P1 K) (Nat.beq i 0)) (retK Tryz.prog Tryz.f32.results.toList K) (b0::take1::b2::take3::A4::A5::y6::n7::k_8::size9::s10::e11::C2::C3::C4::C5::C6::C7::C8::C9::D0::D1::D2::D3::D4::D5::D6::D7::D8::D9::E0::E1::E2::E3::E4::E5::E6::E7::E8::E9::F0::F1::F2::F3::F4::F5::F6::F7::F8::F9::G0::G1::G2::G3::G4::G5::G6::G7::G8::G9::H0::H1::H2::H3::H4::H5::H6::H7::H8::H9::I0::I1::I2::I3::I4::I5::I6::I7::I8::I9::J0::J1::J2::J3::J4::J5::J6::J7::J8::J9::L0::L1::L2::L3::L4::[]) w) (by kernel_rfl : (cd Tryz.f32 [1, 1, 1, 1, 0, 1, 0, 0, 1, 1]) = (cd Tryz.f32 [1, 1, 1, 1, 0, 1, 0, 0, 1, 1]))) (trace_each_P2_k B1 (trace_each_P1 K) h)
attribute [irreducible] trace_each_P1 trace_each_L1 trace_each_P2 trace_each_A1

def trace_Again_A1 (K : KV) : KE := cCode Tryz.prog (cd Tryz.f18 [1, 1, 1, 1, 1, 1, 1]) (retK Tryz.prog Tryz.f18.results.toList K) (fun _ _ _ => False) (retK Tryz.prog Tryz.f18.results.toList K)
end
theorem trace_Again_k {K : KV} (xc0 : Code) {b0 : Value} {w : World}
    (h : alc Tryz.prog 40 (fun steps5 w =>
    call Tryz.prog 32 #[b0, (Value.func (Fn.func 34) #[] #[steps5])] (fun C8 w =>
    ext Tryz.prog C8 0 (fun C9 w =>
    ext Tryz.prog C8 1 (fun D0 w =>
    un Tryz.prog UnOp.not D0 (fun D2 w =>
    cond D2
      (K (Value.tuple #[(Value.pointer none), (Value.slice none 0 0), (Value.int IntKind.i64 5)]) w)
      (call Tryz.prog 22 #[C9] (fun D5 w =>
    ext Tryz.prog D5 0 (fun D6 w =>
    ext Tryz.prog D5 1 (fun D7 w =>
    bin Tryz.prog BinOp.neq 34 false true D7 (Value.int IntKind.i64 0) (fun D9 w =>
    cond D9
      (K (Value.tuple #[(Value.pointer none), (Value.slice none 0 0), (Value.int IntKind.i64 5)]) w)
      ((cCode Tryz.prog xc0 (retK Tryz.prog Tryz.f18.results.toList K) (fun _ _ _ => False) (retK Tryz.prog Tryz.f18.results.toList K)) (b0::undef::(Value.pointer none)::(Value.slice none 0 0)::(Value.int IntKind.i64 0)::steps5::C9::D0::D6::D7::(Value.slice none 0 0)::undef::undef::undef::undef::C8::b0::(Value.func (Fn.func 34) #[] #[steps5])::C8::C9::D0::D0::D2::D5::C9::D5::D6::D7::D7::D9::undef::undef::undef::undef::undef::undef::undef::undef::undef::undef::undef::undef::undef::undef::undef::undef::undef::undef::undef::[]) w)) w) w) w) w)) w) w) w) w) w) :
    cCode Tryz.prog (rep [1, 1, 1, 1, 1, 1, 1] xc0 (cd Tryz.f18 [])) (retK Tryz.prog Tryz.f18.results.toList K) (fun _ _ _ => False) (retK Tryz.prog Tryz.f18.results.toList K) (b0::undef::undef::undef::undef::undef::undef::undef::undef::undef::undef::undef::undef::undef::undef::undef::undef::undef::undef::undef::undef::undef::undef::undef::undef::undef::undef::undef::undef::undef::undef::undef::undef::undef::undef::undef::undef::undef::undef::undef::undef::undef::undef::undef::undef::undef::undef::undef::undef::[]) w := Eq.mp (by kernel_rfl) h

theorem trace_Again_in {K : KV} {b0 : Value} {w : World}
    (h : alc Tryz.prog 40 (fun steps5 w =>
    call Tryz.prog 32 #[b0, (Value.func (Fn.func 34) #[] #[steps5])] (fun C8 w =>
    ext Tryz.prog C8 0 (fun C9 w =>
    ext Tryz.prog C8 1 (fun D0 w =>
    un Tryz.prog UnOp.not D0 (fun D2 w =>
    cond D2
      (K (Value.tuple #[(Value.pointer none), (Value.slice none 0 0), (Value.int IntKind.i64 5)]) w)
      (call Tryz.prog 22 #[C9] (fun D5 w =>
    ext Tryz.prog D5 0 (fun D6 w =>
    ext Tryz.prog D5 1 (fun D7 w =>
    bin Tryz.prog BinOp.neq 34 false true D7 (Value.int IntKind.i64 0) (fun D9 w =>
    cond D9
      (K (Value.tuple #[(Value.pointer none), (Value.slice none 0 0), (Value.int IntKind.i64 5)]) w)
      ((trace_Again_A1 K) (b0::undef::(Value.pointer none)::(Value.slice none 0 0)::(Value.int IntKind.i64 0)::steps5::C9::D0::D6::D7::(Value.slice none 0 0)::undef::undef::undef::undef::C8::b0::(Value.func (Fn.func 34) #[] #[steps5])::C8::C9::D0::D0::D2::D5::C9::D5::D6::D7::D7::D9::undef::undef::undef::undef::undef::undef::undef::undef::undef::undef::undef::undef::undef::undef::undef::undef::undef::undef::undef::[]) w)) w) w) w) w)) w) w) w) w) w) :
    Gives Tryz.prog 18 #[b0] w K := enter' Tryz.func18 (by kernel_rfl) (Eq.mp (congrArg (fun c => cCode Tryz.prog c (retK Tryz.prog Tryz.f18.results.toList K) (fun _ _ _ => False) (retK Tryz.prog Tryz.f18.results.toList K) (b0::undef::undef::undef::undef::undef::undef::undef::undef::undef::undef::undef::undef::undef::undef::undef::undef::undef::undef::undef::undef::undef::undef::undef::undef::undef::undef::undef::undef::undef::undef::undef::undef::undef::undef::undef::undef::undef::undef::undef::undef::undef::undef::undef::undef::undef::undef::undef::undef::[]) w) (by kernel_rfl : (rep [1, 1, 1, 1, 1, 1, 1] (cd Tryz.f18 [1, 1, 1, 1, 1, 1, 1]) (cd Tryz.f18 [])) = (cd Tryz.f18 []))) (trace_Again_k (cd Tryz.f18 [1, 1, 1, 1, 1, 1, 1]) h))
theorem trace_Again_go : isGo Tryz.prog 18 := ⟨_, Tryz.func18, by kernel_rfl, by kernel_rfl⟩

section
variable {b0 b1 A2 A3 A4 steps5 n6 is7 A8 e9 answers10 C1 s12 a13 C4 C5 C6 C7 C8 C9 D0 D1 D2 D3 D4 D5 D6 D7 D8 D9 E0 E1 E2 E3 E4 E5 E6 E7 E8 E9 F0 F1 F2 F3 F4 F5 F6 F7 F8 : Value}
attribute [irreducible] trace_Again_A1


end
theorem trace_Again_1_k {K : KV} {s0 A1 A2 : Value} {w : World}
    (h : box Tryz.prog 27 s0 (fun s3 w =>
    ld Tryz.prog 40 A2 (fun A5 w =>
    ld Tryz.prog 27 s3 (fun A6 w =>
    bldS Tryz.prog 40 1 #[(0, A6)] (fun A7 w =>
    blt Tryz.prog Builtin.append #[40, 40] 40 #[false, false] #[A5, A7] (fun A8 w =>
    sto Tryz.prog 40 A2 A8 (fun _t w =>
    K (Value.tuple #[]) w) w) w) w) w) w) w) :
    cCode Tryz.prog (cd Tryz.f34 []) (retK Tryz.prog Tryz.f34.results.toList K) (fun _ _ _ => False) (retK Tryz.prog Tryz.f34.results.toList K) [s0, A1, A2, undef, undef, undef, undef, undef, undef] w := Eq.mp (by kernel_rfl) h

theorem trace_Again_1_in {K : KV} {s0 A1 A2 : Value} {w : World}
    (h : box Tryz.prog 27 s0 (fun s3 w =>
    ld Tryz.prog 40 A2 (fun A5 w =>
    ld Tryz.prog 27 s3 (fun A6 w =>
    bldS Tryz.prog 40 1 #[(0, A6)] (fun A7 w =>
    blt Tryz.prog Builtin.append #[40, 40] 40 #[false, false] #[A5, A7] (fun A8 w =>
    sto Tryz.prog 40 A2 A8 (fun _t w =>
    K (Value.tuple #[]) w) w) w) w) w) w) w) :
    Gives Tryz.prog 34 #[s0, A1, A2] w K := enter' Tryz.func34 (by kernel_rfl) (Eq.mp (congrArg (fun c => cCode Tryz.prog c (retK Tryz.prog Tryz.f34.results.toList K) (fun _ _ _ => False) (retK Tryz.prog Tryz.f34.results.toList K) [s0, A1, A2, undef, undef, undef, undef, undef, undef] w) (by kernel_rfl : (cd Tryz.f34 []) = (cd Tryz.f34 []))) (trace_Again_1_k h))
theorem trace_Again_1_go : isGo Tryz.prog 34 := ⟨_, Tryz.func34, by kernel_rfl, by kernel_rfl⟩

def trace_Upto_P1 (K : KV) : KE := cCode Tryz.prog (cd Tryz.f17 [1, 1, 1, 1]) (retK Tryz.prog Tryz.f17.results.toList K) (fun _ _ _ => False) (retK Tryz.prog Tryz.f17.results.toList K)
def trace_Upto_P2 (K : KV) : KE := cCode Tryz.prog (cd Tryz.f17 [1, 1, 1, 0, 0, 1, 1, 1]) (trace_Upto_P1 K) (fun i => @Bool.rec (fun _ => KE) ((fun _ _ _ => False) i) (trace_Upto_P1 K) (Nat.beq i 0)) (retK Tryz.prog Tryz.f17.results.toList K)
def trace_Upto_A1 (K : KV) : KE := cCode Tryz.prog (cd Tryz.f17 [1, 1, 1, 0, 0, 1, 1, 0, 1]) (trace_Upto_P2 K) (fun i => @Bool.rec (fun _ => KE) ((fun _ _ _ => False) i) (trace_Upto_P1 K) (Nat.beq i 0)) (retK Tryz.prog Tryz.f17.results.toList K)
theorem trace_Upto_k {K : KV} (xc0 : Code) {b0 k_1 : Value} {w : World}
    (h : bldS Tryz.prog 25 1 #[(0, (Value.int IntKind.i64 1))] (fun A9 w =>
    alc Tryz.prog 25 (fun ends6 w =>
    sto Tryz.prog 25 ends6 A9 (fun _t w =>
    call Tryz.prog 32 #[b0, (Value.func (Fn.func 33) #[] #[ends6])] (fun C3 w =>
    ext Tryz.prog C3 0 (fun C4 w =>
    ext Tryz.prog C3 1 (fun C5 w =>
    un Tryz.prog UnOp.not C5 (fun C8 w =>
    cond C8
      (K (Value.tuple #[(Value.slice none 0 0), (Value.int IntKind.i64 5)]) w)
      (bin Tryz.prog BinOp.lss 3 false true k_1 (Value.int IntKind.i64 0) (fun D1 w =>
      (cCode Tryz.prog xc0 (cCode Tryz.prog (cd Tryz.f17 [1, 1, 1, 0, 0, 1, 1, 1]) (cCode Tryz.prog (cd Tryz.f17 [1, 1, 1, 1]) (retK Tryz.prog Tryz.f17.results.toList K) (fun _ _ _ => False) (retK Tryz.prog Tryz.f17.results.toList K)) (fun i => @Bool.rec (fun _ => KE) ((fun _ _ _ => False) i) (cCode Tryz.prog (cd Tryz.f17 [1, 1, 1, 1]) (retK Tryz.prog Tryz.f17.results.toList K) (fun _ _ _ => False) (retK Tryz.prog Tryz.f17.results.toList K)) (Nat.beq i 0)) (retK Tryz.prog Tryz.f17.results.toList K)) (fun i => @Bool.rec (fun _ => KE) ((fun _ _ _ => False) i) (cCode Tryz.prog (cd Tryz.f17 [1, 1, 1, 1]) (retK Tryz.prog Tryz.f17.results.toList K) (fun _ _ _ => False) (retK Tryz.prog Tryz.f17.results.toList K)) (Nat.beq i 0)) (retK Tryz.prog Tryz.f17.results.toList K)) [b0, k_1, undef, undef, (Value.slice none 0 0), (Value.int IntKind.i64 0), ends6, C4, C5, A9, C3, b0, (Value.func (Fn.func 33) #[] #[ends6]), C3, C4, C5, C8, C5, C8, D1, k_1, D1, undef, undef, undef, undef, undef, undef, undef, undef, undef, undef, undef, undef] w) w)) w) w) w) w) w) w) w) :
    cCode Tryz.prog (rep [1, 1, 1, 0, 0, 1, 1, 0, 1] xc0 (cd Tryz.f17 [])) (retK Tryz.prog Tryz.f17.results.toList K) (fun _ _ _ => False) (retK Tryz.prog Tryz.f17.results.toList K) [b0, k_1, undef, undef, undef, undef, undef, undef, undef, undef, undef, undef, undef, undef, undef, undef, undef, undef, undef, undef, undef, undef, undef, undef, undef, undef, undef, undef, undef, undef, undef, undef, undef, undef] w := Eq.mp (by kernel_rfl) h

theorem trace_Upto_in {K : KV} {b0 k_1 : Value} {w : World}
    (h : bldS Tryz.prog 25 1 #[(0, (Value.int IntKind.i64 1))] (fun A9 w =>
    alc Tryz.prog 25 (fun ends6 w =>
    sto Tryz.prog 25 ends6 A9 (fun _t w =>
    call Tryz.prog 32 #[b0, (Value.func (Fn.func 33) #[] #[ends6])] (fun C3 w =>
    ext Tryz.prog C3 0 (fun C4 w =>
    ext Tryz.prog C3 1 (fun C5 w =>
    un Tryz.prog UnOp.not C5 (fun C8 w =>
    cond C8
      (K (Value.tuple #[(Value.slice none 0 0), (Value.int IntKind.i64 5)]) w)
      (bin Tryz.prog BinOp.lss 3 false true k_1 (Value.int IntKind.i64 0) (fun D1 w =>
      (trace_Upto_A1 K) [b0, k_1, undef, undef, (Value.slice none 0 0), (Value.int IntKind.i64 0), ends6, C4, C5, A9, C3, b0, (Value.func (Fn.func 33) #[] #[ends6]), C3, C4, C5, C8, C5, C8, D1, k_1, D1, undef, undef, undef, undef, undef, undef, undef, undef, undef, undef, undef, undef] w) w)) w) w) w) w) w) w) w) :
    Gives Tryz.prog 17 #[b0, k_1] w K := enter' Tryz.func17 (by kernel_rfl) (Eq.mp (congrArg (fun c => cCode Tryz.prog c (retK Tryz.prog Tryz.f17.results.toList K) (fun _ _ _ => False) (retK Tryz.prog Tryz.f17.results.toList K) [b0, k_1, undef, undef, undef, undef, undef, undef, undef, undef, undef, undef, undef, undef, undef, undef, undef, undef, undef, undef, undef, undef, undef, undef, undef, undef, undef, undef, undef, undef, undef, undef, undef, undef] w) (by kernel_rfl : (rep [1, 1, 1, 0, 0, 1, 1, 0, 1] (cd Tryz.f17 [1, 1, 1, 0, 0, 1, 1, 0, 1]) (cd Tryz.f17 [])) = (cd Tryz.f17 []))) (trace_Upto_k (cd Tryz.f17 [1, 1, 1, 0, 0, 1, 1, 0, 1]) h))
theorem trace_Upto_go : isGo Tryz.prog 17 := ⟨_, Tryz.func17, by kernel_rfl, by kernel_rfl⟩

theorem trace_Upto_A1_k {K : KV} (qc0 : KE) (qc1 : KE) {b0 k_1 b2 k_3 A4 A5 ends6 A7 is8 A9 C0 C1 C2 C3 C4 C5 C6 C7 C8 C9 D0 D1 D2 D3 D4 D5 D6 D7 D8 D9 E0 E1 E2 E3 : Value} {w : World}
    (h : cond C9
      (qc0 [b0, k_1, b2, k_3, A4, A5, ends6, A7, is8, A9, C0, C1, C2, C3, C4, C5, C6, C7, C8, C9, D0, D1, D2, D3, D4, D5, D6, D7, D8, D9, E0, E1, E2, E3] w)
      (ld Tryz.prog 25 ends6 (fun D3 w =>
      blt Tryz.prog Builtin.len #[25] 3 #[false] #[D3] (fun D4 w =>
      bin Tryz.prog BinOp.geq 3 false false k_1 D4 (fun D5 w =>
      qc0 [b0, k_1, b2, k_3, A4, A5, ends6, A7, is8, A9, C0, C1, C2, C3, C4, C5, C6, C7, C8, D5, D0, D1, k_1, D3, D4, D5, D6, D7, D8, D9, E0, E1, E2, E3] w) w) w) w)) :
    cCode Tryz.prog (cd Tryz.f17 [1, 1, 1, 0, 0, 1, 1, 0, 1]) qc0 (fun i => @Bool.rec (fun _ => KE) ((fun _ _ _ => False) i) qc1 (Nat.beq i 0)) (retK Tryz.prog Tryz.f17.results.toList K) [b0, k_1, b2, k_3, A4, A5, ends6, A7, is8, A9, C0, C1, C2, C3, C4, C5, C6, C7, C8, C9, D0, D1, D2, D3, D4, D5, D6, D7, D8, D9, E0, E1, E2, E3] w := Eq.mp (by kernel_rfl) h

theorem trace_Upto_A1_r {K : KV} {b0 k_1 b2 k_3 A4 A5 ends6 A7 is8 A9 C0 C1 C2 C3 C4 C5 C6 C7 C8 C9 D0 D1 D2 D3 D4 D5 D6 D7 D8 D9 E0 E1 E2 E3 : Value} {w : World}
    (h : cond C9
      ((trace_Upto_P2 K) [b0, k_1, b2, k_3, A4, A5, ends6, A7, is8, A9, C0, C1, C2, C3, C4, C5, C6, C7, C8, C9, D0, D1, D2, D3, D4, D5, D6, D7, D8, D9, E0, E1, E2, E3] w)
      (ld Tryz.prog 25 ends6 (fun D3 w =>
      blt Tryz.prog Builtin.len #[25] 3 #[false] #[D3] (fun D4 w =>
      bin Tryz.prog BinOp.geq 3 false false k_1 D4 (fun D5 w =>
      (trace_Upto_P2 K) [b0, k_1, b2, k_3, A4, A5, ends6, A7, is8, A9, C0, C1, C2, C3, C4, C5, C6, C7, C8, D5, D0, D1, k_1, D3, D4, D5, D6, D7, D8, D9, E0, E1, E2, E3] w) w) w) w)) :
    trace_Upto_A1 K [b0, k_1, b2, k_3, A4, A5, ends6, A7, is8, A9, C0, C1, C2, C3, C4, C5, C6, C7, C8, C9, D0, D1, D2, D3, D4, D5, D6, D7, D8, D9, E0, E1, E2, E3] w := by
  delta trace_Upto_A1
  exact Eq.mp (congrArg (fun c => cCode Tryz.prog c (trace_Upto_P2 K) (fun i => @Bool.rec (fun _ => KE) ((fun _ _ _ => False) i) (trace_Upto_P1 K) (Nat.beq i 0)) (retK Tryz.prog Tryz.f17.results.toList K) [b0, k_1, b2, k_3, A4, A5, ends6, A7, is8, A9, C0, C1, C2, C3, C4, C5, C6, C7, C8, C9, D0, D1, D2, D3, D4, D5, D6, D7, D8, D9, E0, E1, E2, E3] w) (by kernel_rfl : (cd Tryz.f17 [1, 1, 1, 0, 0, 1, 1, 0, 1]) = (cd Tryz.f17 [1, 1, 1, 0, 0, 1, 1, 0, 1]))) (trace_Upto_A1_k (trace_Upto_P2 K) (trace_Upto_P1 K) h)

theorem trace_Upto_P2_k {K : KV} (qc0 : KE) {b0 k_1 b2 k_3 A4 A5 ends6 A7 is8 A9 C0 C1 C2 C3 C4 C5 C6 C7 C8 C9 D0 D1 D2 D3 D4 D5 D6 D7 D8 D9 E0 E1 E2 E3 : Value} {w : World}
    (h : cond C9
      (K (Value.tuple #[(Value.slice none 0 0), (Value.int IntKind.i64 1)]) w)
      (qc0 [b0, k_1, b2, k_3, A4, A5, ends6, A7, is8, A9, C0, C1, C2, C3, C4, C5, C6, C7, C8, C9, D0, D1, D2, D3, D4, D5, D6, D7, D8, D9, E0, E1, E2, E3] w)) :
    cCode Tryz.prog (cd Tryz.f17 [1, 1, 1, 0, 0, 1, 1, 1]) qc0 (fun i => @Bool.rec (fun _ => KE) ((fun _ _ _ => False) i) qc0 (Nat.beq i 0)) (retK Tryz.prog Tryz.f17.results.toList K) [b0, k_1, b2, k_3, A4, A5, ends6, A7, is8, A9, C0, C1, C2, C3, C4, C5, C6, C7, C8, C9, D0, D1, D2, D3, D4, D5, D6, D7, D8, D9, E0, E1, E2, E3] w := Eq.mp (by kernel_rfl) h

theorem trace_Upto_P2_r {K : KV} {b0 k_1 b2 k_3 A4 A5 ends6 A7 is8 A9 C0 C1 C2 C3 C4 C5 C6 C7 C8 C9 D0 D1 D2 D3 D4 D5 D6 D7 D8 D9 E0 E1 E2 E3 : Value} {w : World}
    (h : cond C9
      (K (Value.tuple #[(Value.slice none 0 0), (Value.int IntKind.i64 1)]) w)
      ((trace_Upto_P1 K) [b0, k_1, b2, k_3, A4, A5, ends6, A7, is8, A9, C0, C1, C2, C3, C4, C5, C6, C7, C8, C9, D0, D1, D2, D3, D4, D5, D6, D7, D8, D9, E0, E1, E2, E3] w)) :
    trace_Upto_P2 K [b0, k_1, b2, k_3, A4, A5, ends6, A7, is8, A9, C0, C1, C2, C3, C4, C5, C6, C7, C8, C9, D0, D1, D2, D3, D4, D5, D6, D7, D8, D9, E0, E1, E2, E3] w := by
  delta trace_Upto_P2
  exact Eq.mp (congrArg (fun c => cCode Tryz.prog c (trace_Upto_P1 K) (fun i => @Bool.rec (fun _ => KE) ((fun _ _ _ => False) i) (trace_Upto_P1 K) (Nat.beq i 0)) (retK Tryz.prog Tryz.f17.results.toList K) [b0, k_1, b2, k_3, A4, A5, ends6, A7, is8, A9, C0, C1, C2, C3, C4, C5, C6, C7, C8, C9, D0, D1, D2, D3, D4, D5, D6, D7, D8, D9, E0, E1, E2, E3] w) (by kernel_rfl : (cd Tryz.f17 [1, 1, 1, 0, 0, 1, 1, 1]) = (cd Tryz.f17 [1, 1, 1, 0, 0, 1, 1, 1]))) (trace_Upto_P2_k (trace_Upto_P1 K) h)

theorem trace_Upto_P1_k {K : KV} {b0 k_1 b2 k_3 A4 A5 ends6 A7 is8 A9 C0 C1 C2 C3 C4 C5 C6 C7 C8 C9 D0 D1 D2 D3 D4 D5 D6 D7 D8 D9 E0 E1 E2 E3 : Value} {w : World}
    (h : bldS Tryz.prog 28 0 #[] (fun D6 w =>
    ld Tryz.prog 25 ends6 (fun D8 w =>
    idxA Tryz.prog 25 D8 k_1 (fun E0 w =>
    ld Tryz.prog 3 E0 (fun E1 w =>
    slc Tryz.prog 28 b0 none (some E1) none (fun E2 w =>
    blt Tryz.prog Builtin.append #[28, 28] 28 #[false, false] #[D6, E2] (fun E3 w =>
    K (Value.tuple #[E3, (Value.int IntKind.i64 0)]) w) w) w) w) w) w) w) :
    cCode Tryz.prog (cd Tryz.f17 [1, 1, 1, 1]) (retK Tryz.prog Tryz.f17.results.toList K) (fun _ _ _ => False) (retK Tryz.prog Tryz.f17.results.toList K) [b0, k_1, b2, k_3, A4, A5, ends6, A7, is8, A9, C0, C1, C2, C3, C4, C5, C6, C7, C8, C9, D0, D1, D2, D3, D4, D5, D6, D7, D8, D9, E0, E1, E2, E3] w := Eq.mp (by kernel_rfl) h

theorem trace_Upto_P1_r {K : KV} {b0 k_1 b2 k_3 A4 A5 ends6 A7 is8 A9 C0 C1 C2 C3 C4 C5 C6 C7 C8 C9 D0 D1 D2 D3 D4 D5 D6 D7 D8 D9 E0 E1 E2 E3 : Value} {w : World}
    (h : bldS Tryz.prog 28 0 #[] (fun D6 w =>
    ld Tryz.prog 25 ends6 (fun D8 w =>
    idxA Tryz.prog 25 D8 k_1 (fun E0 w =>
    ld Tryz.prog 3 E0 (fun E1 w =>
    slc Tryz.prog 28 b0 none (some E1) none (fun E2 w =>
    blt Tryz.prog Builtin.append #[28, 28] 28 #[false, false] #[D6, E2] (fun E3 w =>
    K (Value.tuple #[E3, (Value.int IntKind.i64 0)]) w) w) w) w) w) w) w) :
    trace_Upto_P1 K [b0, k_1, b2, k_3, A4, A5, ends6, A7, is8, A9, C0, C1, C2, C3, C4, C5, C6, C7, C8, C9, D0, D1, D2, D3, D4, D5, D6, D7, D8, D9, E0, E1, E2, E3] w := by
  delta trace_Upto_P1
  exact Eq.mp (congrArg (fun c => cCode Tryz.prog c (retK Tryz.prog Tryz.f17.results.toList K) (fun _ _ _ => False) (retK Tryz.prog Tryz.f17.results.toList K) [b0, k_1, b2, k_3, A4, A5, ends6, A7, is8, A9, C0, C1, C2, C3, C4, C5, C6, C7, C8, C9, D0, D1, D2, D3, D4, D5, D6, D7, D8, D9, E0, E1, E2, E3] w) (by kernel_rfl : (cd Tryz.f17 [1, 1, 1, 1]) = (cd Tryz.f17 [1, 1, 1, 1]))) (trace_Upto_P1_k h)
attribute [irreducible] trace_Upto_P1 trace_Upto_P2 trace_Upto_A1


theorem trace_Upto_1_k {K : KV} {A0 end1 A2 : Value} {w : World}
    (h : box Tryz.prog 27 A0 (fun A3 w =>
    ld Tryz.prog 25 A2 (fun A5 w =>
    bldS Tryz.prog 25 1 #[(0, end1)] (fun A7 w =>
    blt Tryz.prog Builtin.append #[25, 25] 25 #[false, false] #[A5, A7] (fun A8 w =>
    sto Tryz.prog 25 A2 A8 (fun _t w =>
    K (Value.tuple #[]) w) w) w) w) w) w) :
    cCode Tryz.prog (cd Tryz.f33 []) (retK Tryz.prog Tryz.f33.results.toList K) (fun _ _ _ => False) (retK Tryz.prog Tryz.f33.results.toList K) [A0, end1, A2, undef, undef, undef, undef, undef, undef] w := Eq.mp (by kernel_rfl) h

theorem trace_Upto_1_in {K : KV} {A0 end1 A2 : Value} {w : World}
    (h : box Tryz.prog 27 A0 (fun A3 w =>
    ld Tryz.prog 25 A2 (fun A5 w =>
    bldS Tryz.prog 25 1 #[(0, end1)] (fun A7 w =>
    blt Tryz.prog Builtin.append #[25, 25] 25 #[false, false] #[A5, A7] (fun A8 w =>
    sto Tryz.prog 25 A2 A8 (fun _t w =>
    K (Value.tuple #[]) w) w) w) w) w) w) :
    Gives Tryz.prog 33 #[A0, end1, A2] w K := enter' Tryz.func33 (by kernel_rfl) (Eq.mp (congrArg (fun c => cCode Tryz.prog c (retK Tryz.prog Tryz.f33.results.toList K) (fun _ _ _ => False) (retK Tryz.prog Tryz.f33.results.toList K) [A0, end1, A2, undef, undef, undef, undef, undef, undef] w) (by kernel_rfl : (cd Tryz.f33 []) = (cd Tryz.f33 []))) (trace_Upto_1_k h))
theorem trace_Upto_1_go : isGo Tryz.prog 33 := ⟨_, Tryz.func33, by kernel_rfl, by kernel_rfl⟩

end Go.Proofs.YtfjafbbalohmhaaGreatDoor
namespace Go.Proofs.YtfjafbbalohmhaaGreatDoor
set_option maxRecDepth 100000
open Go.RowKit
theorem gtE_ok {b : List UInt8} {i k : Nat} (h : (gtE b (i, false) k).2.2 = false) : i + k ≤ b.length ∧ (gtE b (i, false) k).2.1 = i + k := by
  unfold gtE at *
  by_cases hh : i + k ≤ b.length
  · rw [if_pos ⟨rfl, hh⟩]; exact ⟨hh, rfl⟩
  · rw [if_neg (fun hq => hh hq.2)] at h; cases h
attribute [local irreducible] gtE getP
def badT (b : List UInt8) (i k : Nat) : Bool := (gtE b (i, false) 2).2.2 || decide (b.length - (gtE b (i, false) 2).2.1 < (gtE b (i, false) 2).1) || decide (65536 ≤ k)
def gotT (b : List UInt8) (i : Nat) : Option STP := getP ((b.drop (gtE b (i, false) 2).2.1).take (gtE b (i, false) 2).1)
def nxtT (b : List UInt8) (i : Nat) : Nat := i + 2 + (gtE b (i, false) 2).1
attribute [local irreducible] badT gotT nxtT
def runT (b : List UInt8) : Nat → Nat → Nat → List (STP × Nat) × Bool
  | 0, _, _ => ([], false)
  | f + 1, i, k => match decide (i < b.length), badT b i k, gotT b i with
    | false, _, _ => ([], true)
    | true, true, _ => ([], false)
    | true, false, none => ([], false)
    | true, false, some s => ((s, nxtT b i) :: (runT b f (nxtT b i) (k + 1)).1, (runT b f (nxtT b i) (k + 1)).2)
theorem nxtT_gt (b : List UInt8) (i : Nat) : i + 2 ≤ nxtT b i := by unfold nxtT; omega
theorem runT_fuel {b : List UInt8} : ∀ (f g i k : Nat), b.length + 1 ≤ f + i → b.length + 1 ≤ g + i → 0 < f → 0 < g → runT b f i k = runT b g i k
  | 0, _, i, k, _, _, h, _ => by omega
  | f + 1, 0, i, k, _, _, _, h => by omega
  | f + 1, g + 1, i, k, h1, h2, _, _ => by
    by_cases hi : i < b.length
    · have := nxtT_gt b i
      have e := runT_fuel (b := b) f g (nxtT b i) (k + 1)
      simp only [runT]
      rw [decide_eq_true hi]
      cases badT b i k with
      | true => rfl
      | false =>
        cases gotT b i with
        | none => rfl
        | some s =>
          by_cases h0 : 0 < f ∧ 0 < g
          · simp only
            rw [e (by omega) (by omega) h0.1 h0.2]
          · omega
    · simp only [runT]
      rw [decide_eq_false hi]
def runA (b : List UInt8) (i k : Nat) : List (STP × Nat) × Bool := runT b (b.length + 1 - i + 1) i k
theorem runA_end {b : List UInt8} {i k : Nat} (h : ¬ i < b.length) : runA b i k = ([], true) := by
  simp only [runA, runT]
  rw [decide_eq_false h]
theorem runA_bad {b : List UInt8} {i k : Nat} (h : i < b.length) (hb : badT b i k = true) : runA b i k = ([], false) := by
  simp only [runA, runT]
  rw [decide_eq_true h, hb]
theorem runA_none {b : List UInt8} {i k : Nat} (h : i < b.length) (hb : badT b i k = false) (hg : gotT b i = none) : runA b i k = ([], false) := by
  simp only [runA, runT]
  rw [decide_eq_true h, hb, hg]
theorem runA_some {b : List UInt8} {i k : Nat} {s : STP} (h : i < b.length) (hb : badT b i k = false) (hg : gotT b i = some s) :
    runA b i k = ((s, nxtT b i) :: (runA b (nxtT b i) (k + 1)).1, (runA b (nxtT b i) (k + 1)).2) := by
  have := nxtT_gt b i
  have e := runT_fuel (b := b) (b.length + 1 - i) (b.length + 1 - nxtT b i + 1) (nxtT b i) (k + 1) (by omega) (by omega) (by omega) (by omega)
  unfold runA
  rw [← e]
  simp only [runT]
  rw [decide_eq_true h, hb, hg]
def eachT (b : List UInt8) : List (STP × Nat) × Nat × Bool :=
  let g := gtE b (0, false) 1
  if g.2.2 = true ∨ g.1 < 1 ∨ 6 < g.1 then ([], 0, false)
  else ((runA b 1 0).1, (if (runA b 1 0).2 then g.1 else 0), (runA b 1 0).2)
structure Otb (y : Nat) (w1 w2 : World) : Prop where
  os : w2.os = w1.os
  tape : w2.tape = w1.tape
  output : w2.output = w1.output
  size : w1.heap.size ≤ w2.heap.size
  other : ∀ k, k < w1.heap.size → k ≠ y → w2.heap[k]? = w1.heap[k]?
theorem Oth.otb {y : Nat} {w1 w2 : World} (h : Oth y w1 w2) : Otb y w1 w2 := ⟨h.os, h.tape, h.output, by rw [h.size]; exact Nat.le_refl _, fun k _ hk => h.other k hk⟩
theorem Otb.of_below {y : Nat} {w1 w2 : World} (h : Below w1.heap.size w1 w2) : Otb y w1 w2 := ⟨h.os, h.tape, h.output, h.size, fun k hk _ => h.block k hk⟩
theorem Otb.trans {y : Nat} {w1 w2 w3 : World} (h : Otb y w1 w2) (g : Otb y w2 w3) : Otb y w1 w3 :=
  ⟨g.os.trans h.os, g.tape.trans h.tape, g.output.trans h.output, Nat.le_trans h.size g.size, fun k hk hn => (g.other k (Nat.lt_of_lt_of_le hk h.size) hn).trans (h.other k hk hn)⟩
theorem rb_same {w1 w2 : World} {a : Option Addr} {n c y : Nat} {b : List UInt8} (h : RB w1 a n c b) (hk : ∀ k, k < w1.heap.size → k ≠ y → w2.heap[k]? = w1.heap[k]?) (hy : ∀ i, i < n → (slotA a i).block ≠ y) : RB w2 a n c b :=
  ⟨RV.len h, RV.cap h, RV.some_ h, RV.nil_ h, fun i u hu => by
    have hi : i < n := by have := (List.getElem?_eq_some_iff.1 hu).1; rw [RV.len h] at this; exact this
    have hc := RV.cell h i u hu
    have hlt := World.block_lt_of_cell? w1 _ hc
    unfold World.cell? at hc ⊢
    rw [hk _ hlt (hy i hi)]; exact hc⟩
theorem rv_same {w1 w2 : World} {a : Option Addr} {n c y : Nat} {xs : List Value} (h : RV w1 a n c xs) (hk : ∀ k, k < w1.heap.size → k ≠ y → w2.heap[k]? = w1.heap[k]?) (hy : ∀ i, i < n → (slotA a i).block ≠ y) : RV w2 a n c xs :=
  ⟨RV.len h, RV.cap h, RV.some_ h, RV.nil_ h, fun i u hu => by
    have hi : i < n := by have := (List.getElem?_eq_some_iff.1 hu).1; rw [RV.len h] at this; exact this
    have hc := RV.cell h i u hu
    have hlt := World.block_lt_of_cell? w1 _ hc
    unfold World.cell? at hc ⊢
    rw [hk _ hlt (hy i hi)]; exact hc⟩
attribute [local irreducible] bin un conv call callV blt slc fldA fld idxA idx lkp mUpd mEnt eSt rng nxt ent ext alc box bld bldS ld sto nilC mkMap mkS ifc pick rdy wts gsel sti cond retM Gives cCode cGrp cSeq cOp
section
variable {w : World} {K : KV}
theorem slcLMt {w : World} {K : KV} {av : Option Addr} {n c l m : Nat} (hcap : n ≤ c) (hlm : l ≤ m) (hmn : m ≤ n) (h : K (.slice (if c = l then av else av.map (·.add (l * 1))) (m - l) (c - l)) w) :
    slc Tryz.prog 28 (.slice av n c) (some (.int .i64 (l : Nat))) (some (.int .i64 (m : Nat))) none K w := by
  have hb : (Instr.sliceBounds true n c (some (.int .i64 (l : Nat))) (some (.int .i64 (m : Nat))) none).run Tryz.prog w = .ok (l, m, c) w := by
    have h1 := run_sliceBound (P := Tryz.prog) w .i64 (m : Int) c .sliceAcap (by omega) (by omega)
    have h2 := run_sliceBound (P := Tryz.prog) w .i64 (l : Int) m .sliceB (by omega) (by omega)
    simp [Instr.sliceBounds] at h1 h2 ⊢
    rw [h1]; simp [h2]
  unfold slc
  refine okV_of (w' := w) ?_ h
  simp only [Instr.sliceAt, Instr.slice, Sem.run_bind, Sem.run_pure, Result.andThen_ok, run_underlying Tryz.underlying28, size_u8, hb]
theorem conv_nat {x : Nat} (hx : x ≤ 9223372036854775807) (h : K (.int .i64 (x : Nat)) w) : conv Tryz.prog 22 3 (.int .u64 (x : Nat)) K w :=
  conv_int Tryz.underlying22 Tryz.underlying3 (by rw [wrap_i64 (by omega) (by omega)]; exact h)
set_option maxHeartbeats 4000000 in
theorem eachA_c {b0 take1 b2 take3 t4 t5 y6 n7 k_8 size9 s10 e11 t12 t13 t14 t15 t16 t17 t18 t19 t20 t21 t22 t23 t24 t25 t26 t27 t28 t29 t30 t31 t32 t33 t34 t35 t36 t37 t38 t39 t40 t41 t42 t43 t44 t45 t46 t47 t48 t49 t50 t51 t52 t53 t54 t55 t56 t57 t58 t59 t60 t61 t62 t63 t64 t65 t66 t67 t68 t69 t70 t71 t72 t73 t74 t75 t76 t77 t78 t79 t80 t81 t82 t83 t84 t85 t86 t87 t88 t89 t90 t91 t92 t93 t94 : Value} {w7 : World} {K : KV} {B1 : KE} {a : Option Addr} {n c : Nat} {b : List UInt8} {fv : Value} {I : List (STP × Nat) → World → Prop} {y k i sb : Nat} {l : List (STP × Nat)} {cs : List Value} {e : Int}
    (hst : ∀ l w1 w2, I l w1 → Otb y w1 w2 → I l w2)
    (hcall : ∀ l (s : STP) (e : Nat) w1 a' c' (K : KV), l.length < 65536 → I l w1 → RN w1 a' s.picks.length c' s.picks → RB w1 a n c b → y < w1.heap.size → (∀ w2 v, I (l ++ [(s, e)]) w2 → w2.heap[y]? = w1.heap[y]? → RB w2 a n c b → w1.heap.size ≤ w2.heap.size → K v w2) →
      callV Tryz.prog fv #[.agg (stC s (.slice a' s.picks.length c')).toArray, .int .i64 (e : Nat)] K w1)
    (hbl : ∀ i, i < n → (slotA a i).block ≠ y) (hlen : b.length = n) (hn : n ≤ 4611686018427387904) (hk : k < 65536) (hll : l.length = k) (hnx : nxtT b i = i + 2 + (gtE b (i, false) 2).1) (hle : nxtT b i ≤ b.length)
    (no : ∀ w', I l w' → RB w' a n c b → gotT b i = none → K (.tuple #[.int .i64 0, .bool false]) w')
    (hsb : blk w7 sb 27 cs) (hne : sb ≠ y) (hcl : cs.length = 12)
    (hres : (gotT b i = none ∧ e = 5) ∨ ∃ s a' c', gotT b i = some s ∧ cs = stC s (.slice a' s.picks.length c') ∧ e = 0 ∧ RN w7 a' s.picks.length c' s.picks ∧ (∀ q, q < s.picks.length → (slotA a' q).block ≠ y))
    (hy : blk w7 y 75 (eyC a n c (i + 2, false))) (hr : RB w7 a n c b) (hI : I l w7) (hlt : y < w7.heap.size)
    (e1 : y6 = .pointer (some ⟨y, 0, none⟩)) (e2 : e11 = .int .i64 e) (e3 : s10 = .pointer (some ⟨sb, 0, none⟩)) (e4 : size9 = .int .i64 ((gtE b (i, false) 2).1 : Nat)) (e5 : k_8 = .int .i64 (k : Nat)) (e6 : take1 = fv)
    (hB : ∀ (e2 : List Value) (w8 : World), gd e2 8 = .int .i64 ((k : Int) + 1) → (∃ s, gotT b i = some s ∧ blk w8 y 75 (eyC a n c (nxtT b i, false)) ∧ RB w8 a n c b ∧ I (l ++ [(s, nxtT b i)]) w8 ∧ y < w8.heap.size) → B1 e2 w8) :
    trace_each_A1 K B1 ((b0 :: take1 :: b2 :: take3 :: t4 :: t5 :: y6 :: n7 :: k_8 :: size9 :: s10 :: e11 :: t12 :: t13 :: t14 :: t15 :: t16 :: t17 :: t18 :: t19 :: t20 :: t21 :: t22 :: t23 :: t24 :: t25 :: t26 :: t27 :: t28 :: t29 :: t30 :: t31 :: t32 :: t33 :: t34 :: t35 :: t36 :: t37 :: t38 :: t39 :: t40 :: t41 :: t42 :: t43 :: t44 :: t45 :: t46 :: t47 :: t48 :: t49 :: t50 :: t51 :: t52 :: t53 :: t54 :: t55 :: t56 :: t57 :: t58 :: t59 :: t60 :: t61 :: t62 :: t63 :: t64 :: t65 :: t66 :: t67 :: t68 :: t69 :: t70 :: t71 :: t72 :: t73 :: t74 :: t75 :: t76 :: t77 :: t78 :: t79 :: t80 :: t81 :: t82 :: t83 :: t84 :: t85 :: t86 :: t87 :: t88 :: t89 :: t90 :: t91 :: t92 :: t93 :: t94 :: [])) w7 := by
  subst e1 e2 e3 e4 e5 e6
  refine trace_each_A1_r ?_
  refine bin_neq ?_
  rcases hres with ⟨hg, rfl⟩ | ⟨s, a', c', hg, rfl, rfl, hrn, hnb⟩
  · refine cond_t (by decide) ?_
    exact no w7 hI hr hg
  · refine cond_f (by decide) ?_
    refine nilC_p ?_
    refine fA_Eye_1 ?_
    refine ld1 (v := .int .i64 ((i + 2 : Nat) : Int)) (fun _ => by kernel_rfl) hy rfl ?_
    refine add64 (by omega) (by omega) ?_
    refine nilC_p ?_
    refine fA_Eye_1 ?_
    refine sto1 (fun _ => by kernel_rfl) hy (by simp [eyC]) rfl fun w8 hy8 o8 => ?_
    have hy8 : blk w8 y 75 (eyC a n c (nxtT b i, false)) := by
      have e : (eyC a n c (i + 2, false)).set (0 + 1) (.int .i64 (((i + 2 : Nat) : Int) + ((gtE b (i, false) 2).1 : Nat))) = eyC a n c (nxtT b i, false) := by
        rw [hnx]; simp [eyC, i6]
      rw [e] at hy8
      exact hy8
    have hsb8 := o8.blk hsb hne
    have hr8 : RB w8 a n c b := rb_same hr (fun k _ hk => o8.other k hk) hbl
    have hI8 : I l w8 := hst l w7 w8 hI o8.otb
    have hrn8 : RN w8 a' s.picks.length c' s.picks := rv_same hrn (fun k _ hk => o8.other k hk) hnb
    have hlt8 : y < w8.heap.size := by rw [o8.size]; exact hlt
    refine hReg_of (fun x => blk x sb 27 (stC s (.slice a' s.picks.length c')) ∧ blk x y 75 (eyC a n c (nxtT b i, false))) ⟨hsb8.drew, hy8.drew⟩ ?_
    refine hld_of (fun x hx K hK => ldA (n := 12) (vs := stC s (.slice a' s.picks.length c')) Tryz.underlying27 rfl (by kernel_rfl) hx.1 rfl rfl hK) ?_
    refine hld_of (fun x hx K hK => nilC_p hK) ?_
    refine hld_of (fun x hx K hK => fA_Eye_1 hK) ?_
    refine hld_of (v := .int .i64 (nxtT b i : Nat)) (fun x hx K hK => ld1 (fun _ => by kernel_rfl) hx.2 rfl hK) ?_
    have hId : I l w8.drew := hst l w8 w8.drew hI8 (.of_below (Below.refl _ w8).drew)
    refine hcall l s (nxtT b i) w8.drew a' c' _ (by omega) hId (RV.drew hrn8) (RV.drew hr8) hlt8 fun w9 v hI9 hh hr9 hs9 => ?_
    refine trace_each_P2_r ?_
    refine add64 (by omega) (by omega) ?_
    refine hB _ w9 rfl ⟨s, hg, ?_, hr9, hI9, Nat.lt_of_lt_of_le hlt8 hs9⟩
    unfold blk at hy8 ⊢
    rw [hh]; exact hy8
set_option maxHeartbeats 4000000 in
theorem each_c {a : Option Addr} {n c : Nat} {b : List UInt8} (hr : RB w a n c b) (hn : n ≤ 4611686018427387904) {fv : Value} (I : List (STP × Nat) → World → Prop)
    (h0 : ∀ w', Below w.heap.size w w' → w.heap.size < w'.heap.size → I [] w')
    (hst : ∀ l w1 w2, I l w1 → Otb w.heap.size w1 w2 → I l w2)
    (hcall : ∀ l (s : STP) (e : Nat) w1 a' c' (K : KV), l.length < 65536 → I l w1 → RN w1 a' s.picks.length c' s.picks → RB w1 a n c b → w.heap.size < w1.heap.size → (∀ w2 v, I (l ++ [(s, e)]) w2 → w2.heap[w.heap.size]? = w1.heap[w.heap.size]? → RB w2 a n c b → w1.heap.size ≤ w2.heap.size → K v w2) →
      callV Tryz.prog fv #[.agg (stC s (.slice a' s.picks.length c')).toArray, .int .i64 (e : Nat)] K w1)
    (h : ∀ w', I (eachT b).1 w' → RB w' a n c b → K (.tuple #[.int .i64 ((eachT b).2.1 : Nat), .bool (eachT b).2.2]) w') :
    call Tryz.prog 32 #[.slice a n c, fv] K w := by
  have hlen := hr.len
  have hcap := RV.cap hr
  have hbl : ∀ i, i < n → (slotA a i).block ≠ w.heap.size := fun i hi => by have := RV.blk hr i hi; omega
  refine call_of trace_each_go (trace_each_in ?_)
  refine bld_of (vs := eyC a n c (0, false)) (by kernel_rfl) ?_
  refine box_of fun w1 hy b1 s1 => ?_
  have hy : blk w1 w.heap.size 75 (eyC a n c (0, false)) := hy
  have hr1 := hr.below b1 (Nat.le_refl _)
  generalize hyq : w.heap.size = y at *
  refine eget_c 1 hy hr1 (by omega) (Nat.zero_le _) (by simp) rfl fun w2 hy2 o2 => ?_
  have I2 : I [] w2 := h0 w2 (b1.trans (o2.below)) (by rw [o2.size]; omega)
  have hr2 : RB w2 a n c b := rb_same hr1 (fun k _ hk => o2.other k hk) hbl
  have hg1 : (gtE b (0, false) 1).1 < 256 ^ 1 := gtE_lt
  have hle1 : (gtE b (0, false) 1).2.1 ≤ b.length := gtE_le (Nat.zero_le _)
  have hs2 : w2.heap.size = y + 1 := by rw [o2.size]; omega
  refine conv_nat (by omega) ?_
  refine nilC_p ?_
  refine fA_Eye_2 ?_
  refine ld1 (v := .bool (gtE b (0, false) 1).2.2) (fun _ => by kernel_rfl) hy2 rfl ?_
  have no : ((gtE b (0, false) 1).2.2 = true ∨ (gtE b (0, false) 1).1 < 1 ∨ 6 < (gtE b (0, false) 1).1) → K (.tuple #[.int .i64 0, .bool false]) w2 := fun hq => by
    have e : eachT b = ([], 0, false) := by unfold eachT; simp only; rw [if_pos hq]
    rw [e] at h
    exact h w2 I2 hr2
  cases hsp : (gtE b (0, false) 1).2.2 with
  | true =>
    refine gsel_Tn ?_
    refine pick_T ?_
    refine gsel_Tn ?_
    refine pick_T ?_
    refine cond_T ?_
    exact no (.inl hsp)
  | false =>
    refine gsel_Fn ?_
    refine bin_lss ?_
    refine pick_F ?_
    by_cases hl : (gtE b (0, false) 1).1 < 1
    · refine gsel_nt (show (((gtE b (0, false) 1).1 : Nat) : Int) < 1 by omega) ?_
      refine pick_t (show (((gtE b (0, false) 1).1 : Nat) : Int) < 1 by omega) ?_
      refine cond_T ?_
      exact no (.inr (.inl hl))
    · refine gsel_nf (show ¬ (((gtE b (0, false) 1).1 : Nat) : Int) < 1 by omega) ?_
      refine bin_gtr ?_
      refine pick_f (show ¬ (((gtE b (0, false) 1).1 : Nat) : Int) < 1 by omega) ?_
      by_cases hm : 6 < (gtE b (0, false) 1).1
      · refine cond_t (show (6 : Int) < (((gtE b (0, false) 1).1 : Nat) : Int) by omega) ?_
        exact no (.inr (.inr hm))
      · refine cond_f (show ¬ (6 : Int) < (((gtE b (0, false) 1).1 : Nat) : Int) by omega) ?_
        have hat := gtE_ok hsp
        have e : eachT b = ((runA b 1 0).1, (if (runA b 1 0).2 then (gtE b (0, false) 1).1 else 0), (runA b 1 0).2) := by
          unfold eachT; simp only; rw [if_neg (by rw [hsp]; simp; omega)]
        rw [e] at h
        have hst2 : (gtE b (0, false) 1).2 = (1, false) := Prod.ext hat.2 hsp
        rw [hst2] at hy2
        refine trace_each_L1_r (Inv := fun kv _ _ _ _ _ _ _ _ _ _ _ wr => ∃ (k i : Nat) (l : List (STP × Nat)), kv = .int .i64 (k : Nat) ∧ i ≤ b.length ∧ k ≤ 65536 ∧ blk wr y 75 (eyC a n c (i, false)) ∧ RB wr a n c b ∧ I l wr ∧ y < wr.heap.size ∧ runA b 1 0 = (l ++ (runA b i k).1, (runA b i k).2) ∧ l.length = k)
          (μ := fun kv _ _ _ _ _ _ _ _ _ _ _ _ => 65537 - (intOf kv).toNat) ⟨0, 1, [], rfl, by omega, by omega, hy2, hr2, I2, by omega, rfl, rfl⟩ ?_
        rintro _ _ _ _ _ _ _ _ _ _ _ _ dd w3 m ⟨k, i, l, rfl, hi, hk, hy3, hr3, I3, hlt3, hrun, hll⟩ hmm
        refine nilC_p ?_
        refine fA_Eye_1 ?_
        refine ld1 (v := .int .i64 (i : Nat)) (fun _ => by kernel_rfl) hy3 rfl ?_
        refine lenB8 ?_
        refine bin_lss ?_
        by_cases hin : i < b.length
        · refine cond_t (by omega) ?_
          refine eget_c 2 hy3 hr3 (by omega) hi (by simp) rfl fun w4 hy4 o4 => ?_
          have hr4 : RB w4 a n c b := rb_same hr3 (fun k _ hk => o4.other k hk) hbl
          have I4 : I l w4 := hst l w3 w4 I3 o4.otb
          have hlt4 : y < w4.heap.size := by rw [o4.size]; exact hlt3
          have hg2 : (gtE b (i, false) 2).1 < 256 ^ 2 := gtE_lt
          have hle2 : (gtE b (i, false) 2).2.1 ≤ b.length := gtE_le hi
          refine conv_nat (by omega) ?_
          refine nilC_p ?_
          refine fA_Eye_2 ?_
          refine ld1 (v := .bool (gtE b (i, false) 2).2.2) (fun _ => by kernel_rfl) hy4 rfl ?_
          have no : ∀ w', I l w' → RB w' a n c b → runA b i k = ([], false) → K (.tuple #[.int .i64 0, .bool false]) w' := fun w' hI hR hq => by
            have := h w'
            rw [hrun, hq, List.append_nil] at this
            exact this hI hR
          have bad : badT b i k = true → K (.tuple #[.int .i64 0, .bool false]) w4 := fun hq => no w4 I4 hr4 (runA_bad hin hq)
          cases hs4 : (gtE b (i, false) 2).2.2 with
          | true =>
            refine gsel_Tn ?_
            refine pick_T ?_
            refine gsel_Tn ?_
            refine pick_T ?_
            refine cond_T ?_
            exact bad (by unfold badT; rw [hs4]; rfl)
          | false =>
            have hat4 := gtE_ok hs4
            refine gsel_Fn ?_
            refine lenB8 ?_
            refine nilC_p ?_
            refine fA_Eye_1 ?_
            refine ld1 (v := .int .i64 ((gtE b (i, false) 2).2.1 : Nat)) (fun _ => by kernel_rfl) hy4 rfl ?_
            refine sub64 (by omega) (by omega) ?_
            refine bin_gtr ?_
            refine pick_F ?_
            by_cases hbig : b.length - (gtE b (i, false) 2).2.1 < (gtE b (i, false) 2).1
            · have hbi : (n : Int) - ((gtE b (i, false) 2).2.1 : Nat) < ((gtE b (i, false) 2).1 : Nat) := by omega
              refine gsel_nt hbi ?_
              refine pick_t hbi ?_
              refine cond_T ?_
              refine bad ?_
              unfold badT
              rw [decide_eq_true hbig]; simp
            · have hbi : ¬ (n : Int) - ((gtE b (i, false) 2).2.1 : Nat) < ((gtE b (i, false) 2).1 : Nat) := by omega
              refine gsel_nf hbi ?_
              refine bin_geq ?_
              refine pick_f hbi ?_
              by_cases hkk : 65536 ≤ k
              · refine cond_t (show (k : Int) ≥ 65536 by omega) ?_
                refine bad ?_
                unfold badT
                rw [decide_eq_true hkk]; simp
              · refine cond_f (show ¬ (k : Int) ≥ 65536 by omega) ?_
                have hbd : badT b i k = false := by unfold badT; rw [hs4, decide_eq_false hbig, decide_eq_false hkk]; rfl
                have hst4 : (gtE b (i, false) 2).2 = (i + 2, false) := Prod.ext hat4.2 hs4
                rw [hst4] at hy4
                have hnx : nxtT b i = i + 2 + (gtE b (i, false) 2).1 := by unfold nxtT; rfl
                have hgot : gotT b i = getP ((b.drop (i + 2)).take (gtE b (i, false) 2).1) := by unfold gotT; rw [hat4.2]
                rw [hat4.2] at hbig hle2
                have hgt : getP ((b.take (nxtT b i)).drop (i + 2)) = gotT b i := by
                  rw [hgot, List.drop_take, hnx, show i + 2 + (gtE b (i, false) 2).1 - (i + 2) = (gtE b (i, false) 2).1 by omega]
                have hnl : nxtT b i ≤ b.length := by omega
                have hcut : RB w4.drew (if c = i + 2 then a else a.map (·.add ((i + 2) * 1))) (nxtT b i - (i + 2)) (c - (i + 2)) ((b.take (nxtT b i)).drop (i + 2)) := RB.cut (RV.drew hr4) (i + 2) (nxtT b i) c (by omega) (by omega) (by omega) (Nat.le_refl _)
                have hy4 : blk w4.drew y 75 (eyC a n c (i + 2, false)) := hy4.drew
                have hr4 : RB w4.drew a n c b := RV.drew hr4
                have I4 : I l w4.drew := hst l w4 w4.drew I4 (.of_below (Below.refl _ w4).drew)
                have hlt4 : y < w4.drew.heap.size := hlt4
                clear hbi bad hst4 hy3 hr3 I3 hlt3 o4
                generalize w4.drew = w5 at *
                have got : ∀ (B : Nat) (wz : World) (v : Value), (match getP ((b.take (nxtT b i)).drop (i + 2)) with | none => v = .tuple #[.agg stp0.toArray, .int .i64 5] | some s => ∃ a' c', RH wz B a' s.picks.length c' s.picks ∧ v = .tuple #[.agg (stC s (.slice a' s.picks.length c')).toArray, .int .i64 0]) →
                    ∃ (cs : List Value) (e : Int), v = .tuple #[.agg cs.toArray, .int .i64 e] ∧ cs.length = 12 ∧ (∀ u ∈ cs, u.oneCell' = true) ∧ ((gotT b i = none ∧ e = 5) ∨ ∃ s a' c', gotT b i = some s ∧ cs = stC s (.slice a' s.picks.length c') ∧ e = 0 ∧ RN wz a' s.picks.length c' s.picks ∧ ∀ q, q < s.picks.length → B ≤ (slotA a' q).block) := by
                  intro B wz v hv
                  rw [hgt] at hv
                  cases hq : gotT b i with
                  | none => rw [hq] at hv; exact ⟨stp0, 5, hv, rfl, by simp [stp0, i6, Value.oneCell'], .inl ⟨rfl, rfl⟩⟩
                  | some s =>
                    rw [hq] at hv
                    obtain ⟨a', c', hrh, hv⟩ := hv
                    exact ⟨stC s (.slice a' s.picks.length c'), 0, hv, rfl, by simp [stC, i6, Value.oneCell'], .inr ⟨s, a', c', rfl, rfl, rfl, hrh.1, hrh.2⟩⟩
                have no2 : ∀ w', I l w' → RB w' a n c b → gotT b i = none → K (.tuple #[.int .i64 0, .bool false]) w' := fun w' hI hR hq => no w' hI hR (runA_none hin hbd hq)
                refine hReg_of (fun x => blk x y 75 (eyC a n c (i + 2, false))) hy4 ?_
                refine hld_of (fun x hx K hK => nilC_p hK) ?_
                refine hld_of (fun x hx K hK => fA_Eye_1 hK) ?_
                refine hld_of (v := .int .i64 ((i + 2 : Nat) : Int)) (fun x hx K hK => ld1 (fun _ => by kernel_rfl) hx rfl hK) ?_
                refine hld_of (fun x hx K hK => nilC_p hK) ?_
                refine hld_of (fun x hx K hK => fA_Eye_1 hK) ?_
                refine hld_of (v := .int .i64 ((i + 2 : Nat) : Int)) (fun x hx K hK => ld1 (fun _ => by kernel_rfl) hx rfl hK) ?_
                refine hld_of (v := .int .i64 ((nxtT b i : Nat) : Int)) (fun x hx K hK => add64 (by omega) (by omega) (by rw [show ((i + 2 : Nat) : Int) + ((gtE b (i, false) 2).1 : Nat) = ((nxtT b i : Nat) : Int) by omega]; exact hK)) ?_
                refine hld_of (v := .slice (if c = i + 2 then a else a.map (·.add ((i + 2) * 1))) (nxtT b i - (i + 2)) (c - (i + 2))) (fun x hx K hK => slcLMt hcap (by omega) (by omega) hK) ?_
                refine ⟨?_, ?_⟩
                · refine tget_c hcut (by omega) fun w6 v b6 hv => ?_
                  obtain ⟨cs, e, rfl, hl, h1c, hres⟩ := got _ w6 v hv
                  refine hReg_of (fun _ => True) trivial ?_
                  refine hld_of (fun x hx K hK => ext_a hK) ?_
                  refine hld_of (fun x hx K hK => ext_b hK) ?_
                  refine alc_of (z := .agg stp0.toArray) (by kernel_rfl) fun w7 h7 b7 s7 => ?_
                  refine hSub_same trivial ?_
                  refine stoA (n := 12) (vs := cs) (by kernel_rfl) hl h7 (by simp [stp0, Value.cells]) h1c fun w8 h8 o8 => ?_
                  refine hSub_same trivial ?_
                  have h8 : blk w8 w6.heap.size 27 cs := by
                    rw [List.take_zero, List.nil_append, List.drop_of_length_le (by simp [stp0, Value.cells]), List.append_nil] at h8
                    exact h8
                  have b68 : Below w6.heap.size w6 w8 := b7.trans o8.below
                  have b58 : Below w5.heap.size w5 w8 := b6.trans (b68.mono b6.size)
                  have hsz6 := b6.size
                  refine eachA_c (sb := w6.heap.size) (cs := cs) (e := e) hst hcall hbl hlen hn (by omega) hll hnx hnl no2 h8 (by omega) hl ?_ (below_blk b58 hy4 hlt4) (hr4.below b58 (Nat.le_refl _)) (hst l w5 w8 I4 (.of_below b58)) (Nat.lt_of_lt_of_le hlt4 b58.size) rfl rfl rfl rfl rfl rfl ?_
                  · rcases hres with hres | ⟨s, a', c', g1, g2, g3, g4, g5⟩
                    · exact .inl hres
                    · exact .inr ⟨s, a', c', g1, g2, g3, g4.below b68 (Nat.le_refl _), fun q hq => by have := g5 q hq; omega⟩
                  · rintro e2 w9 hk9 ⟨s, hg, hy9, hr9, hI9, hlt9⟩
                    refine ⟨⟨k + 1, nxtT b i, l ++ [(s, nxtT b i)], by rw [hk9]; simp, hnl, by omega, hy9, hr9, hI9, hlt9, ?_, by simp [hll]⟩, by rw [hmm]; show 65537 - (intOf (gd e2 8)).toNat < _; rw [hk9]; simp [intOf]; omega⟩
                    rw [hrun, runA_some hin hbd hg, List.append_assoc]; rfl
                · refine alc_of (z := .agg stp0.toArray) (by kernel_rfl) fun w6 h6 b6 s6 => ?_
                  refine hSub_same (below_blk b6 hy4 hlt4) ?_
                  refine tget_c (hcut.below b6 (Nat.le_refl _)) (by omega) fun w7 v b7 hv => ?_
                  obtain ⟨cs, e, rfl, hl, h1c, hres⟩ := got _ w7 v hv
                  refine hReg_of (fun _ => True) trivial ?_
                  refine hld_of (fun x hx K hK => ext_a hK) ?_
                  refine hld_of (fun x hx K hK => ext_b hK) ?_
                  have h7 := below_blk b7 h6 h6.lt
                  refine stoA (n := 12) (vs := cs) (by kernel_rfl) hl h7 (by simp [stp0, Value.cells]) h1c fun w8 h8 o8 => ?_
                  refine hSub_same trivial ?_
                  have h8 : blk w8 w5.heap.size 27 cs := by
                    rw [List.take_zero, List.nil_append, List.drop_of_length_le (by simp [stp0, Value.cells]), List.append_nil] at h8
                    exact h8
                  have b58 : Below w5.heap.size w5 w8 := (b6.trans (b7.mono (by omega))).trans o8.below
                  refine eachA_c (sb := w5.heap.size) (cs := cs) (e := e) hst hcall hbl hlen hn (by omega) hll hnx hnl no2 h8 (by omega) hl ?_ (below_blk b58 hy4 hlt4) (hr4.below b58 (Nat.le_refl _)) (hst l w5 w8 I4 (.of_below b58)) (Nat.lt_of_lt_of_le hlt4 b58.size) rfl rfl rfl rfl rfl rfl ?_
                  · rcases hres with hres | ⟨s, a', c', g1, g2, g3, g4, g5⟩
                    · exact .inl hres
                    · exact .inr ⟨s, a', c', g1, g2, g3, rv_same g4 (fun k _ hk => o8.other k hk) (fun q hq => by have := g5 q hq; omega), fun q hq => by have := g5 q hq; omega⟩
                  · rintro e2 w9 hk9 ⟨s, hg, hy9, hr9, hI9, hlt9⟩
                    refine ⟨⟨k + 1, nxtT b i, l ++ [(s, nxtT b i)], by rw [hk9]; simp, hnl, by omega, hy9, hr9, hI9, hlt9, ?_, by simp [hll]⟩, by rw [hmm]; show 65537 - (intOf (gd e2 8)).toNat < _; rw [hk9]; simp [intOf]; omega⟩
                    rw [hrun, runA_some hin hbd hg, List.append_assoc]; rfl
        · refine cond_f (by omega) ?_
          refine trace_each_P1_r ?_
          have := h w3
          rw [hrun, runA_end hin, List.append_nil] at this
          exact this I3 hr3
end
end Go.Proofs.YtfjafbbalohmhaaGreatDoor
namespace Go.Proofs.YtfjafbbalohmhaaGreatDoor
set_option maxRecDepth 100000
def encS (s : STP) : List UInt8 := beBytes (putT s).length 2 ++ putT s
def bytesT (n : Nat) (l : List STP) : List UInt8 := beBytes n 1 ++ l.flatMap encS
def endsT (l : List (STP × Nat)) : List Nat := 1 :: l.map (·.2)
theorem badT_f {b : List UInt8} {i k : Nat} (h : badT b i k = false) : (gtE b (i, false) 2).2.2 = false ∧ ¬ b.length - (gtE b (i, false) 2).2.1 < (gtE b (i, false) 2).1 ∧ k < 65536 := by
  unfold badT at h
  simp only [Bool.or_eq_false_iff, decide_eq_false_iff_not] at h
  exact ⟨h.1.1, h.1.2, by omega⟩
theorem step_at {b : List UInt8} {i k : Nat} {s : STP} (hb : badT b i k = false) (hg : gotT b i = some s) : nxtT b i ≤ b.length ∧ b.take (nxtT b i) = b.take i ++ encS s ∧ mayT s = true ∧ STW s := by
  obtain ⟨h1, h2, _⟩ := badT_f hb
  obtain ⟨g1, g2, g3⟩ := gtE_back h1
  have hat : (gtE b (i, false) 2).2.1 = i + 2 := by rw [g2]
  have hn : nxtT b i = i + 2 + (gtE b (i, false) 2).1 := rfl
  unfold gotT at hg
  rw [hat] at h2 hg
  obtain ⟨m1, m2, m3⟩ := getP_some hg
  have hl : (putT s).length = (gtE b (i, false) 2).1 := by rw [m2, List.length_take, List.length_drop]; omega
  have he : encS s = (b.drop i).take (2 + (gtE b (i, false) 2).1) := by
    unfold encS
    rw [hl, g3, m2, List.take_add, List.drop_drop]
  refine ⟨by omega, ?_, m1, m3⟩
  rw [he, hn, Nat.add_assoc, List.take_add]
theorem run_at {b : List UInt8} : ∀ (f i k : Nat) (l : List (STP × Nat)), runT b f i k = (l, true) → i ≤ b.length → ∀ m, m ≤ l.length →
    i ≤ (i :: l.map (·.2)).getD m 0 ∧ (i :: l.map (·.2)).getD m 0 ≤ b.length ∧ b.take ((i :: l.map (·.2)).getD m 0) = b.take i ++ ((l.take m).map (·.1)).flatMap encS
  | 0, i, k, l, h, hi, m, hm => by simp [runT] at h
  | f + 1, i, k, l, h, hi, 0, hm => by simp [hi]
  | f + 1, i, k, l, h, hi, m + 1, hm => by
    simp only [runT] at h
    split at h
    · cases h; simp at hm
    · cases h
    · cases h
    · rename_i s _ hb hg
      obtain ⟨h1, h2, h3, h4⟩ := step_at hb hg
      obtain ⟨l', hl'⟩ : ∃ l', runT b f (nxtT b i) (k + 1) = (l', true) := ⟨_, Prod.ext rfl (Prod.mk.inj h).2⟩
      have hl : l = (s, nxtT b i) :: l' := by rw [← (Prod.mk.inj h).1, hl']
      subst hl
      have ih := run_at f (nxtT b i) (k + 1) l' hl' h1 m (by simpa using hm)
      have hgt := nxtT_gt b i
      have e : (i :: ((s, nxtT b i) :: l').map (·.2)).getD (m + 1) 0 = (nxtT b i :: l'.map (·.2)).getD m 0 := by simp
      rw [e]
      refine ⟨by omega, ih.2.1, ?_⟩
      rw [ih.2.2, h2]
      simp
theorem each_at {b : List UInt8} (h : (eachT b).2.2 = true) {m : Nat} (hm : m ≤ (eachT b).1.length) :
    (endsT (eachT b).1).getD m 0 ≤ b.length ∧ b.take ((endsT (eachT b).1).getD m 0) = bytesT (eachT b).2.1 (((eachT b).1.take m).map (·.1)) ∧ 1 ≤ (eachT b).2.1 ∧ (eachT b).2.1 ≤ 6 ∧ (eachT b).1.length ≤ b.length := by
  by_cases hq : (gtE b (0, false) 1).2.2 = true ∨ (gtE b (0, false) 1).1 < 1 ∨ 6 < (gtE b (0, false) 1).1
  · have e : eachT b = ([], 0, false) := by unfold eachT; simp only; rw [if_pos hq]
    rw [e] at h; cases h
  · have e : eachT b = ((runA b 1 0).1, (if (runA b 1 0).2 then (gtE b (0, false) 1).1 else 0), (runA b 1 0).2) := by
      unfold eachT; simp only; rw [if_neg hq]
    rw [e] at h hm ⊢
    simp only at h hm ⊢
    have hs : (gtE b (0, false) 1).2.2 = false := by
      cases hh : (gtE b (0, false) 1).2.2 with
      | false => rfl
      | true => exact absurd (.inl hh) hq
    obtain ⟨g1, g2, g3⟩ := gtE_back hs
    rw [h]
    simp only [if_true]
    have hr : runT b (b.length + 1 - 1 + 1) 1 0 = ((runA b 1 0).1, true) := Prod.ext rfl h
    obtain ⟨r1, r2, r3⟩ := run_at _ _ _ _ hr (by omega) m hm
    refine ⟨r2, ?_, by omega, by omega, ?_⟩
    · unfold endsT
      rw [r3]
      unfold bytesT
      rw [g3]; simp
    · obtain ⟨x1, x2, x3⟩ := run_at _ _ _ _ hr (by omega) (runA b 1 0).1.length (Nat.le_refl _)
      have hl := congrArg List.length x3
      rw [List.length_take, List.length_append, List.take_length] at hl
      have : ∀ L : List STP, L.length ≤ (L.flatMap encS).length := by
        intro L
        induction L with
        | nil => simp
        | cons s L ih => simp only [List.flatMap_cons, List.length_append, List.length_cons, encS, beBytes_len]; omega
      have := this ((runA b 1 0).1.map (·.1))
      rw [List.length_map] at this
      omega
end Go.Proofs.YtfjafbbalohmhaaGreatDoor
namespace Go.Proofs.YtfjafbbalohmhaaGreatDoor
set_option maxRecDepth 100000
open Go.RowKit Go.ChangeMaps
def slN : Value → Nat
  | .slice _ n _ => n
  | _ => 0
theorem flat_at {α : Type} {enc : α → List Value} {s : Nat} (hs : ∀ x, (enc x).length = s) : ∀ (L : List α) (i : Nat) (x : α) (j : Nat), L[i]? = some x → j < s → (L.flatMap enc)[i * s + j]? = (enc x)[j]?
  | [], i, x, j, h, _ => by simp at h
  | y :: L, 0, x, j, h, hj => by
    simp at h; subst h
    rw [List.flatMap_cons, Nat.zero_mul, Nat.zero_add, List.getElem?_append_left (by rw [hs]; exact hj)]
  | y :: L, i + 1, x, j, h, hj => by
    rw [List.flatMap_cons, List.getElem?_append_right (by rw [hs, Nat.succ_mul]; omega), hs, show (i + 1) * s + j - s = i * s + j by rw [Nat.succ_mul]; omega]
    exact flat_at hs L i x j (by simpa using h) hj

section
variable {P : Program} {w w' : World} {K : KV} {t : TypeId} {g B n c s : Nat} {e : TypeId} {v : Value} {xs : List Value} {α : Type} {enc : α → List Value} {L : List α}
theorem app_at {e ty : TypeId} {cs : Array Bool} {base : Nat} {i : TypeInfo} {z : Value} {bytes s : Nat} (ht : P.underlying t = some (.slice e)) (hi : P.info? e = some i) (hz : i.zero = some z)
    (hsize : i.size = s) (hby : i.bytes = bytes) (hzs : z.cells.size = s) (hs0 : 0 < s)
    {av : Option Addr} {n c : Nat} {xs : List Value} (hown : w.ownsRow base e s (.slice av n c) n xs) {g : Nat} {m c2 : Nat} {ys : List Value} (hy : blk w g e ys) (hyl : ys.length = m * s) (h1 : ∀ u ∈ ys, u.oneCell' = true)
    (hbytes : (n + m) * bytes ≤ 140737488355328) (h63 : n + m ≤ 9223372036854775807) (hbase : base ≤ w.heap.size)
    (h : ∀ a' c' w', w'.ownsRow base e s (.slice a' (n + m) c') (n + m) (xs ++ ys) → w.grownBy w' (Value.slice av n c).ownBlock → ((Value.slice a' (n + m) c').ownBlock = (Value.slice av n c).ownBlock ∨ (Value.slice a' (n + m) c').ownBlock = some w.heap.size) → K (.slice a' (n + m) c') w') :
    blt P .append #[t, t] ty cs #[.slice av n c, .slice (some ⟨g, 0, none⟩) m c2] K w := by
  have hn : ∀ j u, ys[j]? = some u → w.cell? ((⟨g, 0, none⟩ : Addr).add j) = some u := by
    intro j u hj
    rw [add_p, hy.cell, Nat.zero_add]
    exact hj
  obtain ⟨v', w', hr, h2, h3, _, h5⟩ := run_append_own_at (P := P) w base t ty e i z s bytes ht hi hz hsize hby hzs hs0 _ n xs hown ⟨g, 0, none⟩ m c2 ys hyl hn h1 (by simp only [maxLen]; omega) hbytes hbase
  obtain ⟨a', c', rfl⟩ : ∃ a' c', v' = .slice a' (n + m) c' := by
    rcases h2.2 with ⟨hv, hn⟩ | ⟨g, cap, cur, hv, _⟩
    · exact ⟨none, 0, by rw [hv, hn]⟩
    · exact ⟨_, cap, hv⟩
  exact blt_of (by rw [BigFrame.builtin_append]; simp only [Sem.run_bind, hr, Result.andThen_ok, Sem.run_pure]) (h a' c' w' h2 h3 h5)
structure Opn (w : World) (B : Nat) (e : TypeId) (s n c g : Nat) (cur : List Value) (xs : List Value) : Prop where
  blk : blk w g e cur
  lo : B ≤ g
  nc : n ≤ c
  cm : c ≤ maxLen
  len : cur.length = c * s
  take : cur.take (n * s) = xs
  xl : xs.length = n * s
theorem own_open {a : Option Addr} (hr : w.ownsRow B e s (.slice a n c) n xs) (h0 : 0 < n) : ∃ g cur, a = some ⟨g, 0, none⟩ ∧ Opn w B e s n c g cur xs := by
  rcases hr.2 with ⟨_, hz⟩ | ⟨g, cap, cur, hv, hg, hh, hn, hcm, hsz2, htk⟩
  · omega
  simp only [Value.slice.injEq] at hv
  obtain ⟨rfl, _, rfl⟩ := hv
  exact ⟨g, cur.toList, rfl, hh, hg, hn, hcm, by simpa using hsz2, htk, hr.1⟩
theorem Opn.own {cur : List Value} (h : Opn w B e s n c g cur xs) : w.ownsRow B e s (.slice (some ⟨g, 0, none⟩) n c) n xs :=
  ⟨h.xl, .inr ⟨g, c, cur.toArray, rfl, h.lo, h.blk, h.nc, h.cm, by simpa using h.len, by simpa using h.take⟩⟩
theorem flat_len (hs : ∀ x, (enc x).length = s) : ∀ L : List α, (L.flatMap enc).length = L.length * s
  | [] => by simp
  | x :: L => by rw [List.flatMap_cons, List.length_append, hs, flat_len hs L, List.length_cons, Nat.succ_mul]; omega
theorem flat_set (hs : ∀ x, (enc x).length = s) : ∀ (L : List α) (i : Nat) (x : α), i < L.length → (L.flatMap enc).take (i * s) ++ enc x ++ (L.flatMap enc).drop (i * s + s) = (L.set i x).flatMap enc
  | [], i, x, h => by simp at h
  | y :: L, 0, x, _ => by
    simp only [Nat.zero_mul, List.take_zero, List.nil_append, Nat.zero_add, List.set_cons_zero, List.flatMap_cons]
    rw [List.drop_append_of_le_length (by rw [hs]; exact Nat.le_refl _), List.drop_of_length_le (by rw [hs]; exact Nat.le_refl _), List.nil_append]
  | y :: L, i + 1, x, h => by
    have ih := flat_set hs L i x (by simpa using h)
    simp only [List.set_cons_succ, List.flatMap_cons]
    rw [← ih, Nat.succ_mul]
    have e1 : i * s + s = (enc y).length + i * s := by rw [hs]; omega
    have e2 : i * s + s + s = (enc y).length + (i * s + s) := by rw [hs]; omega
    rw [e2, List.drop_length_add_append, e1, List.take_length_add_append]
    simp [List.append_assoc]
theorem Opn.set {cur : List Value} {i : Nat} {x : α} (hs : ∀ x, (enc x).length = s) (h : Opn w B e s n c g cur (L.flatMap enc)) (hl : L.length = n) (hi : i < n) (hb : Go.Proofs.YtfjafbbalohmhaaGreatDoor.blk w' g e (cur.take (i * s) ++ enc x ++ cur.drop (i * s + s))) :
    Opn w' B e s n c g (cur.take (i * s) ++ enc x ++ cur.drop (i * s + s)) ((L.set i x).flatMap enc) := by
  have h1 : (i + 1) * s ≤ n * s := Nat.mul_le_mul_right _ hi
  have h2 : n * s ≤ c * s := Nat.mul_le_mul_right _ h.nc
  rw [Nat.succ_mul] at h1
  have hl2 := h.len
  refine ⟨hb, h.lo, h.nc, h.cm, ?_, ?_, ?_⟩
  · simp only [List.length_append, List.length_take, List.length_drop, hs]; omega
  · rw [← flat_set hs L i x (by omega), ← h.take]
    rw [List.take_append, List.take_append]
    simp only [List.length_append, List.length_take, hs]
    rw [List.take_take, List.take_of_length_le (l := enc x) (by rw [hs]; omega)]
    rw [List.take_take, show min (n * s) (i * s) = i * s by omega, show min (i * s) (n * s) = i * s by omega, List.drop_take]
    congr 2
    omega
  · rw [flat_len hs, List.length_set, hl]
theorem Opn.elem {cur : List Value} {i : Nat} {x : α} (hs : ∀ x, (enc x).length = s) (h : Opn w B e s n c g cur (L.flatMap enc)) (hl : L.length = n) (hx : L[i]? = some x) : (cur.drop (i * s)).take s = enc x := by
  have hi : i < n := by rw [← hl]; exact (List.getElem?_eq_some_iff.1 hx).1
  have h1 : (i + 1) * s ≤ n * s := Nat.mul_le_mul_right _ hi
  rw [Nat.succ_mul] at h1
  have e : (cur.drop (i * s)).take s = ((cur.take (n * s)).drop (i * s)).take s := by
    rw [List.drop_take, List.take_take]; congr 1; omega
  rw [e, h.take]
  apply List.ext_getElem?
  intro j
  by_cases hj : j < s
  · rw [List.getElem?_take_of_lt hj, List.getElem?_drop, flat_at hs L i x j hx hj]
  · rw [List.getElem?_eq_none (by simp; omega), List.getElem?_eq_none (by rw [hs]; omega)]
theorem Opn.cell {cur : List Value} {i j : Nat} {x : α} (hs : ∀ x, (enc x).length = s) (h : Opn w B e s n c g cur (L.flatMap enc)) (hl : L.length = n) (hx : L[i]? = some x) (hj : j < s) : cur[i * s + j]? = (enc x)[j]? := by
  rw [← h.elem hs hl hx, List.getElem?_take_of_lt hj, List.getElem?_drop]
end
end Go.Proofs.YtfjafbbalohmhaaGreatDoor
