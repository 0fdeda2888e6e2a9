/- The audit of the program, on: what is said. -/
import Derived.Test.YtcieejlkdfdpiaaAud
namespace Go.Proofs.Ytcieejlkdfdpiaa
set_option maxRecDepth 100000
open Go.RowKit Go.ChangeMaps
attribute [local irreducible] bin un conv call callV blt slc fldA fld idxA idx lkp mUpd mEnt eSt rng nxt ent ext alc box bld bldS ld sto nilC mkMap mkS ifc pick rdy wts gsel sti cond retM Gives cCode cGrp cSeq cOp
section
variable {w : World} {K : KV}
theorem nd_zero : ∀ w, (zeroValue 68).run Try.prog w = .ok (ndV (0, 0)) w := fun w => by kernel_rfl
theorem tk_zero : ∀ w, (zeroValue 74).run Try.prog w = .ok (ndV (0, 0)) w := fun w => by kernel_rfl
theorem i64_zero : ∀ w, (zeroValue 2).run Try.prog w = .ok (i64v 0) w := fun w => by kernel_rfl
theorem bool_zero : ∀ w, (zeroValue 4).run Try.prog w = .ok (.bool false) w := fun w => by kernel_rfl

def ansOk (cs : List Value) (o s e : Int) : Prop := cs.length = 15 ∧ cs[0]? = some (.int .i64 o) ∧ cs[1]? = some (.int .u64 s) ∧ cs[14]? = some (.int .i64 e)

theorem say_nil {who k x : Value} (h : ∀ w', Below w.heap.size w w' → K (.tuple #[]) w') : call Try.prog 8 #[.pointer none, who, k, x] K w := by
  refine call_of audit_Audit_Say_go (audit_Audit_Say_in ?_)
  refine box_of ?_
  intro w1 _ b1 _
  refine box_of ?_
  intro w2 _ b2 _
  (repeat (first | refine eqA_none ?_ | refine pick_T ?_ | refine cond_T ?_ | refine gsel_Tn ?_ | refine gsel_U ?_))
  exact h w2 (b1.trans (b2.mono b1.size))

theorem foot_lt {f : AF} {S : AS} (ha : AK w f S) : ∀ x ∈ f.foot, x < w.heap.size := by
  intro x hx
  simp [AF.foot] at hx
  rcases hx with rfl | rfl | rfl | rfl
  · exact ha.m1.lt
  · exact ha.m2.lt
  · exact ha.m3.lt
  · exact ha.m4.lt
theorem head_foot {f : AF} {S : AS} (ha : AK w f S) : f.p ∉ f.foot := by
  simp [AF.foot]
  exact ⟨blk_map ha.head ha.m1, blk_map ha.head ha.m2, blk_map ha.head ha.m3, blk_map ha.head ha.m4⟩
theorem AK.set1 {w' : World} {f : AF} {S : AS} {m : List (Int × (Int × Int))} (ha : AK w f S) (ho : Oth f.b1 w w') (hm : MB u64v ndV w' f.b1 m) : AK w' f { S with nodes := m } := by
  have hd := ha.dis
  simp [AF.foot] at hd
  exact ⟨ho.blk ha.head (blk_map ha.head ha.m1), hm, ha.m2.oth ho (by omega), ha.m3.oth ho (by omega), ha.m4.oth ho (by omega), ha.dis⟩
theorem AK.set2 {w' : World} {f : AF} {S : AS} {m : List (Int × Int)} (ha : AK w f S) (ho : Oth f.b2 w w') (hm : MB u64v i64v w' f.b2 m) : AK w' f { S with raises := m } := by
  have hd := ha.dis
  simp [AF.foot] at hd
  exact ⟨ho.blk ha.head (blk_map ha.head ha.m2), ha.m1.oth ho (by omega), hm, ha.m3.oth ho (by omega), ha.m4.oth ho (by omega), ha.dis⟩
theorem AK.set3 {w' : World} {f : AF} {S : AS} {m : List ((Int × Int) × (Int × Int))} (ha : AK w f S) (ho : Oth f.b3 w w') (hm : MB nmV ndV w' f.b3 m) : AK w' f { S with takes := m } := by
  have hd := ha.dis
  simp [AF.foot] at hd
  exact ⟨ho.blk ha.head (blk_map ha.head ha.m3), ha.m1.oth ho (by omega), ha.m2.oth ho (by omega), hm, ha.m4.oth ho (by omega), ha.dis⟩
theorem AK.set4 {w' : World} {f : AF} {S : AS} {m : List ((Int × Int) × Bool)} (ha : AK w f S) (ho : Oth f.b4 w w') (hm : MB nmV Value.bool w' f.b4 m) : AK w' f { S with back := m } := by
  have hd := ha.dis
  simp [AF.foot] at hd
  exact ⟨ho.blk ha.head (blk_map ha.head ha.m4), ha.m1.oth ho (by omega), ha.m2.oth ho (by omega), ha.m3.oth ho (by omega), hm, ha.dis⟩

abbrev TAu : TypeId := 65
theorem say_A1 {a0 who1 k_2 x3 a4 who5 k_6 x7 id8 t9 is10 q11 t12 is13 t14 t15 t16 t17 t18 t19 t20 t21 t22 t23 t24 t25 t26 t27 t28 t29 t30 t31 t32 t33 t34 t35 t36 t37 t38 t39 t40 t41 t42 t43 t44 t45 t46 t47 t48 t49 t50 t51 t52 t53 t54 t55 t56 t57 t58 t59 t60 t61 t62 t63 t64 t65 t66 t67 t68 t69 t70 t71 t72 t73 t74 t75 t76 t77 t78 t79 t80 t81 t82 t83 t84 t85 t86 t87 t88 t89 t90 t91 t92 t93 t94 t95 t96 t97 t98 t99 t100 t101 t102 t103 t104 t105 t106 t107 t108 t109 t110 t111 t112 t113 t114 t115 t116 t117 t118 t119 t120 t121 t122 t123 t124 t125 : Value} {f : AF} {S : AS} {a : Ak} {id : Int} {kb : Nat} (ha : AK w f S) (e0 : a0 = ptr f.p) (e1 : id8 = .int .u64 id) (e2 : k_6 = ptr kb) (hk : blk w kb 35 (askC a))
    (h : ∀ w', AK w' f (if id ≠ 0 ∧ mget S.nodes id = none then { S with nodes := mput S.nodes id (a.node, withinS a.amount) } else S) → Ch f.foot w w' → K (.tuple #[]) w') : audit_Audit_Say_A1 K ((a0 :: who1 :: k_2 :: x3 :: a4 :: who5 :: k_6 :: x7 :: id8 :: t9 :: is10 :: q11 :: t12 :: is13 :: t14 :: t15 :: t16 :: t17 :: t18 :: t19 :: t20 :: t21 :: t22 :: t23 :: t24 :: t25 :: t26 :: t27 :: t28 :: t29 :: t30 :: t31 :: t32 :: t33 :: t34 :: t35 :: t36 :: t37 :: t38 :: t39 :: t40 :: t41 :: t42 :: t43 :: t44 :: t45 :: t46 :: t47 :: t48 :: t49 :: t50 :: t51 :: t52 :: t53 :: t54 :: t55 :: t56 :: t57 :: t58 :: t59 :: t60 :: t61 :: t62 :: t63 :: t64 :: t65 :: t66 :: t67 :: t68 :: t69 :: t70 :: t71 :: t72 :: t73 :: t74 :: t75 :: t76 :: t77 :: t78 :: t79 :: t80 :: t81 :: t82 :: t83 :: t84 :: t85 :: t86 :: t87 :: t88 :: t89 :: t90 :: t91 :: t92 :: t93 :: t94 :: t95 :: t96 :: t97 :: t98 :: t99 :: t100 :: t101 :: t102 :: t103 :: t104 :: t105 :: t106 :: t107 :: t108 :: t109 :: t110 :: t111 :: t112 :: t113 :: t114 :: t115 :: t116 :: t117 :: t118 :: t119 :: t120 :: t121 :: t122 :: t123 :: t124 :: t125 :: [])) w := by
  subst e0 e1 e2
  have hhead := ha.head
  refine audit_Audit_Say_A1_r ?_
  (repeat (first | refine nilC_p ?_ | refine fA_Aud_0 ?_ | (refine ld_AL_5 ?_ (by assumption) ?_ ?_; rotate_left; exact rfl)))
  refine lkp2 u64K Try.underlying60 nd_zero ha.m1 ?_
  (repeat (first | refine ext_a ?_ | refine ext_b ?_))
  refine alc_of (z := ndV (0, 0)) (by kernel_rfl) ?_
  intro w1 hb1 b1 _
  refine stoA (n := 2) (vs := [.int .u64 ((mget S.nodes id).getD (0, 0)).1, .int .i64 ((mget S.nodes id).getD (0, 0)).2]) (by kernel_rfl) rfl hb1 (by simp [ndV, Value.cells]) (by simp [Value.oneCell']) ?_
  intro w2 _ o2
  have b2 : Below w.heap.size w w2 := b1.trans o2.below
  have ha2 := ha.below b2
  have hk2 := below_blk b2 hk hk.lt
  have c2 : Ch f.foot w w2 := Ch.of_below b2
  by_cases hid : id = 0
  · rw [if_neg (fun hh => hh.1 hid)] at h
    (repeat (first | refine gsel_pf (fun hh => hh hid) ?_ | refine pick_f (fun hh => hh hid) ?_ | refine bin_neq ?_ | refine cond_F ?_))
    exact h w2 ha2 c2
  cases hg : mget S.nodes id with
  | some v =>
    rw [if_neg (fun hh => by rw [hg] at hh; cases hh.2)] at h
    (repeat (first | refine gsel_pt hid ?_ | refine pick_t hid ?_ | refine un_not ?_ | refine bin_neq ?_ | refine cond_F ?_))
    exact h w2 ha2 c2
  | none =>
    rw [if_pos ⟨hid, hg⟩] at h
    (repeat (first | refine gsel_pt hid ?_ | refine pick_t hid ?_ | refine un_not ?_ | refine bin_neq ?_ | refine cond_T ?_))
    have hd2 := ha2.head
    have bd : Below w2.heap.size w2 w2.drew := (Below.refl _ w2).drew
    refine hReg_of (fun x => blk x f.p TAu [.map (some f.b1), .map (some f.b2), .map (some f.b3), .map (some f.b4)] ∧ blk x kb 35 (askC a)) ⟨hd2.drew, hk2.drew⟩ ?_
    refine hld_of (fun x hx K hK => nilC_p hK) ?_
    refine hld_of (fun x hx K hK => fA_Aud_0 hK) ?_
    refine hld_of (fun x hx K hK => ld1 (v := .map (some f.b1)) (fun _ => by kernel_rfl) hx.1 rfl hK) ?_
    refine hld_of (fun x hx K hK => fA_Ask_1 hK) ?_
    refine hld_of (fun x hx K hK => ld1 (v := .int .u64 a.node) (fun _ => by kernel_rfl) hx.2 rfl hK) ?_
    refine hld_of (fun x hx K hK => fA_Ask_3 hK) ?_
    refine hld_of (fun x hx K hK => ld1 (v := .int .i64 a.amount) (fun _ => by kernel_rfl) hx.2 rfl hK) ?_
    refine within_c ?_
    refine hSub_same ⟨hd2.drew, hk2.drew⟩ ?_
    refine hld_of (fun x hx K hK => bld_of (vs := [.int .u64 a.node, .int .i64 (withinS a.amount)]) (by kernel_rfl) hK) ?_
    have ha3 := ha2.below bd
    refine mUpd_of (v := (a.node, withinS a.amount)) u64K Try.underlying60 ha3.m1 ?_
    intro w4 m4 o4
    exact h w4 (ha3.set1 o4 m4) ((c2.trans (Ch.of_below (F := []) bd) (by simp)).trans (Ch.of_oth (F := f.foot) o4 (by simp [AF.foot])) (fun x hx => .inl hx))

theorem say_A4 {a0 who1 k_2 x3 a4 who5 k_6 x7 id8 t9 is10 q11 t12 is13 t14 t15 t16 t17 t18 t19 t20 t21 t22 t23 t24 t25 t26 t27 t28 t29 t30 t31 t32 t33 t34 t35 t36 t37 t38 t39 t40 t41 t42 t43 t44 t45 t46 t47 t48 t49 t50 t51 t52 t53 t54 t55 t56 t57 t58 t59 t60 t61 t62 t63 t64 t65 t66 t67 t68 t69 t70 t71 t72 t73 t74 t75 t76 t77 t78 t79 t80 t81 t82 t83 t84 t85 t86 t87 t88 t89 t90 t91 t92 t93 t94 t95 t96 t97 t98 t99 t100 t101 t102 t103 t104 t105 t106 t107 t108 t109 t110 t111 t112 t113 t114 t115 t116 t117 t118 t119 t120 t121 t122 t123 t124 t125 : Value} {f : AF} {S : AS} {a : Ak} {who : Int} {kb : Nat} (ha : AK w f S) (e0 : a0 = ptr f.p) (e1 : who1 = .int .i64 who) (e2 : k_6 = ptr kb) (hk : blk w kb 35 (askC a)) (et : t116 = .bool (decide (a.kind = 4)))
    (h : ∀ w', AK w' f (if a.kind = 4 then { S with back := mput S.back (who, a.of) true } else S) → Ch f.foot w w' → K (.tuple #[]) w') : audit_Audit_Say_A4 K ((a0 :: who1 :: k_2 :: x3 :: a4 :: who5 :: k_6 :: x7 :: id8 :: t9 :: is10 :: q11 :: t12 :: is13 :: t14 :: t15 :: t16 :: t17 :: t18 :: t19 :: t20 :: t21 :: t22 :: t23 :: t24 :: t25 :: t26 :: t27 :: t28 :: t29 :: t30 :: t31 :: t32 :: t33 :: t34 :: t35 :: t36 :: t37 :: t38 :: t39 :: t40 :: t41 :: t42 :: t43 :: t44 :: t45 :: t46 :: t47 :: t48 :: t49 :: t50 :: t51 :: t52 :: t53 :: t54 :: t55 :: t56 :: t57 :: t58 :: t59 :: t60 :: t61 :: t62 :: t63 :: t64 :: t65 :: t66 :: t67 :: t68 :: t69 :: t70 :: t71 :: t72 :: t73 :: t74 :: t75 :: t76 :: t77 :: t78 :: t79 :: t80 :: t81 :: t82 :: t83 :: t84 :: t85 :: t86 :: t87 :: t88 :: t89 :: t90 :: t91 :: t92 :: t93 :: t94 :: t95 :: t96 :: t97 :: t98 :: t99 :: t100 :: t101 :: t102 :: t103 :: t104 :: t105 :: t106 :: t107 :: t108 :: t109 :: t110 :: t111 :: t112 :: t113 :: t114 :: t115 :: t116 :: t117 :: t118 :: t119 :: t120 :: t121 :: t122 :: t123 :: t124 :: t125 :: [])) w := by
  subst e0 e1 e2 et
  refine audit_Audit_Say_A4_r ?_
  by_cases h4 : a.kind = 4
  · rw [if_pos h4] at h
    refine cond_t h4 ?_
    have bd : Below w.heap.size w w.drew := (Below.refl _ w).drew
    refine hReg_of (fun x => blk x f.p TAu [.map (some f.b1), .map (some f.b2), .map (some f.b3), .map (some f.b4)] ∧ blk x kb 35 (askC a)) ⟨ha.head.drew, hk.drew⟩ ?_
    refine hld_of (fun x hx K hK => nilC_p hK) ?_
    refine hld_of (fun x hx K hK => fA_Aud_3 hK) ?_
    refine hld_of (fun x hx K hK => ld1 (v := .map (some f.b4)) (fun _ => by kernel_rfl) hx.1 rfl hK) ?_
    refine hld_of (fun x hx K hK => fA_Ask_5 hK) ?_
    refine hld_of (fun x hx K hK => ld1 (v := .int .u64 a.of) (fun _ => by kernel_rfl) hx.2 rfl hK) ?_
    refine hld_of (fun x hx K hK => bld_of (vs := [.int .i64 who, .int .u64 a.of]) (by kernel_rfl) hK) ?_
    have ha3 := ha.below bd
    refine mUpd_of (x := (who, a.of)) (v := true) nmK Try.underlying63 ha3.m4 ?_
    intro w4 m4 o4
    exact h w4 (ha3.set4 o4 m4) ((Ch.of_below bd).trans (Ch.of_oth (F := f.foot) o4 (by simp [AF.foot])) (fun x hx => .inl hx))
  · rw [if_neg h4] at h
    refine cond_f h4 ?_
    exact h w ha (Ch.refl _ _)
abbrev TNm : TypeId := 72
abbrev TTk : TypeId := 74
theorem say_P1 {a0 who1 k_2 x3 a4 who5 k_6 x7 id8 t9 is10 q11 t12 is13 t14 t15 t16 t17 t18 t19 t20 t21 t22 t23 t24 t25 t26 t27 t28 t29 t30 t31 t32 t33 t34 t35 t36 t37 t38 t39 t40 t41 t42 t43 t44 t45 t46 t47 t48 t49 t50 t51 t52 t53 t54 t55 t56 t57 t58 t59 t60 t61 t62 t63 t64 t65 t66 t67 t68 t69 t70 t71 t72 t73 t74 t75 t76 t77 t78 t79 t80 t81 t82 t83 t84 t85 t86 t87 t88 t89 t90 t91 t92 t93 t94 t95 t96 t97 t98 t99 t100 t101 t102 t103 t104 t105 t106 t107 t108 t109 t110 t111 t112 t113 t114 t115 t116 t117 t118 t119 t120 t121 t122 t123 t124 t125 : Value} {f : AF} {S : AS} {who req node am : Int} {qb tb : Nat} (ha : AK w f S) (e0 : a0 = ptr f.p) (e1 : q11 = ptr qb) (hq : blk w qb TNm [.int .i64 who, .int .u64 req]) (e2 : t14 = ptr tb) (ht : blk w tb TTk [.int .u64 node, .int .i64 am])
    (h : ∀ w', AK w' f { S with takes := mput S.takes (who, req) (node, am) } → Ch f.foot w w' → K (.tuple #[]) w') : audit_Audit_Say_P1 K ((a0 :: who1 :: k_2 :: x3 :: a4 :: who5 :: k_6 :: x7 :: id8 :: t9 :: is10 :: q11 :: t12 :: is13 :: t14 :: t15 :: t16 :: t17 :: t18 :: t19 :: t20 :: t21 :: t22 :: t23 :: t24 :: t25 :: t26 :: t27 :: t28 :: t29 :: t30 :: t31 :: t32 :: t33 :: t34 :: t35 :: t36 :: t37 :: t38 :: t39 :: t40 :: t41 :: t42 :: t43 :: t44 :: t45 :: t46 :: t47 :: t48 :: t49 :: t50 :: t51 :: t52 :: t53 :: t54 :: t55 :: t56 :: t57 :: t58 :: t59 :: t60 :: t61 :: t62 :: t63 :: t64 :: t65 :: t66 :: t67 :: t68 :: t69 :: t70 :: t71 :: t72 :: t73 :: t74 :: t75 :: t76 :: t77 :: t78 :: t79 :: t80 :: t81 :: t82 :: t83 :: t84 :: t85 :: t86 :: t87 :: t88 :: t89 :: t90 :: t91 :: t92 :: t93 :: t94 :: t95 :: t96 :: t97 :: t98 :: t99 :: t100 :: t101 :: t102 :: t103 :: t104 :: t105 :: t106 :: t107 :: t108 :: t109 :: t110 :: t111 :: t112 :: t113 :: t114 :: t115 :: t116 :: t117 :: t118 :: t119 :: t120 :: t121 :: t122 :: t123 :: t124 :: t125 :: [])) w := by
  subst e0 e1 e2
  refine audit_Audit_Say_P1_r ?_
  have bd : Below w.heap.size w w.drew := (Below.refl _ w).drew
  refine hReg_of (fun x => blk x f.p TAu [.map (some f.b1), .map (some f.b2), .map (some f.b3), .map (some f.b4)] ∧ blk x qb TNm [.int .i64 who, .int .u64 req] ∧ blk x tb TTk [.int .u64 node, .int .i64 am]) ⟨ha.head.drew, hq.drew, ht.drew⟩ ?_
  refine hld_of (fun x hx K hK => nilC_p hK) ?_
  refine hld_of (fun x hx K hK => fA_Aud_2 hK) ?_
  refine hld_of (fun x hx K hK => ld1 (v := .map (some f.b3)) (fun _ => by kernel_rfl) hx.1 rfl hK) ?_
  refine hld_of (fun x hx K hK => ldA (n := 2) (vs := [.int .i64 who, .int .u64 req]) Try.underlying72 rfl (by kernel_rfl) hx.2.1 rfl rfl hK) ?_
  refine hld_of (fun x hx K hK => ldA (n := 2) (vs := [.int .u64 node, .int .i64 am]) Try.underlying74 rfl (by kernel_rfl) hx.2.2 rfl rfl hK) ?_
  have ha3 := ha.below bd
  refine mUpd_of (x := (who, req)) (v := (node, am)) nmK Try.underlying62 ha3.m3 ?_
  intro w4 m4 o4
  exact h w4 (ha3.set3 o4 m4) ((Ch.of_below bd).trans (Ch.of_oth (F := f.foot) o4 (by simp [AF.foot])) (fun x hx => .inl hx))

theorem say_A2 {a0 who1 k_2 x3 a4 who5 k_6 x7 id8 t9 is10 q11 t12 is13 t14 t15 t16 t17 t18 t19 t20 t21 t22 t23 t24 t25 t26 t27 t28 t29 t30 t31 t32 t33 t34 t35 t36 t37 t38 t39 t40 t41 t42 t43 t44 t45 t46 t47 t48 t49 t50 t51 t52 t53 t54 t55 t56 t57 t58 t59 t60 t61 t62 t63 t64 t65 t66 t67 t68 t69 t70 t71 t72 t73 t74 t75 t76 t77 t78 t79 t80 t81 t82 t83 t84 t85 t86 t87 t88 t89 t90 t91 t92 t93 t94 t95 t96 t97 t98 t99 t100 t101 t102 t103 t104 t105 t106 t107 t108 t109 t110 t111 t112 t113 t114 t115 t116 t117 t118 t119 t120 t121 t122 t123 t124 t125 : Value} {f : AF} {S : AS} {a : Ak} {who e : Int} {cs : List Value} {kb xb : Nat} (ha : AK w f S) (e0 : a0 = ptr f.p) (e1 : who1 = .int .i64 who) (e2 : k_6 = ptr kb) (hk : blk w kb 35 (askC a)) (e3 : x7 = ptr xb) (hx : blk w xb 42 cs) (hce : cs[14]? = some (.int .i64 e))
    (et : t64 = .bool (decide (a.kind = 2))) (e28 : t28 = .int .u8 a.kind) (o s : Int) (he : ¬ (e ≠ 0 ∧ e ≠ 8)) (hk1 : a.kind ≠ 1)
    (h : ∀ w', AK w' f (sayS S who a o s e) → Ch f.foot w w' → K (.tuple #[]) w') : audit_Audit_Say_A2 K ((a0 :: who1 :: k_2 :: x3 :: a4 :: who5 :: k_6 :: x7 :: id8 :: t9 :: is10 :: q11 :: t12 :: is13 :: t14 :: t15 :: t16 :: t17 :: t18 :: t19 :: t20 :: t21 :: t22 :: t23 :: t24 :: t25 :: t26 :: t27 :: t28 :: t29 :: t30 :: t31 :: t32 :: t33 :: t34 :: t35 :: t36 :: t37 :: t38 :: t39 :: t40 :: t41 :: t42 :: t43 :: t44 :: t45 :: t46 :: t47 :: t48 :: t49 :: t50 :: t51 :: t52 :: t53 :: t54 :: t55 :: t56 :: t57 :: t58 :: t59 :: t60 :: t61 :: t62 :: t63 :: t64 :: t65 :: t66 :: t67 :: t68 :: t69 :: t70 :: t71 :: t72 :: t73 :: t74 :: t75 :: t76 :: t77 :: t78 :: t79 :: t80 :: t81 :: t82 :: t83 :: t84 :: t85 :: t86 :: t87 :: t88 :: t89 :: t90 :: t91 :: t92 :: t93 :: t94 :: t95 :: t96 :: t97 :: t98 :: t99 :: t100 :: t101 :: t102 :: t103 :: t104 :: t105 :: t106 :: t107 :: t108 :: t109 :: t110 :: t111 :: t112 :: t113 :: t114 :: t115 :: t116 :: t117 :: t118 :: t119 :: t120 :: t121 :: t122 :: t123 :: t124 :: t125 :: [])) w := by
  subst e0 e1 e2 e3 et e28
  have bd : Below w.heap.size w w.drew := (Below.refl _ w).drew
  refine audit_Audit_Say_A2_r ?_
  by_cases h2 : a.kind = 2
  · rw [show sayS S who a o s e = { S with raises := mput S.raises a.node (IntKind.i64.wrap ((mget S.raises a.node).getD 0 + withinS a.amount)) } by unfold sayS; rw [if_neg he, if_neg hk1, if_pos h2]] at h
    refine cond_t h2 ?_
    refine hReg_of (fun x => blk x f.p TAu [.map (some f.b1), .map (some f.b2), .map (some f.b3), .map (some f.b4)] ∧ blk x kb 35 (askC a) ∧ MB u64v i64v x f.b2 S.raises) ⟨ha.head.drew, hk.drew, ha.m2.below bd⟩ ?_
    refine hld_of (fun x hx K hK => nilC_p hK) ?_
    refine hld_of (fun x hx K hK => fA_Aud_1 hK) ?_
    refine hld_of (fun x hx K hK => ld1 (v := .map (some f.b2)) (fun _ => by kernel_rfl) hx.1 rfl hK) ?_
    refine hld_of (fun x hx K hK => fA_Ask_1 hK) ?_
    refine hld_of (fun x hx K hK => ld1 (v := .int .u64 a.node) (fun _ => by kernel_rfl) hx.2.1 rfl hK) ?_
    refine hld_of (fun x hx K hK => lkp1 u64K Try.underlying61 i64_zero hx.2.2 hK) ?_
    refine hld_of (fun x hx K hK => fA_Ask_3 hK) ?_
    refine hld_of (fun x hx K hK => ld1 (v := .int .i64 a.amount) (fun _ => by kernel_rfl) hx.2.1 rfl hK) ?_
    refine within_c ?_
    refine hSub_same ⟨ha.head.drew, hk.drew, ha.m2.below bd⟩ ?_
    refine hld_of (fun x hx K hK => bin_add hK) ?_
    have ha3 := ha.below bd
    refine mUpd_of (v := IntKind.i64.wrap ((mget S.raises a.node).getD 0 + withinS a.amount)) u64K Try.underlying61 ha3.m2 ?_
    intro w4 m4 o4
    exact h w4 (ha3.set2 o4 m4) ((Ch.of_below bd).trans (Ch.of_oth (F := f.foot) o4 (by simp [AF.foot])) (fun x hx => .inl hx))
  refine cond_f h2 ?_
  (repeat (first | refine bin_eql ?_))
  by_cases h3 : a.kind = 3
  rotate_left
  · refine cond_f h3 ?_
    (repeat (first | refine bin_eql ?_))
    refine say_A4 ha rfl rfl rfl hk rfl ?_
    have e4 : sayS S who a o s e = if a.kind = 4 then { S with back := mput S.back (who, a.of) true } else S := by unfold sayS; rw [if_neg he, if_neg hk1, if_neg h2, if_neg h3]
    rw [← e4]
    exact h
  refine cond_t h3 ?_
  have eS : sayS S who a o s e = if (mget S.takes (who, a.req)).isSome ∨ e ≠ 0 then S else { S with takes := mput S.takes (who, a.req) (a.node, if a.amount ≠ withinS a.amount then 0 else a.amount) } := by unfold sayS; rw [if_neg he, if_neg hk1, if_neg h2, if_pos h3]
  rw [eS] at h
  (repeat (first | refine fA_Ask_4 ?_ | (refine ld_AL_2 ?_ (by assumption) ?_ ?_; rotate_left; exact rfl)))
  refine bld_of (vs := [.int .i64 who, .int .u64 a.req]) (by kernel_rfl) ?_
  refine alc_of (z := .agg #[.int .i64 0, .int .u64 0]) (by kernel_rfl) ?_
  intro w1 hb1 b1 _
  refine stoA (n := 2) (vs := [.int .i64 who, .int .u64 a.req]) (by kernel_rfl) rfl hb1 (by simp [Value.cells]) (by simp [Value.oneCell']) ?_
  intro w2 hq2 o2
  have hq2 : blk w2 w.heap.size TNm [.int .i64 who, .int .u64 a.req] := hq2
  have b2 : Below w.heap.size w w2 := b1.trans o2.below
  have bd2 : Below w2.heap.size w2 w2.drew := (Below.refl _ w2).drew
  have ha2 := (ha.below b2).below bd2
  have hk2 := (below_blk b2 hk hk.lt).drew
  have hx2 := (below_blk b2 hx hx.lt).drew
  have hq2 := hq2.drew
  refine hReg_of (fun x => blk x f.p TAu [.map (some f.b1), .map (some f.b2), .map (some f.b3), .map (some f.b4)] ∧ blk x w.heap.size TNm [.int .i64 who, .int .u64 a.req] ∧ MB nmV ndV x f.b3 S.takes) ⟨ha2.head, hq2, ha2.m3⟩ ?_
  refine hld_of (fun x hx K hK => nilC_p hK) ?_
  refine hld_of (fun x hx K hK => fA_Aud_2 hK) ?_
  refine hld_of (fun x hx K hK => ld1 (v := .map (some f.b3)) (fun _ => by kernel_rfl) hx.1 rfl hK) ?_
  refine hld_of (fun x hx K hK => ldA (n := 2) (vs := [.int .i64 who, .int .u64 a.req]) Try.underlying72 rfl (by kernel_rfl) hx.2.1 rfl rfl hK) ?_
  refine hld_of (fun x hx K hK => lkp2 (x := (who, a.req)) nmK Try.underlying62 tk_zero hx.2.2 hK) ?_
  refine hld_of (fun x hx K hK => ext_a hK) ?_
  refine hld_of (fun x hx K hK => ext_b hK) ?_
  refine alc_of (z := ndV (0, 0)) (by kernel_rfl) ?_
  intro w3 hb3 b3 _
  have ha3 := ha2.below b3
  have hq3 := below_blk b3 hq2 hq2.lt
  refine hSub_same ⟨ha3.head, hq3, ha3.m3⟩ ?_
  refine stoA (n := 2) (vs := [.int .u64 ((mget S.takes (who, a.req)).getD (0, 0)).1, .int .i64 ((mget S.takes (who, a.req)).getD (0, 0)).2]) (by kernel_rfl) rfl hb3 (by simp [ndV, Value.cells]) (by simp [Value.oneCell']) ?_
  intro w4 _ o4
  have b24 : Below w2.drew.heap.size w2.drew w4 := b3.trans o4.below
  have ha4 := ha2.below b24
  have hq4 := below_blk b24 hq2 hq2.lt
  have hk4 := below_blk b24 hk2 hk2.lt
  have hx4 := below_blk b24 hx2 hx2.lt
  have b04 : Below w.heap.size w w4 := (b2.drew).trans (b24.mono b2.size)
  have c4 : Ch f.foot w w4 := Ch.of_below b04
  refine hSub_same ⟨ha4.head, hq4, ha4.m3⟩ ?_
  cases hg : (mget S.takes (who, a.req)).isSome with
  | true =>
    rw [if_pos (.inl hg)] at h
    (repeat (first | refine pick_T ?_ | refine cond_T ?_ | refine gsel_Tn ?_))
    exact h w4 ha4 c4
  | false =>
  by_cases he0 : e = 0
  rotate_left
  · rw [if_pos (.inr he0)] at h
    refine gsel_Fn ?_
    refine fA_Ans_1 ?_
    refine ld1 (v := .int .i64 e) (fun _ => by kernel_rfl) hx4 hce ?_
    (repeat (first | refine pick_F ?_ | refine bin_neq ?_ | refine cond_t (by omega) ?_))
    exact h w4 ha4 c4
  rw [if_neg (fun hh => hh.elim (fun h => by rw [hg] at h; cases h) (fun h => h he0))] at h
  refine gsel_Fn ?_
  refine fA_Ans_1 ?_
  refine ld1 (v := .int .i64 e) (fun _ => by kernel_rfl) hx4 hce ?_
  (repeat (first | refine pick_F ?_ | refine fA_Ask_1 ?_ | refine fA_Ask_3 ?_ | (refine ld_AL_2 ?_ (by assumption) ?_ ?_; rotate_left; exact rfl) | (refine ld_AL_3 ?_ (by assumption) ?_ ?_; rotate_left; exact rfl) | refine bin_neq ?_ | refine cond_f (by omega) ?_))
  refine bld_of (vs := [.int .u64 a.node, .int .i64 a.amount]) (by kernel_rfl) ?_
  refine alc_of (z := ndV (0, 0)) (by kernel_rfl) ?_
  intro w5 hb5 b5 _
  refine stoA (n := 2) (vs := [.int .u64 a.node, .int .i64 a.amount]) (by kernel_rfl) rfl hb5 (by simp [ndV, Value.cells]) (by simp [Value.oneCell']) ?_
  intro w6 ht6 o6
  have ht6 : blk w6 w4.heap.size TTk [.int .u64 a.node, .int .i64 a.amount] := ht6
  have b46 : Below w4.heap.size w4 w6 := b5.trans o6.below
  have ha6 := ha4.below b46
  have hq6 := below_blk b46 hq4 hq4.lt
  have c6 : Ch f.foot w w6 := c4.trans (Ch.of_below (F := []) b46) (by simp)
  have bd6 : Below w6.heap.size w6 w6.drew := (Below.refl _ w6).drew
  refine audit_Audit_Say_A3_r ?_
  refine hReg_of (fun x => blk x w4.heap.size TTk [.int .u64 a.node, .int .i64 a.amount]) ht6.drew ?_
  refine hld_of (fun x hx K hK => fA_Atk_1 hK) ?_
  refine hld_of (fun x hx K hK => ld1 (v := .int .i64 a.amount) (fun _ => by kernel_rfl) hx rfl hK) ?_
  refine hld_of (fun x hx K hK => fA_Atk_1 hK) ?_
  refine hld_of (fun x hx K hK => ld1 (v := .int .i64 a.amount) (fun _ => by kernel_rfl) hx rfl hK) ?_
  refine within_c ?_
  refine hSub_same ht6.drew ?_
  refine hld_of (fun x hx K hK => bin_neq hK) ?_
  refine audit_Audit_Say_A5_r ?_
  have ha7 := ha6.below bd6
  have c7 : Ch f.foot w w6.drew := c6.trans (Ch.of_below (F := []) bd6) (by simp)
  by_cases hw : a.amount = withinS a.amount
  · rw [if_neg (fun hh => hh hw)] at h
    refine cond_f (fun hh => hh hw) ?_
    refine say_P1 ha7 rfl rfl hq6.drew rfl ht6.drew ?_
    intro w8 ha8 c8
    exact h w8 ha8 (c7.trans c8 (fun x hx => .inl hx))
  · rw [if_pos hw] at h
    refine cond_t hw ?_
    (repeat (first | refine fA_Atk_1 ?_))
    refine sto1 (fun _ => by kernel_rfl) ht6.drew (by simp) rfl ?_
    intro w8 ht8 o8
    have ht8 : blk w8 w4.heap.size TTk [.int .u64 a.node, .int .i64 0] := ht8
    have hne : ∀ x ∈ f.foot, x ≠ w4.heap.size := fun x hx => by have := foot_lt ha4 x hx; omega
    have ho8 : Ch [w4.heap.size] w6.drew w8 := Ch.of_oth o8 (by simp)
    have hp8 : f.p < w4.heap.size := ha4.head.lt
    have hq8 : w.heap.size < w4.heap.size := by have := hq4.lt; exact this
    refine say_P1 (ha7.ch ho8 (by simp; omega) (fun x hx => by simpa using hne x hx)) rfl rfl (hq6.drew.ch ho8 (by simp; omega)) rfl ht8 ?_
    intro w9 ha9 c9
    refine h w9 ha9 ((c7.trans ho8 (fun x hx => .inr ?_)).trans c9 (fun x hx => .inl hx))
    simp at hx
    have := b04.size
    omega
set_option maxHeartbeats 2000000 in
theorem say_c {f : AF} {S : AS} {who o s e : Int} {a : Ak} {cs : List Value} (ha : AK w f S) (hx : ansOk cs o s e) (hs : 0 ≤ s) (h : ∀ w', AK w' f (sayS S who a o s e) → Ch f.foot w w' → K (.tuple #[]) w') :
    call Try.prog 8 #[ptr f.p, .int .i64 who, .agg (askC a).toArray, .agg cs.toArray] K w := by
  obtain ⟨x0, x1, x2, x3⟩ := hx
  refine call_of audit_Audit_Say_go (audit_Audit_Say_in ?_)
  refine box_of ?_
  intro w1 hk1 b1 s1
  have hk1 : blk w1 w.heap.size 35 (askC a) := hk1
  refine box_of ?_
  intro w2 hx2 b2 s2
  have hx2 : blk w2 w1.heap.size 42 cs := hx2
  have b02 : Below w.heap.size w w2 := b1.trans (b2.mono b1.size)
  have hk2 := below_blk b2 hk1 hk1.lt
  have ha2 := ha.below b02
  have hfw : ∀ x ∈ f.foot, x < w.heap.size := by
    intro x hx
    simp [AF.foot] at hx
    rcases hx with rfl | rfl | rfl | rfl
    · exact ha.m1.lt
    · exact ha.m2.lt
    · exact ha.m3.lt
    · exact ha.m4.lt
  have ldE : ∀ {w' : World} {K' : KV}, blk w' w1.heap.size 42 cs → K' (.int .i64 e) w' → ld Try.prog 40 (.pointer (some ⟨w1.heap.size, 0 + 14, none⟩)) K' w' := fun hb hK => ld1 (fun _ => by kernel_rfl) hb x3 hK
  have c02 : Ch f.foot w w2 := Ch.of_below b02
  -- nothing is turned
  have same : ∀ {w' : World}, Below w2.heap.size w2 w' → sayS S who a o s e = S → K (.tuple #[]) w' := fun hb hS => h _ (by rw [hS]; exact ha2.below hb) (c02.trans (Ch.of_below (F := []) hb) (by simp))
  by_cases he : e ≠ 0 ∧ e ≠ 8
  · have hS : sayS S who a o s e = S := by unfold sayS; rw [if_pos he]
    obtain ⟨he0, he8⟩ := he
    (repeat (first | refine eqA_nil ?_ | refine ldE hx2 ?_ | refine fA_Ans_1 ?_ | refine gsel_pt he0 ?_ | refine pick_t he0 ?_ | refine bin_neq ?_ | refine pick_F ?_ | refine cond_t (by omega) ?_ | refine gsel_Fn ?_))
    exact same (Below.refl _ _) hS
  have fin : ∀ w', AK w' f (sayS S who a o s e) → Ch f.foot w2 w' → K (.tuple #[]) w' := fun w' h1 h2 => h w' h1 (c02.trans h2 (fun x hx => .inl hx))
  have tail1 : a.kind = 1 → sayS S who a o s e = if treeIdS o s ≠ 0 ∧ mget S.nodes (treeIdS o s) = none then { S with nodes := mput S.nodes (treeIdS o s) (a.node, withinS a.amount) } else S := fun h1 => by unfold sayS; rw [if_neg he, if_pos h1]
  have ld0 : ∀ {w' : World} {K' : KV}, blk w' w1.heap.size 42 cs → K' (.int .i64 o) w' → ld Try.prog 3 (.pointer (some ⟨w1.heap.size, 0 + 0 + 0, none⟩)) K' w' := fun hb hK => ld1 (fun _ => by kernel_rfl) hb x1 hK
  have ld1' : ∀ {w' : World} {K' : KV}, blk w' w1.heap.size 42 cs → K' (.int .u64 s) w' → ld Try.prog 33 (.pointer (some ⟨w1.heap.size, 0 + 0 + 1, none⟩)) K' w' := fun hb hK => ld1 (fun _ => by kernel_rfl) hb x2 hK
  have he' : e = 0 ∨ e = 8 := by omega
  rcases he' with rfl | rfl
  · (repeat (first | refine eqA_nil ?_ | refine ldE hx2 ?_ | refine fA_Ask_0 ?_ | refine fA_Ans_1 ?_ | (refine ld_AL_1 ?_ (by assumption) ?_ ?_; rotate_left; exact rfl) | refine bin_eql ?_ | refine bin_neq ?_ | refine pick_F ?_ | refine cond_F ?_ | refine gsel_F ?_ | refine gsel_Fn ?_))
    by_cases h1 : a.kind = 1
    · rw [tail1 h1] at fin
      refine cond_t h1 ?_
      (repeat (first | refine ld0 hx2 ?_ | refine ld1' hx2 ?_ | refine fA_Ans_0 ?_ | refine fA_Ev_0 ?_ | refine fA_Ev_1 ?_))
      refine treeId_c hs ?_
      exact say_A1 ha2 rfl rfl rfl hk2 fin
    · refine cond_f h1 ?_
      (repeat (first | refine bin_eql ?_))
      exact say_A2 ha2 rfl rfl rfl hk2 rfl hx2 x3 rfl rfl o s he h1 fin
  · (repeat (first | refine eqA_nil ?_ | refine ldE hx2 ?_ | refine fA_Ask_0 ?_ | refine fA_Ans_1 ?_ | (refine ld_AL_1 ?_ (by assumption) ?_ ?_; rotate_left; exact rfl) | refine bin_eql ?_ | refine bin_neq ?_ | refine pick_T ?_ | refine pick_F ?_ | refine cond_F ?_ | refine gsel_T ?_ | refine gsel_Fn ?_))
    by_cases h1 : a.kind = 1
    · rw [tail1 h1] at fin
      refine cond_t h1 ?_
      (repeat (first | refine ld0 hx2 ?_ | refine ld1' hx2 ?_ | refine fA_Ans_0 ?_ | refine fA_Ev_0 ?_ | refine fA_Ev_1 ?_))
      refine treeId_c hs ?_
      exact say_A1 ha2 rfl rfl rfl hk2 fin
    · refine cond_f h1 ?_
      (repeat (first | refine bin_eql ?_))
      exact say_A2 ha2 rfl rfl rfl hk2 rfl hx2 x3 rfl rfl o s he h1 fin
end
end Go.Proofs.Ytcieejlkdfdpiaa
