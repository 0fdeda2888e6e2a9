/- The audit of the program, on: sums, nodes. -/
import Derived.Test.YtcieejlkdfdpiaaAud2
namespace Go.Proofs.Ytcieejlkdfdpiaa
set_option maxRecDepth 100000
open Go.RowKit Go.ChangeMaps
attribute [local irreducible] bin un conv call callV blt slc fldA fld idxA idx lkp mUpd mEnt eSt rng nxt ent ext alc box bld bldS ld sto nilC mkMap mkS ifc pick rdy wts gsel sti cond retM Gives cCode cGrp cSeq cOp
theorem hG_f {v : Value} {want : Bool} {S : World → Prop} {s : KV → World → Prop} {k : Value → Prop} (hv : asB v ≠ some want) (hk : k undef) : hG v want S s k := ⟨undef, fun h => absurd h hv, fun _ => rfl, hk⟩
theorem xG_f {v : Value} {want : Bool} {s : KV → World → Prop} {K : KV} {w : World} (hv : asB v ≠ some want) (h : K undef w) : xG v want s K w := ⟨fun hh => absurd hh hv, fun _ => h⟩

def belS (m : List (Int × (Int × Int))) (of : Int) : Nat → Int → Bool
  | 0, id => decide (id = of)
  | n + 1, id => if id = of then true else match mget m id with | some v => belS m of n v.1 | none => false
def usedX (S : AS) (id : Int) (x : Int × Int) : Int := match mget S.takes x with | some t => (if (mget S.back x).getD false then 0 else if belS S.nodes id 32 t.1 then t.2 else 0) | none => 0
def usedL (S : AS) (id : Int) (l : List (Int × Int)) : Int := (l.map (usedX S id)).sum
structure AB (S : AS) : Prop where
  nodes : ∀ p ∈ S.nodes, 0 ≤ p.2.2 ∧ p.2.2 ≤ 1125899906842624
  raises : ∀ p ∈ S.raises, 0 ≤ p.2 ∧ p.2 ≤ 1125899906842624 * 1024
  takes : ∀ p ∈ S.takes, 0 ≤ p.2.2 ∧ p.2.2 ≤ 1125899906842624
  count : S.takes.length ≤ 1024
def sumsS (S : AS) (id : Int) : Int × Int × Int := match mget S.nodes id with | none => (0, 0, 9) | some n => (n.2 + (mget S.raises id).getD 0, usedL S id (S.takes.map (·.1)), 0)

theorem usedL_perm {S : AS} {id : Int} {l l' : List (Int × Int)} (h : l.Perm l') : usedL S id l = usedL S id l' := by
  unfold usedL
  induction h with
  | nil => rfl
  | cons x _ ih => simp [ih]
  | swap x y l => simp; omega
  | trans _ _ ih1 ih2 => exact ih1.trans ih2
theorem usedX_bnd {S : AS} (hb : AB S) (id : Int) (x : Int × Int) : 0 ≤ usedX S id x ∧ usedX S id x ≤ 1125899906842624 := by
  unfold usedX
  cases hg : mget S.takes x with
  | none => simp
  | some t =>
    have := hb.takes _ (mget_mem hg)
    dsimp only at this ⊢
    split
    · omega
    · split <;> omega
theorem usedL_bnd {S : AS} (hb : AB S) (id : Int) : ∀ l : List (Int × Int), 0 ≤ usedL S id l ∧ usedL S id l ≤ 1125899906842624 * l.length
  | [] => by simp [usedL]
  | x :: l => by
    have h1 := usedL_bnd hb id l
    have h2 := usedX_bnd hb id x
    have e : usedL S id (x :: l) = usedX S id x + usedL S id l := by simp [usedL]
    rw [e]; simp only [List.length_cons]; omega
theorem usedL_snoc (S : AS) (id : Int) (l : List (Int × Int)) (x : Int × Int) : usedL S id (l ++ [x]) = usedL S id l + usedX S id x := by simp [usedL]

section
variable {w : World} {K : KV}
theorem below_c {f : AF} {S : AS} {id of : Int} (ha : AK w f S) (h : ∀ w', Below w.heap.size w w' → K (.bool (belS S.nodes of 32 id)) w') : call Try.prog 21 #[ptr f.p, .int .u64 id, .int .u64 of] K w := by
  obtain ⟨R, hR⟩ : ∃ R, belS S.nodes of 32 id = R := ⟨_, rfl⟩
  rw [hR] at h
  refine call_of audit_Audit_below_go (audit_Audit_below_in ?_)
  refine audit_Audit_below_A1_r ?_
  refine audit_Audit_below_L1_r (Inv := fun i t _ _ wr => ∃ (j : Nat) (cur : Int), j ≤ 32 ∧ i = .int .u64 cur ∧ t = .int .i64 (j : Nat) ∧ belS S.nodes of (32 - j) cur = R ∧ Below w.heap.size w wr)
    (μ := fun _ t _ _ _ => 32 - (intOf t).toNat) ⟨0, id, by omega, rfl, rfl, hR, Below.refl _ _⟩ ?_
  rintro _ _ _ _ _ w1 m ⟨j, cur, hj, rfl, rfl, hbel, b1⟩ hm
  have ha1 := ha.below b1
  have hd1 := ha1.head
  by_cases hjn : j < 32
  · (repeat (first | refine nilC_p ?_ | refine fA_Aud_0 ?_ | (refine ld_AL_5 ?_ (by assumption) ?_ ?_; rotate_left; exact rfl) | refine bin_lss ?_ | refine cond_t (by omega) ?_))
    refine lkp2 u64K Try.underlying60 nd_zero ha1.m1 ?_
    (repeat (first | refine ext_a ?_ | refine ext_b ?_))
    refine alc_of (z := ndV (0, 0)) (by kernel_rfl) ?_
    intro w2 hb2 b2 _
    refine stoA (n := 2) (vs := [.int .u64 ((mget S.nodes cur).getD (0, 0)).1, .int .i64 ((mget S.nodes cur).getD (0, 0)).2]) (by kernel_rfl) rfl hb2 (by simp [ndV, Value.cells]) (by simp [Value.oneCell']) ?_
    intro w3 hn3 o3
    have hn3 : blk w3 w1.heap.size 68 [.int .u64 ((mget S.nodes cur).getD (0, 0)).1, .int .i64 ((mget S.nodes cur).getD (0, 0)).2] := hn3
    have b13 : Below w1.heap.size w1 w3 := b2.trans o3.below
    have b3 := b1.trans (b13.mono b1.size)
    have e1 : 32 - j = (32 - (j + 1)) + 1 := by omega
    rw [e1] at hbel
    simp only [belS] at hbel
    by_cases hof : cur = of
    · rw [if_pos hof] at hbel
      (repeat (first | refine audit_Audit_below_P1_r ?_ | refine bin_eql ?_ | refine cond_T ?_ | refine gsel_nt (by omega) ?_ | refine pick_t (by omega) ?_))
      rw [← hbel] at h
      rw [show decide (cur = of) = true from decide_eq_true hof]
      exact h w3 b3
    rw [if_neg hof] at hbel
    cases hg : mget S.nodes cur with
    | none =>
      rw [hg] at hbel
      (repeat (first | refine un_not ?_ | refine audit_Audit_below_P1_r ?_ | refine bin_eql ?_ | refine cond_T ?_ | refine gsel_nf (by omega) ?_ | refine pick_f (by omega) ?_))
      rw [show decide (cur = of) = false from decide_eq_false hof]
      rw [← hbel] at h
      exact h w3 b3
    | some v =>
      rw [hg] at hbel hn3
      simp only [Option.getD_some] at hn3
      (repeat (first | refine fA_And_0 ?_ | (refine ld_AL_2 ?_ (by assumption) ?_ ?_; rotate_left; exact rfl) | refine un_not ?_ | refine bin_eql ?_ | refine add64 (by omega) (by omega) ?_ | refine cond_F ?_ | refine gsel_nf (by omega) ?_ | refine pick_f (by omega) ?_))
      exact ⟨⟨j + 1, v.1, by omega, rfl, (show Value.int .i64 ((j : Int) + 1) = _ by simp), hbel, b3⟩, by rw [hm]; show 32 - (intOf (.int .i64 ((j : Int) + 1))).toNat < _; simp only [intOf]; omega⟩
  have : j = 32 := by omega
  subst this
  simp only [Nat.sub_self, belS] at hbel
  (repeat (first | refine audit_Audit_below_P1_r ?_ | refine bin_eql ?_ | refine bin_lss ?_ | refine cond_F ?_))
  rw [← hbel] at h
  exact h w1 b1

theorem keys_perm {done : List (Int × Int)} {m : List ((Int × Int) × (Int × Int))} (h1 : done.Nodup) (h2 : (m.map (·.1)).Nodup) (h3 : ∀ x ∈ done, x ∈ m.map (·.1)) (h4 : ∀ x ∈ m.map (·.1), x ∈ done) : done.Perm (m.map (·.1)) :=
  (List.perm_ext_iff_of_nodup h1 h2).2 fun x => ⟨h3 x, h4 x⟩

theorem sums_nil {id : Value} (h : K (.tuple #[.int .i64 0, .int .i64 0, .int .i64 2]) w) : call Try.prog 10 #[.pointer none, id] K w := by
  refine call_of audit_Audit_Sums_go (audit_Audit_Sums_in ?_)
  (repeat (first | refine eqA_none ?_ | refine cond_T ?_))
  exact h

set_option maxHeartbeats 1000000 in
theorem sums_c {f : AF} {S : AS} {id : Int} (ha : AK w f S) (hb : AB S) (h : ∀ w', Below w.heap.size w w' → K (.tuple #[.int .i64 (sumsS S id).1, .int .i64 (sumsS S id).2.1, .int .i64 (sumsS S id).2.2]) w') :
    call Try.prog 10 #[ptr f.p, .int .u64 id] K w := by
  have hd := ha.head
  refine call_of audit_Audit_Sums_go (audit_Audit_Sums_in ?_)
  (repeat (first | refine eqA_nil ?_ | refine nilC_p ?_ | refine fA_Aud_0 ?_ | (refine ld_AL_5 ?_ (by assumption) ?_ ?_; rotate_left; exact rfl) | refine cond_F ?_))
  refine lkp2 u64K Try.underlying60 nd_zero ha.m1 ?_
  (repeat (first | refine ext_a ?_ | refine ext_b ?_))
  refine alc_of (z := ndV (0, 0)) (by kernel_rfl) ?_
  intro w2 hb2 b2 _
  refine stoA (n := 2) (vs := [.int .u64 ((mget S.nodes id).getD (0, 0)).1, .int .i64 ((mget S.nodes id).getD (0, 0)).2]) (by kernel_rfl) rfl hb2 (by simp [ndV, Value.cells]) (by simp [Value.oneCell']) ?_
  intro w3 hn3 o3
  have hn3 : blk w3 w.heap.size 68 [.int .u64 ((mget S.nodes id).getD (0, 0)).1, .int .i64 ((mget S.nodes id).getD (0, 0)).2] := hn3
  have b3 : Below w.heap.size w w3 := b2.trans o3.below
  have ha3 := ha.below b3
  have hd3 := ha3.head
  refine un_not ?_
  cases hg : mget S.nodes id with
  | none =>
    rw [show sumsS S id = (0, 0, 9) by unfold sumsS; rw [hg]] at h
    (repeat (first | refine cond_T ?_))
    exact h w3 b3
  | some nd =>
  rw [show sumsS S id = (nd.2 + (mget S.raises id).getD 0, usedL S id (S.takes.map (·.1)), 0) by unfold sumsS; rw [hg]] at h
  rw [hg] at hn3
  simp only [Option.getD_some] at hn3
  (repeat (first | refine nilC_p ?_ | refine fA_Aud_2 ?_ | (refine ld_AL_7 ?_ (by assumption) ?_ ?_; rotate_left; exact rfl) | refine cond_F ?_))
  refine rng_of Try.underlying62 ha3.m3 ?_
  intro w4 it4 b4 s4
  have ha4 := ha3.below b4
  have hn4 := below_blk b4 hn3 hn3.lt
  have b04 := b3.trans (b4.mono b3.size)
  have hne : w3.heap.size ≠ f.b3 := by have := ha3.m3.lt; omega
  refine audit_Audit_Sums_L1_r (Inv := fun u _ _ _ _ _ wr => ∃ done : List (Int × Int), u = .int .i64 (usedL S id done) ∧ IT nmV ndV wr w3.heap.size f.b3 S.takes done ∧ Ch [w3.heap.size] w4 wr)
    (μ := fun u _ _ _ _ _ wr => rleft wr f.b3 w3.heap.size) ⟨[], rfl, it4, Ch.refl _ _⟩ ?_
  rintro _ _ _ _ _ _ _ w5 m ⟨done, rfl, it5, c5⟩ hm
  have hfl := foot_lt ha3
  have hfoot : ∀ x ∈ f.foot, x ∉ [w3.heap.size] := fun x hx => by have := hfl x hx; simp; omega
  have hpne : f.p ∉ [w3.heap.size] := by have := hd3.lt; simp; omega
  have ha5 : AK w5 f S := ha4.ch c5 hpne hfoot
  have hn5 := hn4.ch c5 (by have := hn3.lt; simp; omega)
  obtain ⟨n1, n2, n3⟩ := it5.nodup
  have hdl := nodup_len n1 n3
  have hub := usedL_bnd hb id done
  have hcnt := hb.count
  simp only [List.length_map] at hdl
  have b35 : Below w3.heap.size w3 w5 := b4.trans (c5.below (by simp) (by omega))
  have b05 := b3.trans (b35.mono b3.size)
  refine nxt_of it5 hne ?_ ?_
  · intro hall
    refine ext_of rfl ?_
    (repeat (first | refine audit_Audit_Sums_P1_r ?_ | refine cond_F ?_))
    have bd := (Below.refl w5.heap.size w5).drew
    have had := (ha5.below bd)
    have hhd := had.head
    have hnd := hn5.drew
    refine sti_of (fun K hK => fA_And_1 hK) ?_
    refine sti_of (fun K hK => ld1 (v := .int .i64 nd.2) (fun _ => by kernel_rfl) hnd rfl hK) ?_
    refine sti_of (fun K hK => nilC_p hK) ?_
    refine sti_of (fun K hK => fA_Aud_1 hK) ?_
    refine sti_of (fun K hK => ld1 (v := .map (some f.b2)) (fun _ => by kernel_rfl) hhd rfl hK) ?_
    refine sti_of (fun K hK => lkp1 u64K Try.underlying61 i64_zero had.m2 hK) ?_
    have h1 := hb.nodes _ (mget_mem hg)
    have h2 : 0 ≤ (mget S.raises id).getD 0 ∧ (mget S.raises id).getD 0 ≤ 1125899906842624 * 1024 := by
      cases hr : mget S.raises id with
      | none => simp
      | some r => exact hb.raises _ (mget_mem hr)
    dsimp only at h1
    refine sti_of (fun K hK => add64 (by omega) (by omega) hK) ?_
    rw [usedL_perm (keys_perm n1 n2 n3 hall)]
    exact h _ b05.drew
  · intro x tk w6 hxm hxd it6 en6 o6 hlt
    obtain ⟨xn, xa⟩ := tk
    have c6 : Ch [w3.heap.size] w4 w6 := c5.trans (Ch.of_oth (F := [w3.heap.size]) o6 (by simp)) (fun x hx => .inl hx)
    have ha6 := ha4.ch c6 hpne hfoot
    (repeat (first | refine ext3_a ?_ | refine cond_T ?_))
    refine ent_of en6 ?_
    (repeat (first | refine ext_a ?_ | refine ext_b ?_))
    refine alc_of (z := .agg #[.int .i64 0, .int .u64 0]) (by kernel_rfl) ?_
    intro w7 hq7 b7 _
    have hq7 : blk w7 w6.heap.size TNm [.int .i64 0, .int .u64 0] := hq7
    refine alc_of (z := ndV (0, 0)) (by kernel_rfl) ?_
    intro w8 ht8 b8 _
    have ht8 : blk w8 w7.heap.size TTk [.int .u64 0, .int .i64 0] := ht8
    refine stoA (n := 2) (vs := [.int .i64 x.1, .int .u64 x.2]) (by kernel_rfl) rfl (below_blk b8 hq7 hq7.lt) (by simp) (by simp [Value.oneCell']) ?_
    intro w9 hq9 o9
    have hq9 : blk w9 w6.heap.size TNm [.int .i64 x.1, .int .u64 x.2] := hq9
    have hq7l := hq7.lt
    refine stoA (n := 2) (vs := [.int .u64 xn, .int .i64 xa]) (by kernel_rfl) rfl (o9.blk ht8 (by omega)) (by simp) (by simp [Value.oneCell']) ?_
    intro w10 ht10 o10
    have ht10 : blk w10 w7.heap.size TTk [.int .u64 xn, .int .i64 xa] := ht10
    have hq10 := o10.blk hq9 (by omega)
    have b610 : Below w6.heap.size w6 w10 := ((b7.trans (b8.mono b7.size)).trans o9.below).trans (o10.below.mono b7.size)
    have bd : Below w10.heap.size w10 w10.drew := (Below.refl _ w10).drew
    have ha10 := (ha6.below b610).below bd
    have hS : blk w10.drew f.p TAu [.map (some f.b1), .map (some f.b2), .map (some f.b3), .map (some f.b4)] ∧ blk w10.drew w6.heap.size TNm [.int .i64 x.1, .int .u64 x.2] ∧ blk w10.drew w7.heap.size TTk [.int .u64 xn, .int .i64 xa] ∧ MB nmV Value.bool w10.drew f.b4 S.back := ⟨ha10.head, hq10.drew, ht10.drew, ha10.m4⟩
    refine hReg_of (fun y => blk y f.p TAu [.map (some f.b1), .map (some f.b2), .map (some f.b3), .map (some f.b4)] ∧ blk y w6.heap.size TNm [.int .i64 x.1, .int .u64 x.2] ∧ blk y w7.heap.size TTk [.int .u64 xn, .int .i64 xa] ∧ MB nmV Value.bool y f.b4 S.back) hS ?_
    refine hld_of (fun y hy K hK => nilC_p hK) ?_
    refine hld_of (fun y hy K hK => fA_Aud_3 hK) ?_
    refine hld_of (fun y hy K hK => ld1 (v := .map (some f.b4)) (fun _ => by kernel_rfl) hy.1 rfl hK) ?_
    refine hld_of (fun y hy K hK => ldA (n := 2) (vs := [.int .i64 x.1, .int .u64 x.2]) Try.underlying72 rfl (by kernel_rfl) hy.2.1 rfl rfl hK) ?_
    refine hld_of (fun y hy K hK => lkp1 (x := x) nmK Try.underlying63 bool_zero hy.2.2.2 hK) ?_
    refine hld_of (fun y hy K hK => un_not hK) ?_
    have hgx : mget S.takes x = some (xn, xa) := mget_of_mem n2 hxm
    have hxb := hb.takes _ hxm
    dsimp only at hxb
    have b6d : Below w6.heap.size w6 w10.drew := b610.drew
    have c10 : Ch [w3.heap.size] w4 w10.drew := c6.trans (Ch.of_below (F := []) b6d) (by simp)
    have it10 := it6.below b6d
    have hr10 : rleft w10.drew f.b3 w3.heap.size < m := by rw [rleft_below it6 b6d, hm]; exact hlt
    have hsn := usedL_snoc S id done x
    cases hbk : (mget S.back x).getD false with
    | true =>
      have hux : usedX S id x = 0 := by unfold usedX; rw [hgx]; simp [hbk]
      have hf : asB (.bool (!true)) ≠ some true := by simp [asB]
      refine hG_f hf ?_
      refine hG_f hf ?_
      refine hG_f hf ?_
      refine hG_f hf ?_
      refine xG_f hf ?_
      refine hReg_of (fun _ => True) trivial ?_
      refine hld_of (fun y hy K hK => pick_F hK) ?_
      refine cond_F ?_
      exact ⟨⟨done ++ [x], by rw [hsn, hux, Int.add_zero], it10, c10⟩, hr10⟩
    | false =>
      have hf : asB (.bool (!false)) = some true := rfl
      refine hG_t hf (fun y hy K hK => hK) ?_
      refine hG_t hf (fun y hy K hK => fA_Atk_0 hK) ?_
      refine hG_t hf (fun y hy K hK => ld1 (v := .int .u64 xn) (fun _ => by kernel_rfl) hy.2.2.1 rfl hK) ?_
      refine hG_t hf (fun y hy K hK => hK) ?_
      refine xG_t hf ?_
      refine below_c ha10 ?_
      intro w11 b11
      have b6e : Below w6.heap.size w6 w11 := b6d.trans (b11.mono b6d.size)
      have it11 := it6.below b6e
      have c11 : Ch [w3.heap.size] w4 w11 := c6.trans (Ch.of_below (F := []) b6e) (by simp)
      have hr11 : rleft w11 f.b3 w3.heap.size < m := by rw [rleft_below it6 b6e, hm]; exact hlt
      refine hReg_of (fun _ => True) trivial ?_
      refine hld_of (fun y hy K hK => pick_T hK) ?_
      cases hbl : belS S.nodes id 32 xn with
      | false =>
        have hux : usedX S id x = 0 := by unfold usedX; rw [hgx]; simp [hbk, hbl]
        refine cond_F ?_
        exact ⟨⟨done ++ [x], by rw [hsn, hux, Int.add_zero], it11, c11⟩, hr11⟩
      | true =>
        have hux : usedX S id x = xa := by unfold usedX; rw [hgx]; simp [hbk, hbl]
        refine cond_T ?_
        refine fA_Atk_1 ?_
        refine ld1 (v := .int .i64 xa) (fun _ => by kernel_rfl) (below_blk b11 ht10.drew ht10.drew.lt) rfl ?_
        refine add64 (by omega) (by omega) ?_
        exact ⟨⟨done ++ [x], by rw [hsn, hux], it11, c11⟩, hr11⟩
end
end Go.Proofs.Ytcieejlkdfdpiaa
