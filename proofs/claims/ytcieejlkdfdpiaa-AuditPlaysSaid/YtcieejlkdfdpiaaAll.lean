/- The audit of the program: all nodes, in order; whether all is within its limit: of fewer than 256 nodes. -/
import Derived.Test.YtcieejlkdfdpiaaSort10
import Derived.Test.YtcieejlkdfdpiaaARow
import Derived.Test.YtcieejlkdfdpiaaSARef
namespace Go.Proofs.Ytcieejlkdfdpiaa
set_option maxRecDepth 100000
open Go.RowKit Go.ChangeMaps
theorem SD.rv {w : World} {g n c : Nat} {xs : List Int} (h : SD w g n c xs) : RV w (some ⟨g, 0, none⟩) n c (xs.map uv) := by
  obtain ⟨rest, hb, hl, hc, hm⟩ := h
  refine ⟨by simpa using hl, hc, fun _ => ⟨g, 0, rfl⟩, (fun hh => by cases hh), fun i v hv => ?_⟩
  rw [slotA_some, hb.cell, Nat.zero_add, List.getElem?_append_left (List.getElem?_eq_some_iff.1 hv).1]
  exact hv
attribute [local irreducible] bin un conv call callV blt slc fldA fld idxA idx lkp mUpd mEnt eSt rng nxt ent ext alc box bld bldS ld sto nilC mkMap mkS ifc pick rdy wts gsel sti cond retM Gives cCode cGrp cSeq cOp
section
variable {w : World} {K : KV}
theorem isort0_c {d : Value} (h : K (.tuple #[]) w) : call Try.prog 26 #[d, .int .i64 0, .int .i64 0] K w := by
  refine call_of slices_insertionSortOrdered_uint64_go (slices_insertionSortOrdered_uint64_in ?_)
  (repeat (first | refine add64 (by omega) (by omega) ?_))
  refine slices_insertionSortOrdered_uint64_L1_r (Inv := fun i _ _ _ _ _ _ _ _ _ _ wr => i = .int .i64 1 ∧ wr = w) (μ := fun i _ _ _ _ _ _ _ _ _ _ _ => 0) ⟨rfl, rfl⟩ ?_
  rintro _ _ _ _ _ _ _ _ _ _ _ _ w1 m ⟨rfl, rfl⟩ hm1
  (repeat (first | refine bin_lss ?_ | refine cond_F ?_))
  exact h
theorem sort0_c (h : K (.tuple #[]) w) : call Try.prog 23 #[.slice none 0 0] K w := by
  refine call_of slices_Sort_uint64_uint64_go (slices_Sort_uint64_uint64_in ?_)
  refine lenS ?_
  refine conv_int Try.underlying3 Try.underlying56 ?_
  rw [wrap_u64, show ((0 : Nat) : Int) % 18446744073709551616 = (0 : Nat) by omega]
  refine lenb_c (n := 0) (by omega) ?_
  intro r hr
  refine call_of slices_pdqsortOrdered_uint64_go (slices_pdqsortOrdered_uint64_in ?_)
  refine slices_pdqsortOrdered_uint64_L1_r (Inv := fun a b _ _ _ _ _ _ _ _ _ _ _ _ _ _ _ _ _ wr => a = .int .i64 0 ∧ b = .int .i64 0 ∧ wr = w) (μ := fun a b _ _ _ _ _ _ _ _ _ _ _ _ _ _ _ _ _ _ => 0) ⟨rfl, rfl, rfl⟩ ?_
  rintro _ _ _ _ _ _ _ _ _ _ _ _ _ _ _ _ _ _ _ _ w1 m ⟨rfl, rfl, rfl⟩ hm1
  (repeat (first | refine bin_leq ?_ | refine sub64 (by omega) (by omega) ?_ | refine cond_T ?_))
  refine isort0_c ?_
  exact h
set_option maxHeartbeats 1000000 in
theorem nodesA_c {f : AF} {S : AS} (ha : AK w f S) (hl : S.nodes.length < 256)
    (h : ∀ w' a c ys, RV w' a S.nodes.length c (ys.map uv) → ys.Perm (S.nodes.map (·.1)) → Srt ys 0 S.nodes.length → Below w.heap.size w w' → K (.slice a S.nodes.length c) w') : call Try.prog 15 #[ptr f.p] K w := by
  have hd := ha.head
  refine call_of audit_Audit_Nodes_go (audit_Audit_Nodes_in ?_)
  (repeat (first | refine eqA_nil ?_ | refine nilC_p ?_ | refine fA_Aud_0 ?_ | (refine ld_AL_5 ?_ (by assumption) ?_ ?_; rotate_left; exact rfl) | refine cond_F ?_))
  refine rng_of Try.underlying60 ha.m1 ?_
  intro w4 it4 b4 s4
  have hne : w.heap.size ≠ f.b1 := by have := ha.m1.lt; omega
  refine audit_Audit_Nodes_L1_r (Inv := fun l wr => ∃ (done : List Int) (a : Option Addr) (c : Nat), l = .slice a done.length c ∧ IT u64v ndV wr w.heap.size f.b1 S.nodes done ∧ Below w.heap.size w wr ∧ w4.heap.size ≤ wr.heap.size ∧
      OV wr w4.heap.size E64 a done.length c (done.map uv))
    (μ := fun l wr => rleft wr f.b1 w.heap.size) ⟨[], none, 0, rfl, it4, b4, Nat.le_refl _, OV.nil _ _ _⟩ ?_
  rintro l _ w5 m ⟨done, a, c, rfl, it5, b5, hs5, ho5⟩ hm
  obtain ⟨n1, n2, n3⟩ := it5.nodup
  have hdl := nodup_len n1 n3
  simp only [List.length_map] at hdl
  refine nxt_of it5 hne ?_ ?_
  · intro hall
    have hperm : done.Perm (S.nodes.map (·.1)) := (List.perm_ext_iff_of_nodup n1 n2).2 fun x => ⟨n3 x, hall x⟩
    have hlen : done.length = S.nodes.length := by have := hperm.length_eq; simpa using this
    refine ext_of rfl ?_
    (repeat (first | refine audit_Audit_Nodes_P1_r ?_ | refine cond_F ?_))
    rcases ho5.2 with ⟨hv, hz⟩ | ⟨g, cap, cur, hv, hg, hh, hn, hcm, hsz, htk⟩
    · simp only [Value.slice.injEq] at hv
      obtain ⟨rfl, hz0, rfl⟩ := hv
      rw [hz]
      refine sort0_c ?_
      have hd0 : done = [] := List.eq_nil_of_length_eq_zero hz
      have h0 : S.nodes.length = 0 := by omega
      have := h w5 none 0 [] (by rw [h0]; exact RV.nil w5) (by rw [← hd0]; exact hperm) (fun i h1 h2 => by omega) b5
      rw [h0] at this
      exact this
    simp only [Value.slice.injEq] at hv
    obtain ⟨rfl, _, rfl⟩ := hv
    have hsd : SD w5 g done.length c done := by
      refine ⟨cur.toList.drop done.length, ?_, rfl, hn, by omega⟩
      rw [Nat.mul_one] at htk
      rw [← htk, List.take_append_drop]
      exact hh
    refine sortA_c hsd (by omega) n1 ?_
    intro w6 ys hd6 o6 hp6 hs6
    have b6 : Below w.heap.size w w6 := b5.trans (o6.below (by omega) (by omega))
    rw [hlen] at hd6 hs6 ⊢
    exact h w6 _ c ys hd6.rv (hp6.trans hperm) hs6 b6
  · intro x v w6 hxm hxd it6 en6 o6 hlt
    have b6 : Below w.heap.size w w6 := b5.trans (o6.below.mono (Nat.le_refl _))
    have s6 := o6.size
    have ho6 : OV w6 w4.heap.size E64 a done.length c (done.map uv) := own_same ho5 fun k hk => o6.other k (by have := (OV.block ho5 k hk).1; omega)
    (repeat (first | refine ext3_a ?_ | refine cond_T ?_))
    refine ent_of en6 ?_
    (repeat (first | refine ext_a ?_))
    refine bldSG (vs := [.int .u64 x]) Try.underlying47 (s := 1) (by kernel_rfl) (by kernel_rfl) (by omega) rfl (by simp) (by simp) (by simp) (by simp [Value.cells]) ?_
    intro w7 hb7 b7 s7
    have hb7 : blk w7 w6.heap.size 33 [.int .u64 x] := hb7
    have ho7 : OV w7 w4.heap.size E64 a done.length c (done.map uv) := own_same ho6 fun k hk => b7.block k (OV.block ho6 k hk).2
    obtain ⟨i, hi, hz, hsz, hby⟩ := info_parts info_u64
    refine app_own (base := w4.heap.size) (s := 1) (ys := [.int .u64 x]) Try.underlying47 hi hz hsz hby rfl (by omega) ho7 hb7 rfl rfl (by simp [Value.oneCell']) (by omega) (by omega) (by omega) ?_
    intro a' c' w8 ho8 hg8
    have hown : ∀ k, k < w6.heap.size → (∀ q, (Value.slice a done.length c).ownBlock = some q → q ≠ k) → w8.heap[k]? = w6.heap[k]? := by
      intro k hk hq
      rw [hg8.block k (by omega) (fun e => hq k e.symm rfl), b7.block k hk]
    have hq : ∀ q, (Value.slice a done.length c).ownBlock = some q → w4.heap.size ≤ q := fun q e => (OV.block ho7 q e).1
    have it8 : IT u64v ndV w8 w.heap.size f.b1 S.nodes (done ++ [x]) := by
      have hlt6 := it6.lt
      have hlb := ha.m1.lt
      exact it6.kept (hown _ (by omega) fun q e => by have := hq q e; omega) (hown _ (by omega) fun q e => by have := hq q e; omega)
    have b8 : Below w.heap.size w w8 := ⟨hg8.os.trans (b7.os.trans b6.os), hg8.tape.trans (b7.tape.trans b6.tape), hg8.output.trans (b7.output.trans b6.output), by have := hg8.size; have := b7.size; have := b6.size; omega, fun k hk => by
      have := b6.size
      rw [hown k (by omega) fun q e => by have := hq q e; omega, b6.block k hk]⟩
    refine ⟨⟨done ++ [x], a', c', by simp, it8, b8, by have := hg8.size; have := b7.size; omega, ?_⟩, ?_⟩
    · rw [List.map_append, List.length_append]; exact ho8
    · rw [hm]
      have : rleft w8 f.b1 w.heap.size = rleft w6 f.b1 w.heap.size := by
        have hlb := ha.m1.lt
        have hlt6 := it6.lt
        exact rleft_kept (hown _ (by omega) fun q e => by have := hq q e; omega) (hown _ (by omega) fun q e => by have := hq q e; omega)
      rw [this]; exact hlt
theorem boundA_c {f : AF} {S : AS} (ha : AK w f S) (hb : AB S) (hl : S.nodes.length < 256)
    (h : ∀ w', Below w.heap.size w w' → K (.bool (bndS S)) w') : call Try.prog 12 #[ptr f.p] K w := by
  refine call_of audit_Audit_Bound_go (audit_Audit_Bound_in ?_)
  refine nodesA_c ha hl ?_
  intro w1 g c ys hg hp _ b1
  have hyl : ys.length = S.nodes.length := by have := hp.length_eq; simpa using this
  refine lenS ?_
  refine audit_Audit_Bound_L1_r (Inv := fun i wr => ∃ j : Nat, i = .int .i64 (j : Nat) ∧ j ≤ ys.length ∧ Below w.heap.size w wr ∧ RV wr g S.nodes.length c (ys.map uv) ∧ ∀ k, k < j → (sumsS S (G ys k)).2.1 ≤ (sumsS S (G ys k)).1)
    (μ := fun i _ => ys.length - (intOf i).toNat) ⟨0, rfl, by omega, b1, hg, fun k hk => by omega⟩ ?_
  rintro _ _ w2 m ⟨j, rfl, hj, b2, hg2, hall⟩ hm
  have mem : ∀ k, k < ys.length → G ys k ∈ S.nodes.map (·.1) := fun k hk => by
    have : G ys k = ys[k] := by simp [G, List.getD, hk]
    rw [this]; exact hp.subset (List.getElem_mem hk)
  by_cases hjn : j < ys.length
  rotate_left
  · (repeat (first | refine audit_Audit_Bound_P1_r ?_ | refine bin_lss ?_ | refine cond_f (by omega) ?_))
    have ht : bndS S = true := by
      unfold bndS
      rw [List.all_eq_true]
      intro p hpm
      have : p.1 ∈ ys := hp.symm.subset (List.mem_map_of_mem hpm)
      obtain ⟨k, hk, he⟩ := List.getElem_of_mem this
      have hg' : G ys k = p.1 := by simp [G, List.getD, hk, he]
      have := hall k (by omega)
      rw [hg'] at this
      exact decide_eq_true this
    have := h w2 b2
    rw [ht] at this
    exact this
  refine bin_lss ?_
  refine cond_t (by omega) ?_
  refine idxU hg2 (by omega) (fun _ => ?_)
  refine ldUn hg2 (by omega) ?_
  have ha2 := ha.below b2
  refine sums_c ha2 hb ?_
  intro w3 b3
  have b03 := b2.trans (b3.mono b2.size)
  refine ext_of rfl ?_
  refine ext_of rfl ?_
  refine ext_of rfl ?_
  refine bin_gtr ?_
  by_cases hle : (sumsS S (G ys j)).2.1 ≤ (sumsS S (G ys j)).1
  · refine cond_f (by omega) ?_
    refine add64 (by omega) (by omega) ?_
    have hg3 : RV w3 g S.nodes.length c (ys.map uv) := RV.below hg2 b3 (Nat.le_refl _)
    refine ⟨⟨j + 1, (show Value.int .i64 ((j : Int) + 1) = _ by simp), by omega, b03, hg3, fun k hk => ?_⟩, by rw [hm]; show ys.length - (intOf (.int .i64 ((j : Int) + 1))).toNat < _; simp only [intOf]; omega⟩
    by_cases hkj : k = j
    · subst hkj; exact hle
    · exact hall k (by omega)
  · refine cond_t (by omega) ?_
    have hf : bndS S = false := by
      unfold bndS
      rw [List.all_eq_false]
      obtain ⟨p, hpm, hpe⟩ := List.mem_map.1 (mem j hjn)
      exact ⟨p, hpm, by rw [hpe]; simpa using hle⟩
    have := h w3 b03
    rw [hf] at this
    exact this

theorem rsame_c {a b : Option Addr} {n ca cb : Nat} {xs ys : List Int} (ha : RV w a n ca (xs.map uv)) (hb : RV w b n cb (ys.map uv)) (he : xs = ys) (hn : n < 256) (h : ∀ w', Below w.heap.size w w' → K (.bool true) w') :
    call Try.prog 14 #[.slice a n ca, .slice b n cb] K w := by
  subst he
  refine call_of leatref09_Same_go (leatref09_Same_in ?_)
  refine lenS ?_
  refine lenS ?_
  refine bin_neq ?_
  refine cond_f (by omega) ?_
  refine leatref09_Same_L1_r (Inv := fun i wr => ∃ k : Nat, i = .int .i64 (k : Nat) ∧ k ≤ n ∧ Below w.heap.size w wr) (μ := fun i _ => n - (intOf i).toNat) ⟨0, rfl, by omega, Below.refl _ _⟩ ?_
  rintro _ _ w1 m ⟨k, rfl, hk, b1⟩ hm
  refine lenS ?_
  refine bin_lss ?_
  by_cases hlt : k < n
  rotate_left
  · refine cond_f (by omega) ?_
    refine leatref09_Same_P1_r ?_
    exact h w1 b1
  refine cond_t (by omega) ?_
  have ha1 : RV w1.drew a n ca (xs.map uv) := RV.below ha b1.drew (Nat.le_refl _)
  have hb1 : RV w1.drew b n cb (xs.map uv) := RV.below hb b1.drew (Nat.le_refl _)
  refine sti_of (fun K hK => idxU ha1 hlt (fun _ => hK)) ?_
  refine sti_of (fun K hK => ldUn ha1 hlt hK) ?_
  refine sti_of (fun K hK => idxU hb1 hlt (fun _ => hK)) ?_
  refine sti_of (fun K hK => ldUn hb1 hlt hK) ?_
  refine sti_of (fun K hK => bin_neq hK) ?_
  refine cond_f (by omega) ?_
  refine add64 (by omega) (by omega) ?_
  rw [cadd1]
  exact ⟨⟨k + 1, rfl, by omega, b1.drew⟩, by rw [hm]; simp only [intOf]; omega⟩
end
end Go.Proofs.Ytcieejlkdfdpiaa
