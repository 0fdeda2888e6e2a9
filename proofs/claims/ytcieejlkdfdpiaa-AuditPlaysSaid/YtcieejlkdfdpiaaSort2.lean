/- slices.Sort of at most 12 numbers; all nodes, and whether all is within its limit. -/
import Derived.Test.YtcieejlkdfdpiaaSort
namespace Go.Proofs.Ytcieejlkdfdpiaa
set_option maxRecDepth 100000
open Go.RowKit Go.ChangeMaps
section
variable {P : Program} {w : World} {K : KV} {t : TypeId}
theorem idx_str (ht : P.underlying t = some .string) {s : ByteArray} {k : IntKind} {i : Nat} (hi : i < s.size) (h : ∀ b : Nat, b < 256 → K (.int .u8 (b : Int)) w) : idx P t (.string s) (.int k (i : Nat)) K w := by
  refine idx_of (w' := w) (v := .int .u8 (s[i].toNat : Int)) ?_ (h _ (UInt8.toNat_lt _))
  have e : s[i]? = some s[i] := getElem?_pos s i hi
  simp [Instr.index, asIntOf, run_underlying ht, e]
end
attribute [local irreducible] bin un conv call callV blt slc fldA fld idxA idx lkp mUpd mEnt eSt rng nxt ent ext alc box bld bldS ld sto nilC mkMap mkS ifc pick rdy wts gsel sti cond retM Gives cCode cGrp cSeq cOp
section
variable {w : World} {K : KV} {g n c : Nat} {xs : List Int}
theorem info_u64 : (Try.prog.info? 33).map (fun i => (i.zero, i.size, i.bytes)) = some (some (.int .u64 0), 1, 8) := by kernel_rfl
theorem lenb_c (hn : n < 256) (h : ∀ r : Nat, r < 256 → K (.int .i64 (r : Int)) w) : call Try.prog 25 #[.int .u64 (n : Nat)] K w := by
  refine call_of math_bits_Len_go (math_bits_Len_in ?_)
  (repeat (first | refine cond_F ?_))
  refine call_of math_bits_Len64_go (math_bits_Len64_in ?_)
  (repeat (first | refine math_bits_Len64_P1_r ?_ | refine math_bits_Len64_A1_r ?_ | refine math_bits_Len64_P2_r ?_ | refine math_bits_Len64_A2_r ?_ | refine math_bits_Len64_P3_r ?_ | refine math_bits_Len64_A3_r ?_ | refine bin_geq ?_ | refine cond_f (by omega) ?_))
  refine conv_int Try.underlying33 Try.underlying5 ?_
  rw [wrap_u8, show ((n : Nat) : Int) % 256 = (n : Nat) by omega]
  refine idx_str Try.underlying9 (by exact hn) ?_
  intro b hb
  refine conv_int Try.underlying5 Try.underlying3 ?_
  rw [wrap_i64 (by omega) (by omega)]
  (repeat (first | refine add64 (by omega) (by omega) ?_))
  have := h b hb
  rwa [Int.zero_add]
theorem sortS_c (hd : SD w g n c xs) (hn : n ≤ 12) (h : ∀ w' ys, SD w' g n c ys → Oth g w w' → ys.Perm xs → K (.tuple #[]) w') :
    call Try.prog 23 #[.slice (some ⟨g, 0, none⟩) n c] K w := by
  refine call_of slices_Sort_uint64_uint64_go (slices_Sort_uint64_uint64_in ?_)
  refine lenS ?_
  refine conv_int Try.underlying3 Try.underlying56 ?_
  rw [wrap_u64, show ((n : Nat) : Int) % 18446744073709551616 = (n : Nat) by omega]
  refine lenb_c (by omega) ?_
  intro r hr
  refine pdqs_c hd hn ?_
  exact h
theorem own_same {w' : World} {B : Nat} {E : TypeId} {s : Nat} {v : Value} {n : Nat} {xs : List Value} (h : w.ownsRow B E s v n xs) (hk : ∀ k, v.ownBlock = some k → w'.heap[k]? = w.heap[k]?) : w'.ownsRow B E s v n xs := by
  refine ⟨h.1, ?_⟩
  rcases h.2 with h2 | ⟨g, cap, cur, hv, hb, hh, r⟩
  · exact .inl h2
  · refine .inr ⟨g, cap, cur, hv, hb, ?_, r⟩
    rw [hk g (by rw [hv]; rfl)]; exact hh

theorem nodesS_c {f : AF} {S : AS} (ha : AK w f S) (hl : S.nodes.length ≤ 12) (h0 : S.nodes ≠ [])
    (h : ∀ w' g c ys, SD w' g S.nodes.length c ys → ys.Perm (S.nodes.map (·.1)) → w.heap.size ≤ g → Below w.heap.size w w' → K (.slice (some ⟨g, 0, none⟩) S.nodes.length c) w') : call Try.prog 15 #[ptr f.p] K w := by
  have hd := ha.head
  refine call_of audit_Audit_Nodes_go (audit_Audit_Nodes_in ?_)
  (repeat (first | refine eqA_nil ?_ | refine nilC_p ?_ | refine fA_Aud_0 ?_ | (refine ld_AL_5 ?_ (by assumption) ?_ ?_; rotate_left; exact rfl) | refine cond_F ?_))
  refine rng_of Try.underlying60 ha.m1 ?_
  intro w4 it4 b4 s4
  have hne : w.heap.size ≠ f.b1 := by have := ha.m1.lt; omega
  refine audit_Audit_Nodes_L1_r (Inv := fun l wr => ∃ (done : List Int) (a : Option Addr) (c : Nat), l = .slice a done.length c ∧ IT u64v ndV wr w.heap.size f.b1 S.nodes done ∧ Below w.heap.size w wr ∧ w4.heap.size ≤ wr.heap.size ∧
      OV wr w4.heap.size E64 a done.length c (done.map uv))
    (μ := fun l wr => rleft wr f.b1 w.heap.size) ⟨[], none, 0, rfl, it4, b4, Nat.le_refl _, OV.nil _ _ _⟩ ?_
  rintro l _ w5 m ⟨done, a, c, rfl, it5, b5, hs5, ho5⟩ hm
  obtain ⟨n1, n2, n3⟩ := it5.nodup
  have hdl := nodup_len n1 n3
  simp only [List.length_map] at hdl
  refine nxt_of it5 hne ?_ ?_
  · intro hall
    have hperm : done.Perm (S.nodes.map (·.1)) := (List.perm_ext_iff_of_nodup n1 n2).2 fun x => ⟨n3 x, hall x⟩
    have hlen : done.length = S.nodes.length := by have := hperm.length_eq; simpa using this
    have hpos : 0 < S.nodes.length := List.length_pos_iff.2 h0
    refine ext_of rfl ?_
    (repeat (first | refine audit_Audit_Nodes_P1_r ?_ | refine cond_F ?_))
    rcases ho5.2 with ⟨_, hz⟩ | ⟨g, cap, cur, hv, hg, hh, hn, hcm, hsz, htk⟩
    · omega
    simp only [Value.slice.injEq] at hv
    obtain ⟨rfl, _, rfl⟩ := hv
    have hsd : SD w5 g done.length c done := by
      refine ⟨cur.toList.drop done.length, ?_, rfl, hn, by omega⟩
      rw [Nat.mul_one] at htk
      rw [← htk, List.take_append_drop]
      exact hh
    refine sortS_c hsd (by omega) ?_
    intro w6 ys hd6 o6 hp6
    have b6 : Below w.heap.size w w6 := b5.trans ((o6.below).mono (by omega))
    rw [hlen] at hd6 ⊢
    exact h w6 g c ys hd6 (hp6.trans hperm) (by omega) b6
  · intro x v w6 hxm hxd it6 en6 o6 hlt
    have b6 : Below w.heap.size w w6 := b5.trans (o6.below.mono (Nat.le_refl _))
    have s6 := o6.size
    have ho6 : OV w6 w4.heap.size E64 a done.length c (done.map uv) := own_same ho5 fun k hk => o6.other k (by have := (OV.block ho5 k hk).1; omega)
    (repeat (first | refine ext3_a ?_ | refine cond_T ?_))
    refine ent_of en6 ?_
    (repeat (first | refine ext_a ?_))
    refine bldSG (vs := [.int .u64 x]) Try.underlying47 (s := 1) (by kernel_rfl) (by kernel_rfl) (by omega) rfl (by simp) (by simp) (by simp) (by simp [Value.cells]) ?_
    intro w7 hb7 b7 s7
    have hb7 : blk w7 w6.heap.size 33 [.int .u64 x] := hb7
    have ho7 : OV w7 w4.heap.size E64 a done.length c (done.map uv) := own_same ho6 fun k hk => b7.block k (OV.block ho6 k hk).2
    obtain ⟨i, hi, hz, hsz, hby⟩ := info_parts info_u64
    refine app_own (base := w4.heap.size) (s := 1) (ys := [.int .u64 x]) Try.underlying47 hi hz hsz hby rfl (by omega) ho7 hb7 rfl rfl (by simp [Value.oneCell']) (by omega) (by omega) (by omega) ?_
    intro a' c' w8 ho8 hg8
    have hown : ∀ k, k < w6.heap.size → (∀ q, (Value.slice a done.length c).ownBlock = some q → q ≠ k) → w8.heap[k]? = w6.heap[k]? := by
      intro k hk hq
      rw [hg8.block k (by omega) (fun e => hq k e.symm rfl), b7.block k hk]
    have hq : ∀ q, (Value.slice a done.length c).ownBlock = some q → w4.heap.size ≤ q := fun q e => (OV.block ho7 q e).1
    have it8 : IT u64v ndV w8 w.heap.size f.b1 S.nodes (done ++ [x]) := by
      have hlt6 := it6.lt
      have hlb := ha.m1.lt
      exact it6.kept (hown _ (by omega) fun q e => by have := hq q e; omega) (hown _ (by omega) fun q e => by have := hq q e; omega)
    have b8 : Below w.heap.size w w8 := ⟨hg8.os.trans (b7.os.trans b6.os), hg8.tape.trans (b7.tape.trans b6.tape), hg8.output.trans (b7.output.trans b6.output), by have := hg8.size; have := b7.size; have := b6.size; omega, fun k hk => by
      have := b6.size
      rw [hown k (by omega) fun q e => by have := hq q e; omega, b6.block k hk]⟩
    refine ⟨⟨done ++ [x], a', c', by simp, it8, b8, by have := hg8.size; have := b7.size; omega, ?_⟩, ?_⟩
    · rw [List.map_append, List.length_append]; exact ho8
    · rw [hm]
      have : rleft w8 f.b1 w.heap.size = rleft w6 f.b1 w.heap.size := by
        have hlb := ha.m1.lt
        have hlt6 := it6.lt
        exact rleft_kept (hown _ (by omega) fun q e => by have := hq q e; omega) (hown _ (by omega) fun q e => by have := hq q e; omega)
      rw [this]; exact hlt
def bndS (S : AS) : Bool := S.nodes.all fun p => decide ((sumsS S p.1).2.1 ≤ (sumsS S p.1).1)
theorem boundS_c {f : AF} {S : AS} (ha : AK w f S) (hb : AB S) (hl : S.nodes.length ≤ 12) (h0 : S.nodes ≠ [])
    (h : ∀ w', Below w.heap.size w w' → K (.bool (bndS S)) w') : call Try.prog 12 #[ptr f.p] K w := by
  refine call_of audit_Audit_Bound_go (audit_Audit_Bound_in ?_)
  refine nodesS_c ha hl h0 ?_
  intro w1 g c ys hg hp hgl b1
  have hyl : ys.length = S.nodes.length := by have := hp.length_eq; simpa using this
  refine lenS ?_
  refine audit_Audit_Bound_L1_r (Inv := fun i wr => ∃ j : Nat, i = .int .i64 (j : Nat) ∧ j ≤ ys.length ∧ Below w.heap.size w wr ∧ SD wr g S.nodes.length c ys ∧ ∀ k, k < j → (sumsS S (G ys k)).2.1 ≤ (sumsS S (G ys k)).1)
    (μ := fun i _ => ys.length - (intOf i).toNat) ⟨0, rfl, by omega, b1, hg, fun k hk => by omega⟩ ?_
  rintro _ _ w2 m ⟨j, rfl, hj, b2, hg2, hall⟩ hm
  have mem : ∀ k, k < ys.length → G ys k ∈ S.nodes.map (·.1) := fun k hk => by
    have : G ys k = ys[k] := by simp [G, List.getD, hk]
    rw [this]; exact hp.subset (List.getElem_mem hk)
  by_cases hjn : j < ys.length
  rotate_left
  · (repeat (first | refine audit_Audit_Bound_P1_r ?_ | refine bin_lss ?_ | refine cond_f (by omega) ?_))
    have ht : bndS S = true := by
      unfold bndS
      rw [List.all_eq_true]
      intro p hpm
      have : p.1 ∈ ys := hp.symm.subset (List.mem_map_of_mem hpm)
      obtain ⟨k, hk, he⟩ := List.getElem_of_mem this
      have hg' : G ys k = p.1 := by simp [G, List.getD, hk, he]
      have := hall k (by omega)
      rw [hg'] at this
      exact decide_eq_true this
    have := h w2 b2
    rw [ht] at this
    exact this
  refine bin_lss ?_
  refine cond_t (by omega) ?_
  refine idxS (by omega) ?_
  refine ldS hg2 (by omega) ?_
  have ha2 := ha.below b2
  refine sums_c ha2 hb ?_
  intro w3 b3
  have b03 := b2.trans (b3.mono b2.size)
  refine ext_of rfl ?_
  refine ext_of rfl ?_
  refine ext_of rfl ?_
  refine bin_gtr ?_
  by_cases hle : (sumsS S (G ys j)).2.1 ≤ (sumsS S (G ys j)).1
  · refine cond_f (by omega) ?_
    refine add64 (by omega) (by omega) ?_
    have hg3 : SD w3 g S.nodes.length c ys := by obtain ⟨rest, q1, q2⟩ := hg2; exact ⟨rest, below_blk b3 q1 q1.lt, q2⟩
    refine ⟨⟨j + 1, (show Value.int .i64 ((j : Int) + 1) = _ by simp), by omega, b03, hg3, fun k hk => ?_⟩, by rw [hm]; show ys.length - (intOf (.int .i64 ((j : Int) + 1))).toNat < _; simp only [intOf]; omega⟩
    by_cases hkj : k = j
    · subst hkj; exact hle
    · exact hall k (by omega)
  · refine cond_t (by omega) ?_
    have hf : bndS S = false := by
      unfold bndS
      rw [List.all_eq_false]
      obtain ⟨p, hpm, hpe⟩ := List.mem_map.1 (mem j hjn)
      exact ⟨p, hpm, by rw [hpe]; simpa using hle⟩
    have := h w3 b03
    rw [hf] at this
    exact this
end
end Go.Proofs.Ytcieejlkdfdpiaa
