/- A disk beside bytes of the call's own: what is written there does not turn it. -/
import Derived.Test.YtjkmblbonambjaaDisk5
namespace Go.Proofs.Ytjkmblbonambjaa
set_option maxRecDepth 100000
open Go.RowKit
attribute [local irreducible] bin un conv call callV blt slc fldA fld idxA idx lkp mUpd mEnt eSt rng nxt ent ext alc box bld bldS ld sto nilC mkMap mkS ifc pick rdy wts gsel sti cond retM Gives cCode cGrp cSeq cOp

/-- Of what was there only bytes in blocks that are none of Z have turned. -/
structure KeepZ (Z : Nat → Prop) (w w' : World) : Prop where
  size : w.heap.size ≤ w'.heap.size
  block : ∀ (k : Nat) (o : Obj), w.heap[k]? = some o → (Z k ∨ ∀ cs E z, o = .cells cs E z → E ≠ 5) → w'.heap[k]? = some o

section
variable {Z : Nat → Prop} {w w' : World}
theorem KeepZ.blk {b : Nat} {E : TypeId} {cs : List Value} (hk : KeepZ Z w w') (hb : blk w b E cs) (hE : Z b ∨ E ≠ 5) : blk w' b E cs :=
  hk.block _ _ hb (hE.imp id fun h cs E z e => by cases e; exact h)
theorem TB.keepZ {v : Option Addr × Nat × Nat} {l : List UInt8} (h : TB Z w v l) (hk : KeepZ Z w w') : TB Z w' v l := by
  refine ⟨⟨RV.len h.1, RV.cap h.1, RV.some_ h.1, RV.nil_ h.1, fun i u hu => ?_⟩, fun ad ha => ?_⟩
  · have hi : i < v.2.1 := by have := (List.getElem?_eq_some_iff.1 hu).1; rw [RV.len h.1] at this; exact this
    obtain ⟨b, o, hbo⟩ := RV.some_ h.1 (by omega)
    obtain ⟨hz, cs, hb⟩ := h.2 _ hbo
    have hc := RV.cell h.1 i u hu
    rw [hbo, slotA_some] at hc ⊢
    rw [hb.cell] at hc
    rw [(hk.blk hb (.inl hz)).cell]; exact hc
  · obtain ⟨hz, cs, hb⟩ := h.2 ad ha
    exact ⟨hz, cs, hk.blk hb (.inl hz)⟩
theorem CH.keepZ {c : Chg} {cs : List Value} (h : CH Z w c cs) (hk : KeepZ Z w w') : CH Z w' c cs := by
  cases c with
  | app f b => obtain ⟨q, v, e, hq, hv⟩ := h; exact ⟨q, v, e, hk.blk hq (.inr (by decide)), hv.keepZ hk⟩
  | cut f n => obtain ⟨q, r, e, hq, hr⟩ := h; exact ⟨q, r, e, hk.blk hq (.inr (by decide)), hk.blk hr (.inr (by decide))⟩
  | ren => exact h
theorem DK.keepZ {B p : Nat} {D : DS} (h : DK Z w B p D) (hk : KeepZ Z w w') : DK Z w' B p D := by
  obtain ⟨s0, s1, n0, n1, la, ln, lc, fz, hb, e1, e2, e3, e4, hh⟩ := h
  obtain ⟨css, ho, c1, c2, hc⟩ := hh.row
  refine ⟨s0, s1, n0, n1, la, ln, lc, fz, hk.blk hb (.inr (by decide)), e1, e2, e3, e4, hh.sure0.keepZ hk, hh.sure1.keepZ hk, hh.now0.keepZ hk, hh.now1.keepZ hk, ⟨css, ⟨ho.1, ?_⟩, c1, c2, fun i ch cs h1 h2 => (hc i ch cs h1 h2).keepZ hk⟩, hh.ok, fun b hb => hh.fresh b (Nat.le_trans hk.size hb)⟩
  rcases ho.2 with h2 | ⟨g, cap, cur, hv, hb, hg, r⟩
  · exact .inl h2
  · exact .inr ⟨g, cap, cur, hv, hb, hk.block _ _ hg (.inr fun cs E z e => by cases e; decide), r⟩

theorem DK.step {Z' : Nat → Prop} {B p : Nat} {D : DS} (h : DK Z w B p D) (hk : KeepZ Z w w') (hz : ∀ b, b < w.heap.size → Z b → Z' b) (hf : ∀ b, w'.heap.size ≤ b → Z' b) : DK Z' w' B p D := by
  have hk2 : KeepZ (fun b => Z b ∧ Z' b) w w' := ⟨hk.size, fun k o ho h => hk.block k o ho (h.imp (fun h => h.1) id)⟩
  have tb : ∀ {v : Option Addr × Nat × Nat} {l : List UInt8}, TB Z w v l → TB Z' w' v l := fun h => ((h.mono (Z' := fun b => Z b ∧ Z' b) fun b hb h => ⟨h, hz b hb h⟩).keepZ hk2).mono fun b _ h => h.2
  have ch : ∀ {c : Chg} {cs : List Value}, CH Z w c cs → CH Z' w' c cs := fun h => ((h.mono (Z' := fun b => Z b ∧ Z' b) fun b hb h => ⟨h, hz b hb h⟩).keepZ hk2).mono fun b _ h => h.2
  obtain ⟨s0, s1, n0, n1, la, ln, lc, fz, hb, e1, e2, e3, e4, hh⟩ := h
  obtain ⟨css, ho, c1, c2, hc⟩ := hh.row
  refine ⟨s0, s1, n0, n1, la, ln, lc, fz, hk.blk hb (.inr (by decide)), e1, e2, e3, e4, tb hh.sure0, tb hh.sure1, tb hh.now0, tb hh.now1, ⟨css, ⟨ho.1, ?_⟩, c1, c2, fun i c cs h1 h2 => ch (hc i c cs h1 h2)⟩, hh.ok, hf⟩
  rcases ho.2 with h2 | ⟨g, cap, cur, hv, hb, hg, r⟩
  · exact .inl h2
  · exact .inr ⟨g, cap, cur, hv, hb, hk.block _ _ hg (.inr fun cs E z e => by cases e; decide), r⟩

theorem KeepZ.grown {B2 : Nat} {a : Option Addr} {n c : Nat} {xs : List UInt8} (hg : w.grownBy w' (Value.slice a n c).ownBlock) (ho : OB w B2 a n c xs) (hz : ∀ ad, a = some ad → ¬ Z ad.block) : KeepZ Z w w' :=
  ⟨hg.size, fun k o hk h => by
    have hlt : k < w.heap.size := (Array.getElem?_eq_some_iff.1 hk).1
    rw [hg.block k hlt ?_]; exact hk
    rcases ho.2 with ⟨hv, _⟩ | ⟨g, cap, cur, hv, hb, hh, _⟩
    · cases hv; simp [Value.ownBlock]
    · cases hv
      simp only [Value.ownBlock, ne_eq, Option.some.injEq]
      rintro rfl
      rcases h with h | h
      · exact hz _ rfl h
      · rw [hh] at hk; cases hk; exact h _ _ _ rfl rfl⟩
theorem KeepZ.set {b o : Nat} {u : Value} (hz : ¬ Z b) (hb : ∃ cur, w.heap[b]? = some (.cells cur 5 (0, 0))) : KeepZ Z w (w.setCell ⟨b, o, none⟩ u) :=
  ⟨by simp [World.setCell], fun k ob hk h => by
    have : k ≠ b := by
      rintro rfl
      obtain ⟨cur, hc⟩ := hb
      rcases h with h | h
      · exact hz h
      · rw [hc] at hk; cases hk; exact h _ _ _ rfl rfl
    rw [Below.heap_setCell w _ _ k this]; exact hk⟩
end

/-- append of bytes to bytes of the call's own; what comes out lies where it lay, or in a new block. -/
theorem app8s {w : World} {K : KV} {ty : TypeId} {cs : Array Bool} (base : Nat) {av : Option Addr} {n c : Nat} {xs : List UInt8} {a2 : Option Addr} {m c2 : Nat} {ys : List UInt8}
    (hown : OB w base av n c xs) (hy : RB w a2 m c2 ys) (hbytes : n + m ≤ 70368744177664) (hbase : base ≤ w.heap.size)
    (h : ∀ a' c' w', OB w' base a' (n + m) c' (xs ++ ys) → w.grownBy w' (Value.slice av n c).ownBlock → (a' = av ∨ a' = some ⟨w.heap.size, 0, none⟩) → K (.slice a' (n + m) c') w') :
    blt Try.prog .append #[29, 29] ty cs #[.slice av n c, .slice a2 m c2] K w := by
  obtain ⟨i, hi, hz, hsz, hby⟩ := info_parts info_u8
  obtain ⟨a', c', w', hr, h2, h3⟩ := run_append_ov (P := Try.prog) w base 29 ty 5 i (.int .u8 0) 1 Try.underlying29 hi hz hsz hby rfl hown hy (oneCell_u8 ys) (by omega) (by omega) hbase
  have ho : OB w' base a' (n + m) c' (xs ++ ys) := by simpa [OB] using h2
  have where_ : a' = av ∨ a' = some ⟨w.heap.size, 0, none⟩ := by
    cases a2 with
    | none =>
      obtain ⟨rfl, rfl⟩ := RV.nil_ hy rfl
      have := run_append_owned_none (P := Try.prog) w base 29 ty 5 i 1 Try.underlying29 hi _ n _ hown
      rw [this] at hr
      simp only [Result.ok.injEq, Value.slice.injEq] at hr
      exact .inl hr.1.1.symm
    | some ad =>
      have hnews : ∀ j u, (ys.map u8v)[j]? = some u → w.cell? (ad.add j) = some u := by
        intro j u hj
        have hlt : j < m := by rw [← RV.len hy]; exact (List.getElem?_eq_some_iff.1 hj).1
        obtain ⟨b, o, hbo⟩ := RV.some_ hy (by omega)
        have hc := RV.cell hy j u hj
        cases hbo
        rw [add_p]; exact hc
      have hyl : (ys.map u8v).length = m * i.size := by rw [hsz, RV.len hy]; omega
      rcases hown.2 with ⟨hv, hn⟩ | ⟨g, cap, cur, hv, hB, hh, hnc, hm, hs, ht⟩
      · cases hv
        by_cases hm0 : m = 0
        · subst hm0
          have hr2 : (Builtin.append_ #[29, 29] ty #[.slice none 0 0, .slice (some ad) 0 c2]).run Try.prog w = .ok (.slice none 0 0) w := by
            simp [Builtin.append_, run_underlying Try.underlying29, sizeOf, typeInfo, hi, Builtin.lenOf, Builtin.firstCells, storeCells, loadCells, loadCellsFrom]
          rw [hr2] at hr
          simp only [Result.ok.injEq, Value.slice.injEq] at hr
          exact .inl hr.1.1.symm
        · have hr2 := run_append_nil (P := Try.prog) w 29 ty 5 i (.int .u8 0) Try.underlying29 hi hz ad m c2 (ys.map u8v) hyl hnews (by omega) (by omega) (by rw [hby]; omega)
          rw [hr2] at hr
          simp only [Result.ok.injEq, Value.slice.injEq] at hr
          exact .inr hr.1.1.symm
      · cases hv
        by_cases hroom : n + m ≤ c
        · obtain ⟨w2, hr2, _⟩ := run_append_fits (P := Try.prog) w base 29 ty 5 i 1 Try.underlying29 hi hsz g n c _ hown ad m c2 (ys.map u8v) (by rw [RV.len hy]; omega) hnews (oneCell_u8 ys) hroom
          rw [hr2] at hr
          simp only [Result.ok.injEq, Value.slice.injEq] at hr
          exact .inl hr.1.1.symm
        · have holds : ∀ j u, (xs.map u8v)[j]? = some u → w.cell? ((⟨g, 0, none⟩ : Addr).add j) = some u := by
            intro j u hj
            have := RV.cell hown.rb.rv j u hj
            rw [add_p]; exact this
          have hcap := nextslicecap_le (need := n + m) (old := c) (by omega)
          have hr2 := run_append_grow (P := Try.prog) w 29 ty 5 i (.int .u8 0) Try.underlying29 hi hz ⟨g, 0, none⟩ n c (xs.map u8v) (by rw [hsz, RV.len hown.rb.rv]; omega) holds ad m c2 (ys.map u8v) hyl hnews (by omega) (by omega) (by rw [hby]; omega)
          rw [hr2] at hr
          simp only [Result.ok.injEq, Value.slice.injEq] at hr
          exact .inr hr.1.1.symm
  exact blt_of (by rw [BigFrame.builtin_append]; simp only [Sem.run_bind, hr, Result.andThen_ok, Sem.run_pure]) (h a' c' w' ho h3 where_)
end Go.Proofs.Ytjkmblbonambjaa
