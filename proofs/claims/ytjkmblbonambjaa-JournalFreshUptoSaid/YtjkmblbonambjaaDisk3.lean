/- The contracts of the disk's calls. -/
import Derived.Test.YtjkmblbonambjaaDisk2
import Derived.Test.YtjkmblbonambjaaClone
namespace Go.Proofs.Ytjkmblbonambjaa
set_option maxRecDepth 100000
open Go.RowKit
attribute [local irreducible] bin un conv call callV blt slc fldA fld idxA idx lkp mUpd mEnt eSt rng nxt ent ext alc box bld bldS ld sto nilC mkMap mkS ifc pick rdy wts gsel sti cond retM Gives cCode cGrp cSeq cOp
variable {Z : Nat → Prop}

abbrev DT : List TypeId := [70, 90]

theorem flatten_snoc (l : List (List Value)) (x : List Value) : (l ++ [x]).flatten = l.flatten ++ x := by simp

theorem LR.snoc [G : Guard] {w' : World} {B : Nat} {a' : Option Addr} {n c' : Nat} {l : List Chg} {ch : Chg} {cs : List Value} {css : List (List Value)} (hl : css.length = l.length) (hn : l.length = n)
    (ho : w'.ownsRow B 90 3 (.slice a' (n + 1) c') (n + 1) (css.flatten ++ cs)) (hc : ∀ (i : Nat) (ch : Chg) (cs : List Value), l[i]? = some ch → css[i]? = some cs → CH Z w' ch cs) (hch : CH Z w' ch cs) (hgd : ∀ ad, a' = some ad → ¬ G.prot ad.block) : LR Z w' B a' (n + 1) c' (l ++ [ch]) := by
  refine ⟨css ++ [cs], by rw [flatten_snoc]; exact ho, hgd, by simp [hl], by simp [hn], fun i ch2 cs2 h1 h2 => ?_⟩
  by_cases hi : i < l.length
  · rw [List.getElem?_append_left hi] at h1
    rw [List.getElem?_append_left (by omega)] at h2
    exact hc i ch2 cs2 h1 h2
  · rw [List.getElem?_append_right (by omega)] at h1
    rw [List.getElem?_append_right (by omega)] at h2
    have h0 : i - l.length = 0 := by have := (List.getElem?_eq_some_iff.1 h1).1; simpa using this
    rw [h0] at h1
    rw [hl, h0] at h2
    simp at h1 h2
    subst h1 h2
    exact hch

theorem info_chg : (Try.prog.info? 90).map (fun i => (i.zero, i.size, i.bytes)) = some (some (.agg #[.nilFunc, .slice none 0 0, .bool false]), 3, 40) := by kernel_rfl

theorem CH.ok_with [G : Guard] {c : Chg} {b : List UInt8} {F : Fls} {w : World} {fv tv : Value} {v : Option Addr × Nat × Nat} (h : CH Z w c [fv, slv v, tv]) (hv : TB Z w v b) (hc : c.ok F) : (c.with b).ok F ∧ (c.with b).on F = c.on F := by
  cases c with
  | app f b' =>
    obtain ⟨q, v', e, _, hv'⟩ := h
    have hvv : v = v' := by
      have : slv v = slv v' := by simp only [List.cons.injEq] at e; exact e.2.1
      obtain ⟨a, n, c⟩ := v
      obtain ⟨a', n', c'⟩ := v'
      simp only [slv, Value.slice.injEq] at this
      obtain ⟨rfl, rfl, rfl⟩ := this
      rfl
    subst hvv
    have : b = b' := by
      have h1 := hv.len
      have h2 := hv'.len
      apply List.ext_getElem (by omega)
      intro i hi hi2
      have c1 := hv.rb.cell i hi
      have c2 := hv'.rb.cell i hi2
      rw [c1] at c2
      simp only [Option.some.injEq, Value.int.injEq, true_and] at c2
      exact UInt8.toNat_inj.1 (by omega)
    subst this
    exact ⟨hc, rfl⟩
  | cut f n => exact ⟨hc, rfl⟩
  | ren => exact ⟨trivial, rfl⟩

set_option maxHeartbeats 2000000 in
theorem make_c [G : Guard] {B p : Nat} {D : DS} {w : World} {K : KV} {c : Chg} {fv tv : Value} {v : Option Addr × Nat × Nat} {b : List UInt8} (hd : DK Z w B p D) (hch : CH Z w c [fv, slv v, tv]) (hv : TB Z w v b) (hok : c.ok D.now) (hlen : D.loose.length < 4294967296)
    (h : ∀ w', DK Z w' B p (burn { D with loose := D.loose ++ [c] }).2 → Kg DT B w w' → K (.int .i64 (if (burn { D with loose := D.loose ++ [c] }).1 then 8 else 0)) w') :
    call Try.prog 56 #[ptr p, .agg #[fv, slv v, tv]] K w := by
  obtain ⟨s0, s1, n0, n1, la, ln, lc, fz, hb, e1, e2, e3, e4, hh⟩ := hd
  have hfv : fv.oneCell' = true ∧ tv.oneCell' = true := by
    obtain ⟨f', v', tb, e, hf⟩ := hch.shape
    simp only [List.cons.injEq] at e
    obtain ⟨rfl, _, rfl, _⟩ := e
    exact ⟨hf, rfl⟩
  refine call_of disk_Disk_make_go (disk_Disk_make_in ?_)
  refine box_of ?_
  intro w1 hq1 hb1 hs1
  have hq1 : blk w1 w.heap.size 90 [fv, slv v, tv] := hq1
  have hk1 : Kg [] B w w1 := Kg.of hb1
  have hp1 := below_blk hb1 hb hb.lt
  have hh1 := hh.keep hk1 (by simp) (by simp) (by simp)
  have hch1 := hch.keep hk1 (by simp) (by simp)
  have hv1 := hv.keep hk1 (by simp)
  refine hReg_of (fun w' => blk w' p 70 [slv s0, slv s1, slv n0, slv n1, .slice la ln lc, .bool D.off, .bool (decide (0 ≤ D.fuse)), .int .i64 fz] ∧ blk w' w.heap.size 90 [fv, slv v, tv]) ⟨hp1, hq1⟩ ?_
  refine hld_of (fun w hw K hK => nilC_p hK) ?_
  refine hld_of (fun w hw K hK => fA_Disk_2 hK) ?_
  refine hld_of (fun w hw K hK => ld1 (fun _ => by kernel_rfl) hw.1 rfl hK) ?_
  refine hld_of (fun w hw K hK => ldA (n := 3) Try.underlying90 rfl (by kernel_rfl) hw.2 rfl rfl hK) ?_
  refine bldSG (s := 3) [.agg #[fv, slv v, tv]] Try.underlying68 (by kernel_rfl) (by kernel_rfl) (by omega) rfl (by simp) (by omega) rfl (by simp [Value.cells]) ?_
  intro w2 hr2 hb2 hs2
  have hk2 : Kg [] B w1 w2 := (Kg.of (w := w1.drew) hb2).undrew
  have hr2 : blk w2 w1.heap.size 90 [fv, slv v, tv] := hr2
  have hp2 := below_blk hb2 hp1.drew hp1.lt
  have hq2 := below_blk hb2 hq1.drew hq1.lt
  refine hSub_same ⟨hp2, hq2⟩ ?_
  have hh2 := hh1.keep hk2 (by simp) (by simp) (by simp)
  have hch2 := hch1.keep hk2 (by simp) (by simp)
  have hv2 := hv1.keep hk2 (by simp)
  obtain ⟨css, ho, hgd, c1, c2, hc⟩ := hh2.row
  obtain ⟨i, hi, hz, hsz, hby⟩ := info_parts info_chg
  refine app_at (base := B) (s := 3) (m := 1) (ys := [fv, slv v, tv]) Try.underlying68 hi hz hsz hby rfl (by omega) ho hr2 rfl (by simp only [List.mem_cons, List.not_mem_nil, or_false]; rintro u (rfl | rfl | rfl) <;> first | exact hfv.1 | exact hfv.2 | rfl) (by omega) (by omega) (by have := hb.lt; have := hb1.size; have := hb2.size; have : w1.drew.heap.size = w1.heap.size := rfl; omega) ?_
  intro a' c' w3 ho3 hg3 hm3
  have hgd' : ∀ ad, a' = some ad → ¬ G.prot ad.block := by
    intro ad ha
    subst ha
    rcases hm3 with e | e
    · cases la with
      | none => cases e
      | some ad2 => simp only [Value.ownBlock, Option.some.injEq] at e; rw [e]; exact hgd _ rfl
    · simp only [Value.ownBlock, Option.some.injEq] at e
      rw [e]; exact hh2.freshG _ (Nat.le_refl _)
  have hk3 : Kg [90] B w2 w3 := Kg.grown hg3 ho (by simp) (Nat.le_refl _) hgd
  have hp3 := hk3.blk hp2 (.inr (by decide))
  have hq3 : blk w3 w.heap.size 90 [fv, slv v, tv] := by
    unfold blk
    rw [hg3.block _ hq2.lt ?_]; exact hq2
    obtain ⟨css0, ho0, _⟩ := hh.row
    intro e
    have := (World.ownsRow.lt ho0 _ e.symm).2
    omega
  refine hReg_of (fun w' => blk w' p 70 [slv s0, slv s1, slv n0, slv n1, .slice la ln lc, .bool D.off, .bool (decide (0 ≤ D.fuse)), .int .i64 fz] ∧ blk w' w.heap.size 90 [fv, slv v, tv]) ⟨hp3, hq3⟩ ?_
  refine hld_of (fun w hw K hK => nilC_p hK) ?_
  refine hld_of (fun w hw K hK => fA_Disk_2 hK) ?_
  refine sto1 (by intro w; kernel_rfl) hp3 (by simp) rfl ?_
  intro w4 hp4 ho4
  have hp4 : blk w4 p 70 [slv s0, slv s1, slv n0, slv n1, .slice a' (ln + 1) c', .bool D.off, .bool (decide (0 ≤ D.fuse)), .int .i64 fz] := hp4
  have hk4 : Kg [70] p w3 w4 := ho4.kg hp3 (by simp) (Nat.le_refl _) e4.2
  have hq4 := hk4.blk hq3 (.inr (by decide))
  have hch4 := (hch2.keep hk3 (by decide) (by decide)).keep hk4 (by decide) (by decide)
  have hv4 := (hv2.keep hk3 (by decide)).keep hk4 (by decide)
  refine hReg_of (fun w' => blk w' p 70 [slv s0, slv s1, slv n0, slv n1, .slice a' (ln + 1) c', .bool D.off, .bool (decide (0 ≤ D.fuse)), .int .i64 fz] ∧ blk w' w.heap.size 90 [fv, slv v, tv]) ⟨hp4, hq4⟩ ?_
  refine hld_of (fun w hw K hK => fA_change_0 hK) ?_
  refine hld_of (fun w hw K hK => ld1 (fun _ => by kernel_rfl) hw.2 rfl hK) ?_
  refine hld_of (fun w hw K hK => nilC_p hK) ?_
  refine hld_of (fun w hw K hK => fA_Disk_1 hK) ?_
  refine hld_of (fun w hw K hK => fA_change_1 hK) ?_
  refine hld_of (fun w hw K hK => ld1 (fun _ => by kernel_rfl) hw.2 rfl hK) ?_
  have hN0 := (hh2.now0.keep hk3 (by decide)).keep hk4 (by decide)
  have hN1 := (hh2.now1.keep hk3 (by decide)).keep hk4 (by decide)
  obtain ⟨hok1, hok2⟩ := hch4.ok_with hv4 hok
  have hchd : CH Z w4.drew c [fv, slv v, tv] := hch4.keep (Kg.of ((Below.refl _ w4).drew) : Kg [] 0 w4 w4.drew) (by simp) (by simp)
  refine does_c (w := w4.drew) (o := 0 + 2) (x0 := n0) (x1 := n1) hchd hp4.drew rfl rfl hN0.drew hN1.drew hv4.drew hok1 ?_ (by decide) (fun b hb => hh.fresh b (by have e1 := hk1.size; have e2 := hk2.size; have e3 := hk3.size; have e4 := hk4.size; have e5 : w4.drew.heap.size = w4.heap.size := rfl; omega)) e4.2
  intro w5 y0 y1 hp5 ty0 ty1 hk5
  have hk5 : Kg [70] p w4 w5 := hk5.undrew
  have hp5 : blk w5 p 70 [slv s0, slv s1, slv y0, slv y1, .slice a' (ln + 1) c', .bool D.off, .bool (decide (0 ≤ D.fuse)), .int .i64 fz] := hp5
  have hok2 : (c.with b).on (runs D.loose D.sure) = c.on (runs D.loose D.sure) := hok2
  rw [hok2] at ty0 ty1
  have hd5 : DK Z w5 B p { D with loose := D.loose ++ [c] } := by
    refine ⟨s0, s1, y0, y1, a', ln + 1, c', fz, hp5, e1, e2, e3, e4, ?_⟩
    refine ⟨((hh2.sure0.keep hk3 (by decide)).keep hk4 (by decide)).keep hk5 (by decide), ((hh2.sure1.keep hk3 (by decide)).keep hk4 (by decide)).keep hk5 (by decide), ?_, ?_, ?_, okAll_snoc hh.ok hok, fun b hb => hh.fresh b (by have e1 := hk1.size; have e2 := hk2.size; have e3 := hk3.size; have e4 := hk4.size; have e5 := hk5.size; omega), fun b hb => hh.freshG b (by have e1 := hk1.size; have e2 := hk2.size; have e3 := hk3.size; have e4 := hk4.size; have e5 := hk5.size; omega)⟩
    · rw [runs_snoc]; exact ty0
    · rw [runs_snoc]; exact ty1
    · refine LR.snoc c1 c2 (ownsRow_kg (ownsRow_kg ho3 hk4 (by decide)) hk5 (by decide)) ?_ (hch4.keep hk5 (by decide) (by decide)) hgd'
      intro j ch cs h1 h2
      exact (((hc j ch cs h1 h2).keep hk3 (by decide) (by decide)).keep hk4 (by decide) (by decide)).keep hk5 (by decide) (by decide)
  have hk : Kg DT B w w5 := ((((hk1.mono (by simp) (Nat.le_refl _)).trans (hk2.mono (by simp) (Nat.le_refl _))).trans (hk3.mono (by simp) (Nat.le_refl _))).trans (hk4.mono (by simp) e4.1)).trans (hk5.mono (by simp) e4.1)
  refine burns_c hd5 ?_
  intro w6 hd6 hk6
  have hkk := hk.trans (hk6.mono (T' := DT) (by simp) e4.1)
  refine cond_b ?_ ?_
  · intro hbn
    have := h w6 hd6 hkk
    rw [hbn] at this
    exact this
  · intro hbn
    have := h w6 hd6 hkk
    rw [hbn] at this
    exact this
end Go.Proofs.Ytjkmblbonambjaa
