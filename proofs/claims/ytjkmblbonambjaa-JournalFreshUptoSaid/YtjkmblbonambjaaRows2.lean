/- Lists of byte slices of the call's own, whose elements lie where nothing turns. -/
import Derived.Test.YtjkmblbonambjaaMem3
import Derived.Test.YtjkmblbonambjaaStore
namespace Go.Proofs.Ytjkmblbonambjaa
set_option maxRecDepth 100000
open Go.RowKit

/-- Bytes below B0, or in a block of bytes. -/
def SR (B0 : Nat) (w : World) (v : Option Addr × Nat × Nat) (l : List UInt8) : Prop :=
  RB w v.1 v.2.1 v.2.2 l ∧ (0 < v.2.1 → ∀ ad, v.1 = some ad → ad.block < B0 ∨ ∃ cs, blk w ad.block 5 cs)
theorem SR.keep {T : List TypeId} {B0 B : Nat} {w w' : World} {v : Option Addr × Nat × Nat} {l : List UInt8} (h : SR B0 w v l) (hk : Keep T B w w') (hB : B0 ≤ B) (hT : 5 ∉ T) : SR B0 w' v l := by
  refine ⟨⟨RV.len h.1, RV.cap h.1, RV.some_ h.1, RV.nil_ h.1, fun i u hu => ?_⟩, fun hn ad ha => ?_⟩
  · have hi : i < v.2.1 := by have := (List.getElem?_eq_some_iff.1 hu).1; rw [RV.len h.1] at this; exact this
    obtain ⟨b, o, hbo⟩ := RV.some_ h.1 (by omega)
    have hc := RV.cell h.1 i u hu
    rw [hbo, slotA_some] at hc ⊢
    have hlt := World.block_lt_of_cell? w _ hc
    have hlt : b < w.heap.size := hlt
    have same : w'.heap[b]? = w.heap[b]? := by
      rw [hk.block b _ (Array.getElem?_eq_getElem hlt) ?_, Array.getElem?_eq_getElem hlt]
      rcases h.2 (by omega) _ hbo with h1 | ⟨cs, hb⟩
      · exact .inl (Nat.lt_of_lt_of_le h1 hB)
      · refine .inr fun cs' E z e hm => ?_
        have hb' : w.heap[b]? = _ := hb
        rw [Array.getElem?_eq_getElem hlt, e] at hb'
        simp only [Option.some.injEq, Obj.cells.injEq] at hb'
        exact hT (hb'.2.1 ▸ hm)
    unfold World.cell? at hc ⊢
    rw [same]; exact hc
  · rcases h.2 hn ad ha with h1 | ⟨cs, hb⟩
    · exact .inl h1
    · exact .inr ⟨cs, hk.blk hb (.inr hT)⟩
theorem SR.below {B0 : Nat} {w w' : World} {v : Option Addr × Nat × Nat} {l : List UInt8} (h : SR B0 w v l) (hb : Below w.heap.size w w') : SR B0 w' v l :=
  h.keep (T := []) (B := B0) (Keep.of hb) (Nat.le_refl _) (by simp)
theorem SR.of_arg {W w : World} {v : Option Addr × Nat × Nat} {l : List UInt8} (h : RB W v.1 v.2.1 v.2.2 l) (hb : Below W.heap.size W w) : SR W.heap.size w v l := by
  refine ⟨h.below hb (Nat.le_refl _), fun hn ad ha => .inl ?_⟩
  have hl := h.len
  have := RV.cell h 0 (u8v l[0]) (by rw [List.getElem?_map, List.getElem?_eq_getElem (by omega)]; rfl)
  obtain ⟨b, o, hbo⟩ := RV.some_ h hn
  rw [hbo] at this ha
  cases ha
  rw [slotA_some] at this
  exact World.block_lt_of_cell? W _ this
theorem SR.of_ob {B0 B : Nat} {w : World} {v : Option Addr × Nat × Nat} {l : List UInt8} (h : OB w B v.1 v.2.1 v.2.2 l) : SR B0 w v l := by
  refine ⟨h.rb, fun hn ad ha => .inr ?_⟩
  rcases h.2 with ⟨hv, hn0⟩ | ⟨g, cap, cur, hv, hb, hh, _⟩
  · omega
  · simp only [Value.slice.injEq] at hv
    rw [ha] at hv
    obtain ⟨hv, _⟩ := hv
    cases hv
    exact ⟨cur.toList, hh⟩

structure KRow (B0 B : Nat) (w : World) (a : Option Addr) (n c : Nat) (vs : List (Option Addr × Nat × Nat)) (L : List (List UInt8)) : Prop where
  row : OV w B 29 a n c (vs.map slv)
  len : vs.length = L.length
  each : ∀ (i : Nat) (v : Option Addr × Nat × Nat) (l : List UInt8), vs[i]? = some v → L[i]? = some l → SR B0 w v l
section
variable {B0 B : Nat} {w w' : World} {a : Option Addr} {n c : Nat} {vs : List (Option Addr × Nat × Nat)} {L : List (List UInt8)}
theorem KRow.rbb (h : KRow B0 B w a n c vs L) : RBB w a n c vs L := ⟨h.row.rv, h.len, fun i v l hv hl => (h.each i v l hv hl).1⟩
theorem KRow.lenL (h : KRow B0 B w a n c vs L) : L.length = n := h.rbb.lenL
theorem KRow.keep {T : List TypeId} {B1 : Nat} (h : KRow B0 B w a n c vs L) (hk : Keep T B1 w w') (hB : B0 ≤ B1) (h1 : 5 ∉ T) (h2 : 29 ∉ T) : KRow B0 B w' a n c vs L :=
  ⟨ownsRow_keep h.row hk h2, h.len, fun i v l hv hl => (h.each i v l hv hl).keep hk hB h1⟩
theorem KRow.below (h : KRow B0 B w a n c vs L) (hb : Below w.heap.size w w') : KRow B0 B w' a n c vs L :=
  h.keep (T := []) (B1 := B0) (Keep.of hb) (Nat.le_refl _) (by simp) (by simp)
theorem KRow.nil (w : World) (B0 B : Nat) : KRow B0 B w none 0 0 [] [] := ⟨OV.nil w B _, rfl, fun i v l h => by simp at h⟩
theorem KRow.of_obb (h : OBB w B a n c vs L) : KRow B0 B w a n c vs L := ⟨h.row, h.len, fun i v l hv hl => SR.of_ob (h.each i v l hv hl)⟩
theorem KRow.mono {B' : Nat} (h : KRow B0 B w a n c vs L) (hB : B' ≤ B) : KRow B0 B' w a n c vs L := ⟨OV.mono h.row hB, h.len, h.each⟩
end
section
attribute [local irreducible] bin un conv call callV blt slc fldA fld idxA idx lkp mUpd mEnt eSt rng nxt ent ext alc box bld bldS ld sto nilC mkMap mkS ifc pick rdy wts gsel sti cond retM Gives cCode cGrp cSeq cOp
variable {w : World} {K : KV}
theorem emptyK (B0 base : Nat) (hbase : base ≤ w.heap.size) (h : ∀ a' w', KRow B0 base w' a' 0 0 [] [] → Below w.heap.size w w' → K (.slice a' 0 0) w') : bldS Try.prog 50 0 #[] K w := by
  obtain ⟨i, hi, hz, hsz, hby⟩ := info_parts info_sl
  exact bldS0 Try.underlying50 hi hsz hbase fun a' w' ho hb => h a' w' ⟨ho, rfl, fun i v l h => by simp at h⟩ hb
/-- append(own, others...). -/
theorem appK {ty : TypeId} {cs : Array Bool} {B0 base : Nat} {av : Option Addr} {n c : Nat} {vs vs2 : List (Option Addr × Nat × Nat)} {L L2 : List (List UInt8)} {a2 : Option Addr} {m c2 : Nat}
    (hown : KRow B0 base w av n c vs L) (hy : RV w a2 m c2 (vs2.map slv)) (h2 : vs2.length = L2.length) (he : ∀ (i : Nat) (v : Option Addr × Nat × Nat) (l : List UInt8), vs2[i]? = some v → L2[i]? = some l → SR B0 w v l)
    (hn : n + m < 4294967296) (hbase : base ≤ w.heap.size) (hB0 : B0 ≤ base)
    (h : ∀ a' c' w', KRow B0 base w' a' (n + m) c' (vs ++ vs2) (L ++ L2) → Keep [29] base w w' → K (.slice a' (n + m) c') w') :
    blt Try.prog .append #[50, 50] ty cs #[.slice av n c, .slice a2 m c2] K w := by
  obtain ⟨i, hi, hz, hsz, hby⟩ := info_parts info_sl
  refine app_slc Try.underlying50 hi hz hsz hby rfl hown.row hy (oneCell_sl vs2) (by omega) (by omega) hbase ?_
  intro a' c' w' ho hg
  have hk : Keep [29] base w w' := Keep.grown hg hown.row (by simp) (Nat.le_refl _)
  refine h a' c' w' ⟨by simpa using ho, by simp [hown.len, h2], ?_⟩ hk
  intro i v' l' hv' hl'
  by_cases hi' : i < vs.length
  · rw [List.getElem?_append_left hi'] at hv'
    rw [List.getElem?_append_left (by rw [← hown.len]; exact hi')] at hl'
    exact (hown.each i v' l' hv' hl').keep hk hB0 (by decide)
  · rw [List.getElem?_append_right (by omega)] at hv'
    rw [List.getElem?_append_right (by rw [← hown.len]; omega), ← hown.len] at hl'
    exact (he _ _ _ hv' hl').keep hk hB0 (by decide)
end
end Go.Proofs.Ytjkmblbonambjaa
