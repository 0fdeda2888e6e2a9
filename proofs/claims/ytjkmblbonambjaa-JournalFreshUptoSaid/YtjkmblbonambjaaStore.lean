/- Stores into bytes of the call's own: what is written stays a byte string of the same length; what lies below is untouched. -/
import Derived.Test.YtjkmblbonambjaaTypes
import Derived.Test.YtjkmblbonambjaaMem2
namespace Go.Proofs.Ytjkmblbonambjaa
set_option maxRecDepth 100000
open Go.RowKit

theorem setCell_block {w : World} {b o : Nat} {u : Value} {cur : Array Value} {e : TypeId} {fr : Nat × Nat} (h : w.heap[b]? = some (.cells cur e fr)) : (w.setCell ⟨b, o, none⟩ u).heap[b]? = some (.cells (cur.setIfInBounds o u) e fr) := by
  have hlt := (Array.getElem?_eq_some_iff.1 h).1
  have h' : w.heap[b] = .cells cur e fr := by simpa [Array.getElem?_eq_getElem hlt] using h
  show (w.heap.modify b _)[b]? = _
  rw [Array.getElem?_eq_getElem (by simpa using hlt), Array.getElem_modify_self, h']
  rfl

theorem OB.set {w : World} {B : Nat} {a : Option Addr} {n c : Nat} {l : List UInt8} (h : OB w B a n c l) (b o : Nat) (z : UInt8) : ∃ l', OB (w.setCell ⟨b, o, none⟩ (u8v z)) B a n c l' := by
  rcases h.2 with ⟨hv, hn⟩ | ⟨g, cap, cur, hv, hb, hh, h1, h2, h3, h4⟩
  · have hl : l = [] := List.eq_nil_of_length_eq_zero (by rw [h.len, hn])
    subst hl
    exact ⟨[], h.1, .inl ⟨hv, hn⟩⟩
  · by_cases hg : g = b
    · subst hg
      refine ⟨l.set o z, by simpa using h.1, .inr ⟨g, cap, cur.setIfInBounds o (u8v z), hv, hb, setCell_block hh, h1, h2, by simpa using h3, ?_⟩⟩
      rw [Array.toList_setIfInBounds, List.take_set, h4, List.map_set]
    · refine ⟨l, h.1, .inr ⟨g, cap, cur, hv, hb, ?_, h1, h2, h3, h4⟩⟩
      rw [Below.heap_setCell w _ _ g hg]; exact hh

theorem OB.max {w : World} {B : Nat} {a : Option Addr} {n c : Nat} {l : List UInt8} (h : OB w B a n c l) : n ≤ 9223372036854775807 := by
  rcases h.2 with ⟨hv, hn⟩ | ⟨g, cap, cur, hv, hb, hh, h1, h2, h3, h4⟩
  · omega
  · simp only [maxLen] at h2; omega

/-- A row of byte slices of the call's own, whatever they hold. -/
structure OBX (w : World) (B : Nat) (a : Option Addr) (n c : Nat) (vs : List (Option Addr × Nat × Nat)) : Prop where
  row : OV w B 29 a n c (vs.map slv)
  each : ∀ (i : Nat) (v : Option Addr × Nat × Nat), vs[i]? = some v → ∃ l, OB w B v.1 v.2.1 v.2.2 l

theorem OBB.obx {w : World} {B : Nat} {a : Option Addr} {n c : Nat} {vs : List (Option Addr × Nat × Nat)} {L : List (List UInt8)} (h : OBB w B a n c vs L) : OBX w B a n c vs :=
  ⟨h.row, fun i v hv => by
    have hi := (List.getElem?_eq_some_iff.1 hv).1
    exact ⟨L[i]'(by rw [← h.len]; exact hi), h.each i v _ hv (List.getElem?_eq_getElem _)⟩⟩
theorem OBX.below {w w' : World} {B D : Nat} {a : Option Addr} {n c : Nat} {vs : List (Option Addr × Nat × Nat)} (h : OBX w B a n c vs) (hb : Below D w w') (hD : w.heap.size ≤ D) : OBX w' B a n c vs :=
  ⟨h.row.below hb hD, fun i v hv => by obtain ⟨l, hl⟩ := h.each i v hv; exact ⟨l, hl.below hb hD⟩⟩
theorem OBX.mono {w : World} {B B' : Nat} {a : Option Addr} {n c : Nat} {vs : List (Option Addr × Nat × Nat)} (h : OBX w B a n c vs) (hB : B' ≤ B) : OBX w B' a n c vs :=
  ⟨h.row.mono hB, fun i v hv => by obtain ⟨l, hl⟩ := h.each i v hv; exact ⟨l, OV.mono hl hB⟩⟩
theorem OBX.set {w : World} {B : Nat} {a : Option Addr} {n c : Nat} {vs : List (Option Addr × Nat × Nat)} (h : OBX w B a n c vs) (b o : Nat) (z : UInt8) (hb : ∃ cur, w.heap[b]? = some (.cells cur 5 (0, 0))) :
    OBX (w.setCell ⟨b, o, none⟩ (u8v z)) B a n c vs := by
  refine ⟨ownsRow_setCell_other h.row ?_ _, fun i v hv => by obtain ⟨l, hl⟩ := h.each i v hv; exact hl.set b o z⟩
  obtain ⟨cur, hc⟩ := hb
  rcases h.row.2 with ⟨hv, _⟩ | ⟨g, cap, cur2, hv, _, hh, _⟩
  · rw [hv]; simp [Value.ownBlock]
  · rw [hv]
    simp only [Value.ownBlock, ne_eq, Option.some.injEq]
    intro he
    rw [he, hc] at hh
    simp at hh

section
variable {w : World} {K : KV}

theorem sto8 {B : Nat} {a : Option Addr} {n c i : Nat} {l : List UInt8} {v : Value} (ho : OB w B a n c l) (hi : i < n) (hv : ∃ z : UInt8, v = u8v z)
    (h : ∀ b o z, B ≤ b → (∃ cur, w.heap[b]? = some (.cells cur 5 (0, 0))) → K undef (w.setCell ⟨b, o, none⟩ (u8v z))) : sto Try.prog 5 (.pointer (some (slotA a i))) v K w := by
  obtain ⟨z, rfl⟩ := hv
  have hr := OB.rb ho
  rcases ho.2 with ⟨hv, hn⟩ | ⟨g, cap, cur, hv, hb, hh, h1, h2, h3, h4⟩
  · omega
  · simp only [Value.slice.injEq] at hv
    obtain ⟨rfl, _, rfl⟩ := hv
    have hl : i < l.length := by rw [hr.len]; exact hi
    have hc := hr.cell i hl
    rw [slotA_some] at hc ⊢
    refine sto_cell size_u8 rfl rfl hc ?_ rfl (h _ _ z hb ⟨cur, hh⟩)
    simp [World.frozen?, hh]

theorem xor8_val (x v : Int) : ∃ z : UInt8, Value.int .u8 (bitsOp .xor .u8 x v) = u8v z := by
  refine ⟨UInt8.ofNat (bitsOp .xor .u8 x v).toNat, ?_⟩
  unfold bitsOp
  simp only [u8v, UInt8.toNat_ofNat']
  rw [wrap_u8]
  congr 1
  omega
theorem xor8 {x : Int} {v : Int} {t : TypeId} {cx cy : Bool} (h : ∀ u, (∃ z : UInt8, u = u8v z) → K u w) : bin Try.prog .xor t cx cy (.int .u8 x) (.int .u8 v) K w := by
  refine bin_xor (h _ ?_)
  refine ⟨UInt8.ofNat (bitsOp .xor .u8 x v).toNat, ?_⟩
  unfold bitsOp
  simp only [u8v, UInt8.toNat_ofNat']
  rw [wrap_u8]
  congr 1
  omega

/-- l[i], read as a slice that holds bytes of the call's own. -/
theorem idxX {B : Nat} {a : Option Addr} {n c j : Nat} {vs : List (Option Addr × Nat × Nat)} {k : IntKind} {v : Option Addr × Nat × Nat} (hr : OBX w B a n c vs) (hv : vs[j]? = some v)
    (h : w.cell? (slotA a j) = some (.slice v.1 v.2.1 v.2.2) → K (.pointer (some (slotA a j))) w) : idxA Try.prog 50 (.slice a n c) (.int k (j : Nat)) K w := by
  have := idx_cell (K := K) (w := w) (k := k) (iv := (j : Nat)) Try.underlying50 size_sl (OV.rv hr.row) (by omega) (v := slv v) (by simp [List.getElem?_map, hv])
  rw [Int.toNat_natCast] at this
  exact this h
end

section
attribute [local irreducible] bin un conv call callV blt slc fldA fld idxA idx lkp mUpd mEnt eSt rng nxt ent ext alc box bld bldS ld sto nilC mkMap mkS ifc pick rdy wts gsel sti cond retM Gives cCode cGrp cSeq cOp
theorem idxB {w : World} {K : KV} {B : Nat} {a : Option Addr} {n c i : Nat} {l : List UInt8} {k : IntKind} (ho : OB w B a n c l) (hi : i < n) (h : w.cell? (slotA a i) = some (.int .u8 ((l.getD i 0).toNat : Int)) → K (.pointer (some (slotA a i))) w) :
    idxA Try.prog 29 (.slice a n c) (.int k (i : Nat)) K w := by
  refine idx8 ho.rb (by omega) (by omega) ?_
  rw [Int.toNat_natCast]; exact h
theorem OB.oth {w w' : World} {g B : Nat} {a : Option Addr} {n c : Nat} {l : List UInt8} (h : OB w B a n c l) (ho : Oth g w w') (hg : g < B) : OB w' B a n c l := by
  refine ⟨h.1, ?_⟩
  rcases h.2 with h2 | ⟨k, cap, cur, hv, hb, hh, r⟩
  · exact .inl h2
  · exact .inr ⟨k, cap, cur, hv, hb, (ho.other k (by omega)).trans hh, r⟩
theorem OBB.oth {w w' : World} {g B : Nat} {a : Option Addr} {n c : Nat} {vs : List (Option Addr × Nat × Nat)} {L : List (List UInt8)} (h : OBB w B a n c vs L) (ho : Oth g w w') (hg : g < B) : OBB w' B a n c vs L := by
  refine ⟨⟨h.row.1, ?_⟩, h.len, fun i v l hv hl => (h.each i v l hv hl).oth ho hg⟩
  rcases h.row.2 with h2 | ⟨k, cap, cur, hv, hb, hh, r⟩
  · exact .inl h2
  · exact .inr ⟨k, cap, cur, hv, hb, (ho.other k (by omega)).trans hh, r⟩
/-- b[i] = z, and the block that it lies in. -/
theorem stoO {w : World} {K : KV} {B : Nat} {a : Option Addr} {n c i : Nat} {l : List UInt8} {v : Value} (ho : OB w B a n c l) (hi : i < n) (hv : ∃ z : UInt8, v = u8v z)
    (h : ∀ w' g l', (∀ ad, a = some ad → ad.block = g) → B ≤ g → g < w.heap.size → OB w' B a n c l' → Oth g w w' → K undef w') : sto Try.prog 5 (.pointer (some (slotA a i))) v K w := by
  have hl := ho.len
  obtain ⟨z, rfl⟩ := hv
  rcases ho.2 with ⟨hv, hn⟩ | ⟨g, cap, cur, hv, hb, hh, h1, h2, h3, h4⟩
  · omega
  · cases hv
    have hb2 : blk w g 5 cur.toList := hh
    rw [slotA_some]
    refine sto1 size_u8 hb2 (by simp; omega) rfl ?_
    intro w' hb' ho'
    refine h w' g (l.set i z) (fun ad ha => by cases ha; rfl) hb hb2.lt ⟨by simpa using ho.1, .inr ⟨g, c, (cur.toList.set (0 + i) (u8v z)).toArray, rfl, hb, hb', h1, h2, by simpa using h3, ?_⟩⟩ ho'
    rw [Nat.zero_add, List.take_set, h4, List.map_set]

/-- The same, and what the block holds. -/
theorem stoZ {w : World} {K : KV} {B : Nat} {a : Option Addr} {n c i : Nat} {l : List UInt8} {v : Value} (ho : OB w B a n c l) (hi : i < n) (hv : ∃ z : UInt8, v = u8v z)
    (h : ∀ w' g l', (∀ ad, a = some ad → ad.block = g) → B ≤ g → g < w.heap.size → (∃ cs, blk w g 5 cs) → OB w' B a n c l' → Oth g w w' → K undef w') : sto Try.prog 5 (.pointer (some (slotA a i))) v K w := by
  have hl := ho.len
  obtain ⟨z, rfl⟩ := hv
  rcases ho.2 with ⟨hv, hn⟩ | ⟨g, cap, cur, hv, hb, hh, h1, h2, h3, h4⟩
  · omega
  · cases hv
    have hb2 : blk w g 5 cur.toList := hh
    rw [slotA_some]
    refine sto1 size_u8 hb2 (by simp; omega) rfl ?_
    intro w' hb' ho'
    refine h w' g (l.set i z) (fun ad ha => by cases ha; rfl) hb hb2.lt ⟨_, hb2⟩ ⟨by simpa using ho.1, .inr ⟨g, c, (cur.toList.set (0 + i) (u8v z)).toArray, rfl, hb, hb', h1, h2, by simpa using h3, ?_⟩⟩ ho'
    rw [Nat.zero_add, List.take_set, h4, List.map_set]

end
end Go.Proofs.Ytjkmblbonambjaa
