/- The rules of the base at the types of this seat's program. -/
import Derived.Test.YtnmjfakibhekmaaGreatDoorRules
import Derived.Test.YtnmjfakibhekmaaGreatDoorChecked
namespace Go.Proofs.YtnmjfakibhekmaaGreatDoor
set_option maxRecDepth 100000
open Go.RowKit

theorem size_u8 : ∀ w, (sizeOf 5).run Tryz.prog w = .ok 1 w := fun _ => by kernel_rfl
theorem info_u8 : (Tryz.prog.info? 5).map (fun i => (i.zero, i.size, i.bytes)) = some (some (.int .u8 0), 1, 1) := by kernel_rfl

theorem oneCell_u8 (l : List UInt8) : ∀ u ∈ l.map u8v, u.oneCell' = true := by
  intro u hu
  obtain ⟨_, _, rfl⟩ := List.mem_map.1 hu
  rfl

/-- Bytes of the call's own. -/
def OB (w : World) (B : Nat) (a : Option Addr) (n c : Nat) (l : List UInt8) : Prop := OV w B 5 a n c (l.map u8v)

theorem OB.rb {w : World} {B : Nat} {a : Option Addr} {n c : Nat} {l : List UInt8} (h : OB w B a n c l) : RB w a n c l := OV.rv h
theorem OB.below {w w' : World} {B D : Nat} {a : Option Addr} {n c : Nat} {l : List UInt8} (h : OB w B a n c l) (hb : Below D w w') (hD : w.heap.size ≤ D) : OB w' B a n c l := OV.below h hb hD
theorem OB.nil (w : World) (B : Nat) : OB w B none 0 0 [] := OV.nil w B _
theorem OB.len {w : World} {B : Nat} {a : Option Addr} {n c : Nat} {l : List UInt8} (h : OB w B a n c l) : l.length = n := (OB.rb h).len

section
variable {w : World} {K : KV}

theorem cvIU {a : Int} (h1 : 0 ≤ a) (h2 : a ≤ 18446744073709551615) (h : K (.int .u64 a) w) : conv Tryz.prog 3 22 (.int .i64 a) K w :=
  conv_int Tryz.underlying3 Tryz.underlying22 (by rw [wrap_u64, show a % 18446744073709551616 = a by omega]; exact h)
theorem cvIUint {a : Int} (h1 : 0 ≤ a) (h2 : a ≤ 18446744073709551615) (h : K (.int .u64 a) w) : conv Tryz.prog 3 330 (.int .i64 a) K w :=
  conv_int Tryz.underlying3 Tryz.underlying330 (by rw [wrap_u64, show a % 18446744073709551616 = a by omega]; exact h)
theorem cvUI {a : Int} (h1 : 0 ≤ a) (h2 : a ≤ 9223372036854775807) (h : K (.int .i64 a) w) : conv Tryz.prog 22 3 (.int .u64 a) K w :=
  conv_int Tryz.underlying22 Tryz.underlying3 (by rw [wrap_i64 (by omega) h2]; exact h)
theorem cvU8 {y : Nat} (h : K (u8v (UInt8.ofNat y)) w) : conv Tryz.prog 22 5 (.int .u64 (y : Int)) K w := by
  refine conv_int Tryz.underlying22 Tryz.underlying5 ?_
  have e : Value.int .u8 (IntKind.u8.wrap (y : Int)) = u8v (UInt8.ofNat y) := by
    rw [wrap_u8]
    simp only [u8v, UInt8.toNat_ofNat']
    congr 1
  rw [e]; exact h
theorem cvBU {a : Int} (h1 : 0 ≤ a) (h2 : a ≤ 255) (h : K (.int .u64 a) w) : conv Tryz.prog 5 22 (.int .u8 a) K w :=
  conv_int Tryz.underlying5 Tryz.underlying22 (by rw [wrap_u64, show a % 18446744073709551616 = a by omega]; exact h)

theorem len8 {ty : TypeId} {cs : Array Bool} {av : Option Addr} {n c : Nat} (h : K (.int .i64 (n : Int)) w) : blt Tryz.prog .len #[75] ty cs #[.slice av n c] K w := len_slc Tryz.underlying75 h

theorem app8 {ty : TypeId} {cs : Array Bool} (base : Nat) {av : Option Addr} {n c : Nat} {xs : List UInt8} {a2 : Option Addr} {m c2 : Nat} {ys : List UInt8}
    (hown : OB w base av n c xs) (hy : RB w a2 m c2 ys) (hbytes : n + m ≤ 140737488355328) (hbase : base ≤ w.heap.size)
    (h : ∀ a' c' w', OB w' base a' (n + m) c' (xs ++ ys) → w.grownBy w' (Value.slice av n c).ownBlock → K (.slice a' (n + m) c') w') :
    blt Tryz.prog .append #[75, 75] ty cs #[.slice av n c, .slice a2 m c2] K w := by
  obtain ⟨i, hi, hz, hsz, hby⟩ := info_parts info_u8
  refine app_slc Tryz.underlying75 hi hz hsz hby rfl hown hy (oneCell_u8 ys) (by omega) (by omega) hbase ?_
  intro a' c' w' ho hg
  exact h a' c' w' (by simpa [OB] using ho) hg

/-- A slice of one byte; it is shown by what it holds. -/
theorem bld8 {v : Value} {c : UInt8} (hv : v = u8v c)
    (h : ∀ w', Below w.heap.size w w' → RB w' (some ⟨w.heap.size, 0, none⟩) 1 1 [c] → w'.heap.size = w.heap.size + 1 → K (.slice (some ⟨w.heap.size, 0, none⟩) 1 1) w') : bldS Tryz.prog 75 1 #[(0, v)] K w := by
  obtain ⟨i, hi, hz, hsz, hby⟩ := info_parts info_u8
  subst hv
  exact bldS1 Tryz.underlying75 hi hz hsz rfl rfl fun hr => h _ (below_of_grown (World.grownBy_alloc _ _ none) (Nat.le_refl _) (fun k hk => by cases hk)) hr (by simp)

theorem mk8 {kl kc : IntKind} {C : Int} (base n : Nat) (hC : C = (n : Int)) (b2 : n ≤ 140737488355328) (b4 : base ≤ w.heap.size)
    (h : ∀ a' w', OB w' base a' 0 n [] → Below w.heap.size w w' → K (.slice a' 0 n) w') : mkS Tryz.prog 75 (.int kl 0) (.int kc C) K w := by
  obtain ⟨i, hi, hz, hsz, hby⟩ := info_parts info_u8
  exact mkS0 Tryz.underlying75 hi hz hsz hby hC (by omega) (by omega) b4 h

/-- b[i], read. -/
theorem idx8 {av : Option Addr} {n c : Nat} {k : IntKind} {iv : Int} {l : List UInt8} (hr : RB w av n c l) (h0 : 0 ≤ iv) (h1 : iv < n)
    (h : w.cell? (slotA av iv.toNat) = some (.int .u8 ((l.getD iv.toNat 0).toNat : Int)) → K (.pointer (some (slotA av iv.toNat))) w) :
    idxA Tryz.prog 75 (.slice av n c) (.int k iv) K w := by
  refine idx_slc Tryz.underlying75 size_u8 h0 h1 hr.some_ (h ?_)
  have hl : iv.toNat < l.length := by rw [hr.len]; omega
  rw [hr.cell _ hl]
  simp [List.getD, hl]

theorem ld8 {ad : Addr} {n : Int} (hc : w.cell? ad = some (.int .u8 n)) (h : K (.int .u8 n) w) : ld Tryz.prog 5 (.pointer (some ad)) K w := by
  exact ld_cell (fun _ => by kernel_rfl) hc h

theorem cut8 {av : Option Addr} {n c : Nat} {l m : Nat} {xs : List UInt8} (hr : RB w av n c xs)
    {lo hi : Option Value} (hlo : (lo = none ∧ l = 0) ∨ ∃ k, lo = some (.int k (l : Int))) (hhi : (hi = none ∧ m = n) ∨ ∃ k, hi = some (.int k (m : Int))) (hlm : l ≤ m) (hmn : m ≤ n)
    (h : ∀ a', RB w a' (m - l) (c - l) ((xs.take m).drop l) → K (.slice a' (m - l) (c - l)) w) : slc Tryz.prog 75 (.slice av n c) lo hi none K w := by
  refine slc_of Tryz.underlying75 size_u8 hr hlo hhi hlm hmn fun a' ha => h a' ?_
  simpa [RB, List.map_drop, List.map_take] using ha

theorem str8 {av : Option Addr} {n c : Nat} {l : List UInt8} (hr : RB w av n c l) (h : K (.string (bstr l)) w) : conv Tryz.prog 75 9 (.slice av n c) K w :=
  conv_str Tryz.underlying75 Tryz.underlying5 Tryz.underlying9 hr h
theorem empty8 (base : Nat) (hbase : base ≤ w.heap.size) (h : ∀ a' w', OB w' base a' 0 0 [] → Below w.heap.size w w' → K (.slice a' 0 0) w') : bldS Tryz.prog 75 0 #[] K w := by
  obtain ⟨i, hi, hz, hsz, hby⟩ := info_parts info_u8
  exact bldS0 Tryz.underlying75 hi hsz hbase h

/-- A constant turned into bytes, in the two steps of the code. -/
theorem const8 {K2 : Value → KV} {n : Nat} {ps : Array (Nat × Value)} (l : List UInt8) (hn : n = l.length) (hps : ps = (partsOf 0 (l.map u8v)).toArray) (h0 : l.length ≠ 0) (h24 : l.length ≤ 1000000)
    (h : ∀ a' w', RB w' a' n n l → Below w.heap.size w w' → K2 (.slice (some ⟨w.heap.size, 0, none⟩) n n) (.slice a' n n) w') : bldS Tryz.prog 75 n ps (fun v w => conv Tryz.prog 75 75 v (K2 v) w) w := by
  obtain ⟨i, hi, hz, hsz, hby⟩ := info_parts info_u8
  exact constB hn hps Tryz.underlying75 Tryz.underlying5 hi hz hsz rfl h0 h24 h

/-- A slice of several bytes. -/
theorem bldN8 {n : Nat} {ps : Array (Nat × Value)} (l : List UInt8) (hn : n = l.length) (hps : ps = (partsOf 0 (l.map u8v)).toArray) (h0 : l.length ≠ 0) (h24 : l.length ≤ 1000000)
    (h : ∀ a' w', OB w' w.heap.size a' n n l → Below w.heap.size w w' → K (.slice a' n n) w') : bldS Tryz.prog 75 n ps K w := by
  obtain ⟨i, hi, hz, hsz, hby⟩ := info_parts info_u8
  have hl : (l.map u8v).length = l.length := by simp
  subst hn
  refine bldS_of (vs := l.map u8v) (by rw [hl]) hps Tryz.underlying75 hi hz hsz rfl (by rw [hl]; exact h0) (by rw [hl]; exact h24) (fun v hv => by obtain ⟨c, _, rfl⟩ := List.mem_map.1 hv; rfl) ?_
  intro ho hb
  rw [hl] at *
  exact h _ _ ho hb

theorem mk8x {kl kc : IntKind} {C : Int} (n : Nat) (hC : C = (n : Int)) (b2 : n ≤ 140737488355328)
    (h : ∀ w', w'.heap[w.heap.size]? = some (.cells (List.replicate n (.int .u8 0)).toArray 5 (0, 0)) → Below w.heap.size w w' → w'.heap.size = w.heap.size + 1 → K (.slice (some ⟨w.heap.size, 0, none⟩) 0 n) w') : mkS Tryz.prog 75 (.int kl 0) (.int kc C) K w := by
  obtain ⟨i, hi, hz, hsz, hby⟩ := info_parts info_u8
  exact mkS0x Tryz.underlying75 hi hz hsz hby rfl hC (by omega) (by omega) h

theorem app8x {ty : TypeId} {cs : Array Bool} {g n c : Nat} {cur : Array Value} (hg : w.heap[g]? = some (.cells cur 5 (0, 0))) (hcs : cur.size = c) {a2 : Option Addr} {m c2 : Nat} {ys : List UInt8} (hy : RB w a2 m c2 ys)
    (hroom : n + m ≤ c)
    (h : ∀ w', w'.heap[g]? = some (.cells (cur.toList.take n ++ ys.map u8v ++ cur.toList.drop (n + m)).toArray 5 (0, 0)) → (∀ k, k ≠ g → w'.heap[k]? = w.heap[k]?) → w'.os = w.os → w'.tape = w.tape → w'.output = w.output → w'.heap.size = w.heap.size →
      K (.slice (some ⟨g, 0, none⟩) (n + m) c) w') :
    blt Tryz.prog .append #[75, 75] ty cs #[.slice (some ⟨g, 0, none⟩) n c, .slice a2 m c2] K w := by
  obtain ⟨i, hi, hz, hsz, hby⟩ := info_parts info_u8
  exact app_x Tryz.underlying75 hi hsz hg hcs hy (oneCell_u8 ys) hroom h

theorem up8 {av : Option Addr} {n c m : Nat} {k : IntKind} (hm : m ≤ c) (h : K (.slice av m c) w) :
    slc Tryz.prog 75 (.slice av n c) none (some (.int k (m : Int))) none K w := slc_up Tryz.underlying75 size_u8 hm h

end

/-! ## Slices of byte slices -/
theorem size_sl : ∀ w, (sizeOf 75).run Tryz.prog w = .ok 1 w := fun _ => by kernel_rfl
theorem info_sl : (Tryz.prog.info? 75).map (fun i => (i.zero, i.size, i.bytes)) = some (some (.slice none 0 0), 1, 24) := by kernel_rfl

def slv (v : Option Addr × Nat × Nat) : Value := .slice v.1 v.2.1 v.2.2
theorem oneCell_sl (l : List (Option Addr × Nat × Nat)) : ∀ u ∈ l.map slv, u.oneCell' = true := by
  intro u hu
  obtain ⟨_, _, rfl⟩ := List.mem_map.1 hu
  rfl

/-- .. reads as the byte strings L. -/
structure RBB (w : World) (a : Option Addr) (n c : Nat) (vs : List (Option Addr × Nat × Nat)) (L : List (List UInt8)) : Prop where
  row : RV w a n c (vs.map slv)
  len : vs.length = L.length
  each : ∀ (i : Nat) (v : Option Addr × Nat × Nat) (l : List UInt8), vs[i]? = some v → L[i]? = some l → RB w v.1 v.2.1 v.2.2 l

theorem RBB.below {w w' : World} {B : Nat} {a : Option Addr} {n c : Nat} {vs : List (Option Addr × Nat × Nat)} {L : List (List UInt8)} (h : RBB w a n c vs L) (hb : Below B w w') (hB : w.heap.size ≤ B) : RBB w' a n c vs L :=
  ⟨h.row.below hb hB, h.len, fun i v l hv hl => (h.each i v l hv hl).below hb hB⟩
theorem RBB.lenL {w : World} {a : Option Addr} {n c : Nat} {vs : List (Option Addr × Nat × Nat)} {L : List (List UInt8)} (h : RBB w a n c vs L) : L.length = n := by
  have := h.row.len
  simp only [List.length_map] at this
  rw [← h.len]; exact this

/-- A row of the call's own, of byte slices of the call's own. -/
structure OBB (w : World) (B : Nat) (a : Option Addr) (n c : Nat) (vs : List (Option Addr × Nat × Nat)) (L : List (List UInt8)) : Prop where
  row : OV w B 75 a n c (vs.map slv)
  len : vs.length = L.length
  each : ∀ (i : Nat) (v : Option Addr × Nat × Nat) (l : List UInt8), vs[i]? = some v → L[i]? = some l → OB w B v.1 v.2.1 v.2.2 l

theorem OBB.rbb {w : World} {B : Nat} {a : Option Addr} {n c : Nat} {vs : List (Option Addr × Nat × Nat)} {L : List (List UInt8)} (h : OBB w B a n c vs L) : RBB w a n c vs L :=
  ⟨h.row.rv, h.len, fun i v l hv hl => (h.each i v l hv hl).rb⟩
theorem OBB.below {w w' : World} {B D : Nat} {a : Option Addr} {n c : Nat} {vs : List (Option Addr × Nat × Nat)} {L : List (List UInt8)} (h : OBB w B a n c vs L) (hb : Below D w w') (hD : w.heap.size ≤ D) : OBB w' B a n c vs L :=
  ⟨h.row.below hb hD, h.len, fun i v l hv hl => (h.each i v l hv hl).below hb hD⟩
theorem OBB.nil (w : World) (B : Nat) : OBB w B none 0 0 [] [] := ⟨OV.nil w B _, rfl, fun i v l h => by simp at h⟩

/-- Bytes stay where a row of slices is written: its cells are of another type. -/
theorem OB.grown_sl {w w' : World} {B B2 : Nat} {a a2 : Option Addr} {n c n2 c2 : Nat} {l : List UInt8} {vs : List (Option Addr × Nat × Nat)} (h : OB w B a n c l) (h2 : OV w B2 75 a2 n2 c2 (vs.map slv))
    (hg : w.grownBy w' (Value.slice a2 n2 c2).ownBlock) : OB w' B a n c l := by
  refine World.ownsRow.kept h hg ?_
  rcases h.2 with ⟨hv, _⟩ | ⟨g, cap, cur, hv, _, hh, _⟩
  · left; rw [hv]; rfl
  · right
    rw [hv]
    rcases h2.2 with ⟨hv2, _⟩ | ⟨g2, cap2, cur2, hv2, _, hh2, _⟩
    · rw [hv2]; simp [Value.ownBlock]
    · rw [hv2]
      simp only [Value.ownBlock, ne_eq, Option.some.injEq]
      intro he
      rw [he, hh2] at hh
      simp at hh

section
variable {w : World} {K : KV}
theorem len36 {ty : TypeId} {cs : Array Bool} {av : Option Addr} {n c : Nat} (h : K (.int .i64 (n : Int)) w) : blt Tryz.prog .len #[137] ty cs #[.slice av n c] K w := len_slc Tryz.underlying137 h

/-- l = append(l, s), s new. -/
theorem push36 {ty : TypeId} {cs : Array Bool} (base : Nat) {av : Option Addr} {n c : Nat} {vs : List (Option Addr × Nat × Nat)} {L : List (List UInt8)} {a2 : Option Addr} {c2 : Nat} {v : Option Addr × Nat × Nat} {l : List UInt8}
    (hown : OBB w base av n c vs L) (hy : RV w a2 1 c2 [slv v]) (hl : OB w base v.1 v.2.1 v.2.2 l) (hbytes : n < 4294967296) (hbase : base ≤ w.heap.size)
    (h : ∀ a' c' w', OBB w' base a' (n + 1) c' (vs ++ [v]) (L ++ [l]) → w.grownBy w' (Value.slice av n c).ownBlock → K (.slice a' (n + 1) c') w') :
    blt Tryz.prog .append #[137, 137] ty cs #[.slice av n c, .slice a2 1 c2] K w := by
  obtain ⟨i, hi, hz, hsz, hby⟩ := info_parts info_sl
  refine app_slc Tryz.underlying137 hi hz hsz hby rfl hown.row hy (oneCell_sl [v]) (by omega) (by omega) hbase ?_
  intro a' c' w' ho hg
  refine h a' c' w' ⟨by simpa using ho, by simp [hown.len], ?_⟩ hg
  intro i v' l' hv' hl'
  by_cases hi' : i < vs.length
  · rw [List.getElem?_append_left hi'] at hv'
    rw [List.getElem?_append_left (by rw [← hown.len]; exact hi')] at hl'
    exact (hown.each i v' l' hv' hl').grown_sl hown.row hg
  · rw [List.getElem?_append_right (by omega)] at hv'
    rw [List.getElem?_append_right (by rw [← hown.len]; omega)] at hl'
    have h0 : i - vs.length = 0 := by
      have := (List.getElem?_eq_some_iff.1 hv').1
      simpa using this
    rw [h0] at hv'
    rw [← hown.len, h0] at hl'
    simp at hv' hl'
    subst hv' hl'
    exact hl.grown_sl hown.row hg

theorem bld36 {v : Option Addr × Nat × Nat}
    (h : ∀ w', Below w.heap.size w w' → RV w' (some ⟨w.heap.size, 0, none⟩) 1 1 [slv v] → w'.heap.size = w.heap.size + 1 → K (.slice (some ⟨w.heap.size, 0, none⟩) 1 1) w') : bldS Tryz.prog 137 1 #[(0, .slice v.1 v.2.1 v.2.2)] K w := by
  obtain ⟨i, hi, hz, hsz, hby⟩ := info_parts info_sl
  exact bldS1 Tryz.underlying137 hi hz hsz rfl rfl fun hr => h _ (below_of_grown (World.grownBy_alloc _ _ none) (Nat.le_refl _) (fun k hk => by cases hk)) hr (by simp)

/-- A slice of several byte slices. -/
theorem bld36n {n : Nat} {ps : Array (Nat × Value)} (vs : List (Option Addr × Nat × Nat)) (hn : n = vs.length) (hps : ps = (partsOf 0 (vs.map slv)).toArray) (h0 : vs.length ≠ 0) (h24 : vs.length ≤ 1000000)
    (h : ∀ a' w', OV w' w.heap.size 75 a' n n (vs.map slv) → Below w.heap.size w w' → K (.slice a' n n) w') : bldS Tryz.prog 137 n ps K w := by
  obtain ⟨i, hi, hz, hsz, hby⟩ := info_parts info_sl
  have hl : (vs.map slv).length = vs.length := by simp
  subst hn
  refine bldS_of (vs := vs.map slv) (by rw [hl]) hps Tryz.underlying137 hi hz hsz rfl (by rw [hl]; exact h0) (by rw [hl]; exact h24) (fun v hv => by obtain ⟨c, _, rfl⟩ := List.mem_map.1 hv; rfl) ?_
  intro ho hb
  rw [hl] at *
  exact h _ _ ho hb

theorem idx36 {av : Option Addr} {n c : Nat} {k : IntKind} {iv : Int} {vs : List (Option Addr × Nat × Nat)} {L : List (List UInt8)} (hr : RBB w av n c vs L) (h0 : 0 ≤ iv) (h1 : iv < n)
    (h : ∀ v l, vs[iv.toNat]? = some v → L[iv.toNat]? = some l → w.cell? (slotA av iv.toNat) = some (.slice v.1 v.2.1 v.2.2) → RB w v.1 v.2.1 v.2.2 l → K (.pointer (some (slotA av iv.toNat))) w) :
    idxA Tryz.prog 137 (.slice av n c) (.int k iv) K w := by
  refine idx_slc Tryz.underlying137 size_sl h0 h1 hr.row.some_ ?_
  have hl := hr.row.len
  simp only [List.length_map] at hl
  have hi : iv.toNat < vs.length := by omega
  have hi2 : iv.toNat < L.length := by rw [← hr.len]; exact hi
  refine h vs[iv.toNat] L[iv.toNat] (List.getElem?_eq_getElem hi) (List.getElem?_eq_getElem hi2) ?_ (hr.each _ _ _ (List.getElem?_eq_getElem hi) (List.getElem?_eq_getElem hi2))
  exact hr.row.cell _ _ (by simp [List.getElem?_map, List.getElem?_eq_getElem hi, slv])

theorem ldSl {ad : Addr} {a : Option Addr} {n c : Nat} (hc : w.cell? ad = some (.slice a n c)) (h : K (.slice a n c) w) : ld Tryz.prog 75 (.pointer (some ad)) K w :=
  ld_cell (fun _ => by kernel_rfl) hc h
end
end Go.Proofs.YtnmjfakibhekmaaGreatDoor
