/- Laid together: Types Clone Oct STrc Trc. -/
import Derived.Test.YtfjafbbalohmhaaGreatDoorQ1
import Derived.Test.YtfjafbbalohmhaaGreatDoorChecked
import Derived.Test.YtfjafbbalohmhaaGreatDoorSh
/- The rules of the base at the types of this seat's program. -/
namespace Go.Proofs.YtfjafbbalohmhaaGreatDoor
set_option maxRecDepth 100000
open Go.RowKit

theorem size_u8 : ∀ w, (sizeOf 5).run Tryz.prog w = .ok 1 w := fun _ => by kernel_rfl
theorem info_u8 : (Tryz.prog.info? 5).map (fun i => (i.zero, i.size, i.bytes)) = some (some (.int .u8 0), 1, 1) := by kernel_rfl

theorem oneCell_u8 (l : List UInt8) : ∀ u ∈ l.map u8v, u.oneCell' = true := by
  intro u hu
  obtain ⟨_, _, rfl⟩ := List.mem_map.1 hu
  rfl

/-- Bytes of the call's own. -/
def OB (w : World) (B : Nat) (a : Option Addr) (n c : Nat) (l : List UInt8) : Prop := OV w B 5 a n c (l.map u8v)

theorem OB.rb {w : World} {B : Nat} {a : Option Addr} {n c : Nat} {l : List UInt8} (h : OB w B a n c l) : RB w a n c l := OV.rv h
theorem OB.below {w w' : World} {B D : Nat} {a : Option Addr} {n c : Nat} {l : List UInt8} (h : OB w B a n c l) (hb : Below D w w') (hD : w.heap.size ≤ D) : OB w' B a n c l := OV.below h hb hD
theorem OB.nil (w : World) (B : Nat) : OB w B none 0 0 [] := OV.nil w B _
theorem OB.len {w : World} {B : Nat} {a : Option Addr} {n c : Nat} {l : List UInt8} (h : OB w B a n c l) : l.length = n := (OB.rb h).len

section
variable {w : World} {K : KV}

theorem cvIU {a : Int} (h1 : 0 ≤ a) (h2 : a ≤ 18446744073709551615) (h : K (.int .u64 a) w) : conv Tryz.prog 3 22 (.int .i64 a) K w :=
  conv_int Tryz.underlying3 Tryz.underlying22 (by rw [wrap_u64, show a % 18446744073709551616 = a by omega]; exact h)
theorem cvIUint {a : Int} (h1 : 0 ≤ a) (h2 : a ≤ 18446744073709551615) (h : K (.int .u64 a) w) : conv Tryz.prog 3 97 (.int .i64 a) K w :=
  conv_int Tryz.underlying3 Tryz.underlying97 (by rw [wrap_u64, show a % 18446744073709551616 = a by omega]; exact h)
theorem cvUI {a : Int} (h1 : 0 ≤ a) (h2 : a ≤ 9223372036854775807) (h : K (.int .i64 a) w) : conv Tryz.prog 22 3 (.int .u64 a) K w :=
  conv_int Tryz.underlying22 Tryz.underlying3 (by rw [wrap_i64 (by omega) h2]; exact h)
theorem cvU8 {y : Nat} (h : K (u8v (UInt8.ofNat y)) w) : conv Tryz.prog 22 5 (.int .u64 (y : Int)) K w := by
  refine conv_int Tryz.underlying22 Tryz.underlying5 ?_
  have e : Value.int .u8 (IntKind.u8.wrap (y : Int)) = u8v (UInt8.ofNat y) := by
    rw [wrap_u8]
    simp only [u8v, UInt8.toNat_ofNat']
    congr 1
  rw [e]; exact h
theorem cvBU {a : Int} (h1 : 0 ≤ a) (h2 : a ≤ 255) (h : K (.int .u64 a) w) : conv Tryz.prog 5 22 (.int .u8 a) K w :=
  conv_int Tryz.underlying5 Tryz.underlying22 (by rw [wrap_u64, show a % 18446744073709551616 = a by omega]; exact h)

theorem len8 {ty : TypeId} {cs : Array Bool} {av : Option Addr} {n c : Nat} (h : K (.int .i64 (n : Int)) w) : blt Tryz.prog .len #[28] ty cs #[.slice av n c] K w := len_slc Tryz.underlying28 h

theorem app8 {ty : TypeId} {cs : Array Bool} (base : Nat) {av : Option Addr} {n c : Nat} {xs : List UInt8} {a2 : Option Addr} {m c2 : Nat} {ys : List UInt8}
    (hown : OB w base av n c xs) (hy : RB w a2 m c2 ys) (hbytes : n + m ≤ 140737488355328) (hbase : base ≤ w.heap.size)
    (h : ∀ a' c' w', OB w' base a' (n + m) c' (xs ++ ys) → w.grownBy w' (Value.slice av n c).ownBlock → K (.slice a' (n + m) c') w') :
    blt Tryz.prog .append #[28, 28] ty cs #[.slice av n c, .slice a2 m c2] K w := by
  obtain ⟨i, hi, hz, hsz, hby⟩ := info_parts info_u8
  refine app_slc Tryz.underlying28 hi hz hsz hby rfl hown hy (oneCell_u8 ys) (by omega) (by omega) hbase ?_
  intro a' c' w' ho hg
  exact h a' c' w' (by simpa [OB] using ho) hg

/-- A slice of one byte; it is shown by what it holds. -/
theorem bld8 {v : Value} {c : UInt8} (hv : v = u8v c)
    (h : ∀ w', Below w.heap.size w w' → RB w' (some ⟨w.heap.size, 0, none⟩) 1 1 [c] → w'.heap.size = w.heap.size + 1 → K (.slice (some ⟨w.heap.size, 0, none⟩) 1 1) w') : bldS Tryz.prog 28 1 #[(0, v)] K w := by
  obtain ⟨i, hi, hz, hsz, hby⟩ := info_parts info_u8
  subst hv
  exact bldS1 Tryz.underlying28 hi hz hsz rfl rfl fun hr => h _ (below_of_grown (World.grownBy_alloc _ _ none) (Nat.le_refl _) (fun k hk => by cases hk)) hr (by simp)

theorem mk8 {kl kc : IntKind} {C : Int} (base n : Nat) (hC : C = (n : Int)) (b2 : n ≤ 140737488355328) (b4 : base ≤ w.heap.size)
    (h : ∀ a' w', OB w' base a' 0 n [] → Below w.heap.size w w' → K (.slice a' 0 n) w') : mkS Tryz.prog 28 (.int kl 0) (.int kc C) K w := by
  obtain ⟨i, hi, hz, hsz, hby⟩ := info_parts info_u8
  exact mkS0 Tryz.underlying28 hi hz hsz hby hC (by omega) (by omega) b4 h

/-- b[i], read. -/
theorem idx8 {av : Option Addr} {n c : Nat} {k : IntKind} {iv : Int} {l : List UInt8} (hr : RB w av n c l) (h0 : 0 ≤ iv) (h1 : iv < n)
    (h : w.cell? (slotA av iv.toNat) = some (.int .u8 ((l.getD iv.toNat 0).toNat : Int)) → K (.pointer (some (slotA av iv.toNat))) w) :
    idxA Tryz.prog 28 (.slice av n c) (.int k iv) K w := by
  refine idx_slc Tryz.underlying28 size_u8 h0 h1 hr.some_ (h ?_)
  have hl : iv.toNat < l.length := by rw [hr.len]; omega
  rw [hr.cell _ hl]
  simp [List.getD, hl]

theorem ld8 {ad : Addr} {n : Int} (hc : w.cell? ad = some (.int .u8 n)) (h : K (.int .u8 n) w) : ld Tryz.prog 5 (.pointer (some ad)) K w := by
  exact ld_cell (fun _ => by kernel_rfl) hc h

theorem cut8 {av : Option Addr} {n c : Nat} {l m : Nat} {xs : List UInt8} (hr : RB w av n c xs)
    {lo hi : Option Value} (hlo : (lo = none ∧ l = 0) ∨ ∃ k, lo = some (.int k (l : Int))) (hhi : (hi = none ∧ m = n) ∨ ∃ k, hi = some (.int k (m : Int))) (hlm : l ≤ m) (hmn : m ≤ n)
    (h : ∀ a', RB w a' (m - l) (c - l) ((xs.take m).drop l) → K (.slice a' (m - l) (c - l)) w) : slc Tryz.prog 28 (.slice av n c) lo hi none K w := by
  refine slc_of Tryz.underlying28 size_u8 hr hlo hhi hlm hmn fun a' ha => h a' ?_
  simpa [RB, List.map_drop, List.map_take] using ha

theorem str8 {av : Option Addr} {n c : Nat} {l : List UInt8} (hr : RB w av n c l) (h : K (.string (bstr l)) w) : conv Tryz.prog 28 9 (.slice av n c) K w :=
  conv_str Tryz.underlying28 Tryz.underlying5 Tryz.underlying9 hr h
theorem empty8 (base : Nat) (hbase : base ≤ w.heap.size) (h : ∀ a' w', OB w' base a' 0 0 [] → Below w.heap.size w w' → K (.slice a' 0 0) w') : bldS Tryz.prog 28 0 #[] K w := by
  obtain ⟨i, hi, hz, hsz, hby⟩ := info_parts info_u8
  exact bldS0 Tryz.underlying28 hi hsz hbase h

/-- A constant turned into bytes, in the two steps of the code. -/
theorem const8 {K2 : Value → KV} {n : Nat} {ps : Array (Nat × Value)} (l : List UInt8) (hn : n = l.length) (hps : ps = (partsOf 0 (l.map u8v)).toArray) (h0 : l.length ≠ 0) (h24 : l.length ≤ 1000000)
    (h : ∀ a' w', RB w' a' n n l → Below w.heap.size w w' → K2 (.slice (some ⟨w.heap.size, 0, none⟩) n n) (.slice a' n n) w') : bldS Tryz.prog 28 n ps (fun v w => conv Tryz.prog 28 28 v (K2 v) w) w := by
  obtain ⟨i, hi, hz, hsz, hby⟩ := info_parts info_u8
  exact constB hn hps Tryz.underlying28 Tryz.underlying5 hi hz hsz rfl h0 h24 h

/-- A slice of several bytes. -/
theorem bldN8 {n : Nat} {ps : Array (Nat × Value)} (l : List UInt8) (hn : n = l.length) (hps : ps = (partsOf 0 (l.map u8v)).toArray) (h0 : l.length ≠ 0) (h24 : l.length ≤ 1000000)
    (h : ∀ a' w', OB w' w.heap.size a' n n l → Below w.heap.size w w' → K (.slice a' n n) w') : bldS Tryz.prog 28 n ps K w := by
  obtain ⟨i, hi, hz, hsz, hby⟩ := info_parts info_u8
  have hl : (l.map u8v).length = l.length := by simp
  subst hn
  refine bldS_of (vs := l.map u8v) (by rw [hl]) hps Tryz.underlying28 hi hz hsz rfl (by rw [hl]; exact h0) (by rw [hl]; exact h24) (fun v hv => by obtain ⟨c, _, rfl⟩ := List.mem_map.1 hv; rfl) ?_
  intro ho hb
  rw [hl] at *
  exact h _ _ ho hb

theorem mk8x {kl kc : IntKind} {C : Int} (n : Nat) (hC : C = (n : Int)) (b2 : n ≤ 140737488355328)
    (h : ∀ w', w'.heap[w.heap.size]? = some (.cells (List.replicate n (.int .u8 0)).toArray 5 (0, 0)) → Below w.heap.size w w' → w'.heap.size = w.heap.size + 1 → K (.slice (some ⟨w.heap.size, 0, none⟩) 0 n) w') : mkS Tryz.prog 28 (.int kl 0) (.int kc C) K w := by
  obtain ⟨i, hi, hz, hsz, hby⟩ := info_parts info_u8
  exact mkS0x Tryz.underlying28 hi hz hsz hby rfl hC (by omega) (by omega) h

theorem app8x {ty : TypeId} {cs : Array Bool} {g n c : Nat} {cur : Array Value} (hg : w.heap[g]? = some (.cells cur 5 (0, 0))) (hcs : cur.size = c) {a2 : Option Addr} {m c2 : Nat} {ys : List UInt8} (hy : RB w a2 m c2 ys)
    (hroom : n + m ≤ c)
    (h : ∀ w', w'.heap[g]? = some (.cells (cur.toList.take n ++ ys.map u8v ++ cur.toList.drop (n + m)).toArray 5 (0, 0)) → (∀ k, k ≠ g → w'.heap[k]? = w.heap[k]?) → w'.os = w.os → w'.tape = w.tape → w'.output = w.output → w'.heap.size = w.heap.size →
      K (.slice (some ⟨g, 0, none⟩) (n + m) c) w') :
    blt Tryz.prog .append #[28, 28] ty cs #[.slice (some ⟨g, 0, none⟩) n c, .slice a2 m c2] K w := by
  obtain ⟨i, hi, hz, hsz, hby⟩ := info_parts info_u8
  exact app_x Tryz.underlying28 hi hsz hg hcs hy (oneCell_u8 ys) hroom h

theorem up8 {av : Option Addr} {n c m : Nat} {k : IntKind} (hm : m ≤ c) (h : K (.slice av m c) w) :
    slc Tryz.prog 28 (.slice av n c) none (some (.int k (m : Int))) none K w := slc_up Tryz.underlying28 size_u8 hm h

end

/-! ## Slices of byte slices -/
theorem size_sl : ∀ w, (sizeOf 28).run Tryz.prog w = .ok 1 w := fun _ => by kernel_rfl
theorem info_sl : (Tryz.prog.info? 28).map (fun i => (i.zero, i.size, i.bytes)) = some (some (.slice none 0 0), 1, 24) := by kernel_rfl

def slv (v : Option Addr × Nat × Nat) : Value := .slice v.1 v.2.1 v.2.2
theorem oneCell_sl (l : List (Option Addr × Nat × Nat)) : ∀ u ∈ l.map slv, u.oneCell' = true := by
  intro u hu
  obtain ⟨_, _, rfl⟩ := List.mem_map.1 hu
  rfl

/-- .. reads as the byte strings L. -/
structure RBB (w : World) (a : Option Addr) (n c : Nat) (vs : List (Option Addr × Nat × Nat)) (L : List (List UInt8)) : Prop where
  row : RV w a n c (vs.map slv)
  len : vs.length = L.length
  each : ∀ (i : Nat) (v : Option Addr × Nat × Nat) (l : List UInt8), vs[i]? = some v → L[i]? = some l → RB w v.1 v.2.1 v.2.2 l

theorem RBB.below {w w' : World} {B : Nat} {a : Option Addr} {n c : Nat} {vs : List (Option Addr × Nat × Nat)} {L : List (List UInt8)} (h : RBB w a n c vs L) (hb : Below B w w') (hB : w.heap.size ≤ B) : RBB w' a n c vs L :=
  ⟨h.row.below hb hB, h.len, fun i v l hv hl => (h.each i v l hv hl).below hb hB⟩
theorem RBB.lenL {w : World} {a : Option Addr} {n c : Nat} {vs : List (Option Addr × Nat × Nat)} {L : List (List UInt8)} (h : RBB w a n c vs L) : L.length = n := by
  have := h.row.len
  simp only [List.length_map] at this
  rw [← h.len]; exact this

/-- A row of the call's own, of byte slices of the call's own. -/
structure OBB (w : World) (B : Nat) (a : Option Addr) (n c : Nat) (vs : List (Option Addr × Nat × Nat)) (L : List (List UInt8)) : Prop where
  row : OV w B 28 a n c (vs.map slv)
  len : vs.length = L.length
  each : ∀ (i : Nat) (v : Option Addr × Nat × Nat) (l : List UInt8), vs[i]? = some v → L[i]? = some l → OB w B v.1 v.2.1 v.2.2 l

theorem OBB.rbb {w : World} {B : Nat} {a : Option Addr} {n c : Nat} {vs : List (Option Addr × Nat × Nat)} {L : List (List UInt8)} (h : OBB w B a n c vs L) : RBB w a n c vs L :=
  ⟨h.row.rv, h.len, fun i v l hv hl => (h.each i v l hv hl).rb⟩
theorem OBB.below {w w' : World} {B D : Nat} {a : Option Addr} {n c : Nat} {vs : List (Option Addr × Nat × Nat)} {L : List (List UInt8)} (h : OBB w B a n c vs L) (hb : Below D w w') (hD : w.heap.size ≤ D) : OBB w' B a n c vs L :=
  ⟨h.row.below hb hD, h.len, fun i v l hv hl => (h.each i v l hv hl).below hb hD⟩
theorem OBB.nil (w : World) (B : Nat) : OBB w B none 0 0 [] [] := ⟨OV.nil w B _, rfl, fun i v l h => by simp at h⟩

/-- Bytes stay where a row of slices is written: its cells are of another type. -/
theorem OB.grown_sl {w w' : World} {B B2 : Nat} {a a2 : Option Addr} {n c n2 c2 : Nat} {l : List UInt8} {vs : List (Option Addr × Nat × Nat)} (h : OB w B a n c l) (h2 : OV w B2 28 a2 n2 c2 (vs.map slv))
    (hg : w.grownBy w' (Value.slice a2 n2 c2).ownBlock) : OB w' B a n c l := by
  refine World.ownsRow.kept h hg ?_
  rcases h.2 with ⟨hv, _⟩ | ⟨g, cap, cur, hv, _, hh, _⟩
  · left; rw [hv]; rfl
  · right
    rw [hv]
    rcases h2.2 with ⟨hv2, _⟩ | ⟨g2, cap2, cur2, hv2, _, hh2, _⟩
    · rw [hv2]; simp [Value.ownBlock]
    · rw [hv2]
      simp only [Value.ownBlock, ne_eq, Option.some.injEq]
      intro he
      rw [he, hh2] at hh
      simp at hh

section
variable {w : World} {K : KV}
theorem len36 {ty : TypeId} {cs : Array Bool} {av : Option Addr} {n c : Nat} (h : K (.int .i64 (n : Int)) w) : blt Tryz.prog .len #[33] ty cs #[.slice av n c] K w := len_slc Tryz.underlying33 h

/-- l = append(l, s), s new. -/
theorem push36 {ty : TypeId} {cs : Array Bool} (base : Nat) {av : Option Addr} {n c : Nat} {vs : List (Option Addr × Nat × Nat)} {L : List (List UInt8)} {a2 : Option Addr} {c2 : Nat} {v : Option Addr × Nat × Nat} {l : List UInt8}
    (hown : OBB w base av n c vs L) (hy : RV w a2 1 c2 [slv v]) (hl : OB w base v.1 v.2.1 v.2.2 l) (hbytes : n < 4294967296) (hbase : base ≤ w.heap.size)
    (h : ∀ a' c' w', OBB w' base a' (n + 1) c' (vs ++ [v]) (L ++ [l]) → w.grownBy w' (Value.slice av n c).ownBlock → K (.slice a' (n + 1) c') w') :
    blt Tryz.prog .append #[33, 33] ty cs #[.slice av n c, .slice a2 1 c2] K w := by
  obtain ⟨i, hi, hz, hsz, hby⟩ := info_parts info_sl
  refine app_slc Tryz.underlying33 hi hz hsz hby rfl hown.row hy (oneCell_sl [v]) (by omega) (by omega) hbase ?_
  intro a' c' w' ho hg
  refine h a' c' w' ⟨by simpa using ho, by simp [hown.len], ?_⟩ hg
  intro i v' l' hv' hl'
  by_cases hi' : i < vs.length
  · rw [List.getElem?_append_left hi'] at hv'
    rw [List.getElem?_append_left (by rw [← hown.len]; exact hi')] at hl'
    exact (hown.each i v' l' hv' hl').grown_sl hown.row hg
  · rw [List.getElem?_append_right (by omega)] at hv'
    rw [List.getElem?_append_right (by rw [← hown.len]; omega)] at hl'
    have h0 : i - vs.length = 0 := by
      have := (List.getElem?_eq_some_iff.1 hv').1
      simpa using this
    rw [h0] at hv'
    rw [← hown.len, h0] at hl'
    simp at hv' hl'
    subst hv' hl'
    exact hl.grown_sl hown.row hg

theorem bld36 {v : Option Addr × Nat × Nat}
    (h : ∀ w', Below w.heap.size w w' → RV w' (some ⟨w.heap.size, 0, none⟩) 1 1 [slv v] → w'.heap.size = w.heap.size + 1 → K (.slice (some ⟨w.heap.size, 0, none⟩) 1 1) w') : bldS Tryz.prog 33 1 #[(0, .slice v.1 v.2.1 v.2.2)] K w := by
  obtain ⟨i, hi, hz, hsz, hby⟩ := info_parts info_sl
  exact bldS1 Tryz.underlying33 hi hz hsz rfl rfl fun hr => h _ (below_of_grown (World.grownBy_alloc _ _ none) (Nat.le_refl _) (fun k hk => by cases hk)) hr (by simp)

/-- A slice of several byte slices. -/
theorem bld36n {n : Nat} {ps : Array (Nat × Value)} (vs : List (Option Addr × Nat × Nat)) (hn : n = vs.length) (hps : ps = (partsOf 0 (vs.map slv)).toArray) (h0 : vs.length ≠ 0) (h24 : vs.length ≤ 1000000)
    (h : ∀ a' w', OV w' w.heap.size 28 a' n n (vs.map slv) → Below w.heap.size w w' → K (.slice a' n n) w') : bldS Tryz.prog 33 n ps K w := by
  obtain ⟨i, hi, hz, hsz, hby⟩ := info_parts info_sl
  have hl : (vs.map slv).length = vs.length := by simp
  subst hn
  refine bldS_of (vs := vs.map slv) (by rw [hl]) hps Tryz.underlying33 hi hz hsz rfl (by rw [hl]; exact h0) (by rw [hl]; exact h24) (fun v hv => by obtain ⟨c, _, rfl⟩ := List.mem_map.1 hv; rfl) ?_
  intro ho hb
  rw [hl] at *
  exact h _ _ ho hb

theorem idx36 {av : Option Addr} {n c : Nat} {k : IntKind} {iv : Int} {vs : List (Option Addr × Nat × Nat)} {L : List (List UInt8)} (hr : RBB w av n c vs L) (h0 : 0 ≤ iv) (h1 : iv < n)
    (h : ∀ v l, vs[iv.toNat]? = some v → L[iv.toNat]? = some l → w.cell? (slotA av iv.toNat) = some (.slice v.1 v.2.1 v.2.2) → RB w v.1 v.2.1 v.2.2 l → K (.pointer (some (slotA av iv.toNat))) w) :
    idxA Tryz.prog 33 (.slice av n c) (.int k iv) K w := by
  refine idx_slc Tryz.underlying33 size_sl h0 h1 hr.row.some_ ?_
  have hl := hr.row.len
  simp only [List.length_map] at hl
  have hi : iv.toNat < vs.length := by omega
  have hi2 : iv.toNat < L.length := by rw [← hr.len]; exact hi
  refine h vs[iv.toNat] L[iv.toNat] (List.getElem?_eq_getElem hi) (List.getElem?_eq_getElem hi2) ?_ (hr.each _ _ _ (List.getElem?_eq_getElem hi) (List.getElem?_eq_getElem hi2))
  exact hr.row.cell _ _ (by simp [List.getElem?_map, List.getElem?_eq_getElem hi, slv])

theorem ldSl {ad : Addr} {a : Option Addr} {n c : Nat} (hc : w.cell? ad = some (.slice a n c)) (h : K (.slice a n c) w) : ld Tryz.prog 28 (.pointer (some ad)) K w :=
  ld_cell (fun _ => by kernel_rfl) hc h
end
end Go.Proofs.YtfjafbbalohmhaaGreatDoor
/- bytes.Clone. -/
namespace Go.Proofs.YtfjafbbalohmhaaGreatDoor
set_option maxRecDepth 100000
open Go.RowKit
attribute [local irreducible] bin un conv call callV blt slc fldA fld idxA idx lkp mUpd mEnt eSt rng nxt ent ext alc box bld bldS ld sto nilC mkMap mkS ifc pick rdy wts gsel sti cond retM Gives cCode cGrp cSeq cOp

theorem clone_c {a : Option Addr} {n c : Nat} {l : List UInt8} {w : World} {K : KV} (hb : RB w a n c l) (hn : n ≤ 140737488351232)
    (h : ∀ a' c' w', OB w' w.heap.size a' n c' l → Below w.heap.size w w' → K (.slice a' n c') w') : call Tryz.prog 110 #[.slice a n c] K w := by
  refine call_of bytes_Clone_go (bytes_Clone_in ?_)
  refine eql_nilS Tryz.underlying28 ?_
  cases a with
  | none =>
    obtain ⟨rfl, rfl⟩ := RV.nil_ hb rfl
    have : l = [] := List.eq_nil_of_length_eq_zero hb.len
    subst this
    refine cond_T ?_
    exact h _ _ _ (OB.nil _ _) (Below.refl _ _)
  | some ad =>
    refine cond_F ?_
    refine empty8 w.heap.size (Nat.le_refl _) ?_
    intro a1 w1 ho1 hb1
    refine app8 w.heap.size ho1 (hb.below hb1 (Nat.le_refl _)) (by omega) hb1.size ?_
    intro a2 c2 w2 ho2 hg2
    rw [Nat.zero_add, List.nil_append] at *
    exact h _ _ _ ho2 (hb1.grown hg2 hb1.size (fun k hk => (OV.block ho1 k hk).1))
end Go.Proofs.YtfjafbbalohmhaaGreatDoor
/- The contracts of the functions of the program's octet package that write and read numbers, and the plain meaning they are told in. -/
namespace Go.Proofs.YtfjafbbalohmhaaGreatDoor
set_option maxRecDepth 100000
open Go.RowKit
attribute [local irreducible] bin un conv call callV blt slc fldA fld idxA idx lkp mUpd mEnt eSt rng nxt ent ext alc box bld bldS ld sto nilC mkMap mkS ifc pick rdy wts gsel sti cond retM Gives cCode cGrp cSeq cOp

def widthOf (k : Int) : Int := if k = 8 then 64 else if k = 4 then 32 else if k = 2 then 16 else if k = 1 then 8 else 0

theorem width_c {k : Int} {w : World} {K : KV} (h : K (.int .i64 (widthOf k)) w) : call Tryz.prog 60 #[.int .i64 k] K w := by
  refine call_of octet_width_go (octet_width_in ?_)
  by_cases h8 : k = 8
  · subst h8; (repeat (first | refine octet_width_P1_r ?_ | refine octet_width_A1_r ?_ | refine octet_width_P2_r ?_ | refine octet_width_A2_r ?_ | refine octet_width_P3_r ?_ | refine octet_width_A3_r ?_ | refine octet_width_P4_r ?_ | refine octet_width_A4_r ?_ | refine bin_eql ?_ | refine add64 (by omega) (by omega) ?_ | refine cond_T ?_)); exact h
  by_cases h4 : k = 4
  · subst h4; (repeat (first | refine octet_width_P1_r ?_ | refine octet_width_A1_r ?_ | refine octet_width_P2_r ?_ | refine octet_width_A2_r ?_ | refine octet_width_P3_r ?_ | refine octet_width_A3_r ?_ | refine octet_width_P4_r ?_ | refine octet_width_A4_r ?_ | refine bin_eql ?_ | refine add64 (by omega) (by omega) ?_ | refine cond_T ?_ | refine cond_F ?_)); exact h
  by_cases h2 : k = 2
  · subst h2; (repeat (first | refine octet_width_P1_r ?_ | refine octet_width_A1_r ?_ | refine octet_width_P2_r ?_ | refine octet_width_A2_r ?_ | refine octet_width_P3_r ?_ | refine octet_width_A3_r ?_ | refine octet_width_A4_r ?_ | refine bin_eql ?_ | refine add64 (by omega) (by omega) ?_ | refine cond_T ?_ | refine cond_F ?_)); exact h
  by_cases h1 : k = 1
  · subst h1; (repeat (first | refine octet_width_P1_r ?_ | refine octet_width_A1_r ?_ | refine octet_width_P2_r ?_ | refine octet_width_A2_r ?_ | refine octet_width_A3_r ?_ | refine octet_width_A4_r ?_ | refine bin_eql ?_ | refine add64 (by omega) (by omega) ?_ | refine cond_T ?_ | refine cond_F ?_)); exact h
  have hw : widthOf k = 0 := by simp [widthOf, *]
  rw [hw] at h
  (repeat (first | refine octet_width_P1_r ?_ | refine octet_width_A1_r ?_ | refine octet_width_A2_r ?_ | refine octet_width_A3_r ?_ | refine octet_width_A4_r ?_ | refine bin_eql ?_ | refine cond_f (by omega) ?_))
  exact h

theorem width_K (K : Nat) (hK : K = 1 ∨ K = 2 ∨ K = 4 ∨ K = 8) : widthOf K = 8 * K := by
  rcases hK with rfl | rfl | rfl | rfl <;> rfl

theorem width_ne {k : Int} (h : widthOf k ≠ 0) : ∃ K : Nat, (K = 1 ∨ K = 2 ∨ K = 4 ∨ K = 8) ∧ k = K := by
  unfold widthOf at h
  by_cases h8 : k = 8
  · exact ⟨8, by simp, h8⟩
  by_cases h4 : k = 4
  · exact ⟨4, by simp, h4⟩
  by_cases h2 : k = 2
  · exact ⟨2, by simp, h2⟩
  by_cases h1 : k = 1
  · exact ⟨1, by simp, h1⟩
  simp [*] at h

def beBytes (n : Nat) : Nat → List UInt8
  | 0 => []
  | k + 1 => UInt8.ofNat (n / 256 ^ k) :: beBytes n k

theorem beBytes_len (x K : Nat) : (beBytes x K).length = K := by
  induction K with
  | zero => rfl
  | succ k ih => simp [beBytes, ih]

theorem beBytes_get (x : Nat) : ∀ (K j : Nat) (h : j < (beBytes x K).length), (beBytes x K)[j] = UInt8.ofNat (x / 256 ^ (K - 1 - j)) := by
  intro K
  induction K with
  | zero => intro j h; simp [beBytes] at h
  | succ k ih =>
    intro j h
    cases j with
    | zero => simp [beBytes]
    | succ j =>
      simp only [beBytes, List.getElem_cons_succ]
      rw [ih]
      congr 2
      congr 1
      omega

theorem beBytes_snoc (x K j : Nat) (h : j < K) : (beBytes x K).take (j + 1) = (beBytes x K).take j ++ [UInt8.ofNat (x / 256 ^ (K - 1 - j))] := by
  have hl : j < (beBytes x K).length := by rw [beBytes_len]; exact h
  rw [List.take_succ_eq_append_getElem hl, beBytes_get]

/-- A shift by whole bytes. -/
theorem shr_bytes (x e : Nat) (he : 8 * e ≤ 64) : ((x : Int).fdiv (2 ^ min ((8 * (e : Int))).toNat IntKind.u64.bits)) = ((x / 256 ^ e : Nat) : Int) := by
  have h : (2 : Int) ^ (8 * e) = ((256 ^ e : Nat) : Int) := by rw [Int.pow_mul]; simp
  have hm : min ((8 * (e : Int))).toNat IntKind.u64.bits = 8 * e := by
    have : IntKind.u64.bits = 64 := rfl
    omega
  rw [hm, h, Int.fdiv_eq_ediv_of_nonneg _ (Int.natCast_nonneg _)]
  rfl
theorem byte_val (y : Nat) : Value.int .u8 (IntKind.u8.wrap (y : Int)) = u8v (UInt8.ofNat y) := by
  rw [wrap_u8]
  simp only [u8v, UInt8.toNat_ofNat']
  congr 1

/-- P1.1: a number behind bytes. -/
def putS (l : List UInt8) (n : Nat) (k : Int) : List UInt8 × Int :=
  if widthOf k = 0 then ([], 1) else if 256 ^ k.toNat ≤ n then ([], 6) else (l ++ beBytes n k.toNat, 0)

theorem put_c {a : Option Addr} {n c : Nat} {l : List UInt8} {x : Nat} {k : Int} {w : World} {K : KV} (hb : RB w a n c l) (hn : n ≤ 140737488351232) (hx : x < 18446744073709551616)
    (h : ∀ a' n' c' w', OB w' w.heap.size a' n' c' (putS l x k).1 → Below w.heap.size w w' → K (.tuple #[.slice a' n' c', .int .i64 (putS l x k).2]) w') :
    call Tryz.prog 43 #[.slice a n c, .int .u64 x, .int .i64 k] K w := by
  refine call_of octet_Put_go (octet_Put_in ?_)
  refine width_c ?_
  by_cases hw0 : widthOf k = 0
  · have hp : putS l x k = ([], 1) := by simp [putS, hw0]
    rw [hp] at h
    (repeat (first | refine bin_eql ?_ | refine cond_t (by omega) ?_))
    exact h _ _ _ _ (OB.nil _ _) (Below.refl _ _)
  obtain ⟨N, hN, rfl⟩ := width_ne hw0
  have hwN := width_K N hN
  rw [hwN]
  have hN8 : 1 ≤ N ∧ N ≤ 8 := by omega
  (repeat (first | refine bin_eql ?_ | refine cond_f (by omega) ?_))
  refine bin_shr (by omega) ?_
  (repeat (first | refine bin_gtr ?_))
  rw [shr_bytes x N (by omega)]
  by_cases hbig : 256 ^ N ≤ x
  · have hp : putS l x N = ([], 6) := by simp [putS, hw0, hbig]
    rw [hp] at h
    have hq : (0 : Int) < ((x / 256 ^ N : Nat) : Int) := by
      have : 0 < x / 256 ^ N := Nat.div_pos hbig (Nat.pow_pos (by omega))
      omega
    (repeat (first | refine cond_t (by omega) ?_))
    exact h _ _ _ _ (OB.nil _ _) (Below.refl _ _)
  have hp : putS l x N = (l ++ beBytes x N, 0) := by simp [putS, hw0, hbig]
  rw [hp] at h
  have hq : ((x / 256 ^ N : Nat) : Int) = 0 := by
    have : x / 256 ^ N = 0 := Nat.div_eq_of_lt (by omega)
    omega
  rw [hq]
  (repeat (first | refine add64 (by omega) (by omega) ?_ | refine len8 ?_ | refine cond_F ?_))
  refine mk8 w.heap.size (n + N) (by omega) (by omega) (by omega) ?_
  intro a1 w1 ho1 hb1
  refine app8 w.heap.size ho1 (hb.below hb1 (by omega)) (by omega) hb1.size ?_
  intro a2 c2 w2 ho2 hg2
  have hb2 : Below w.heap.size w w2 := hb1.grown hg2 hb1.size (fun k hk => (OV.block ho1 k hk).1)
  rw [List.nil_append, Nat.zero_add] at ho2
  (repeat (first | refine octet_Put_A1_r ?_ | refine sub64 (by omega) (by omega) ?_))
  refine octet_Put_L1_r (Inv := fun bits out wr => ∃ j a' n' c', j ≤ N ∧ bits = .int .i64 (8 * (N : Int) - 8 - 8 * (j : Int)) ∧ out = .slice a' n' c' ∧ OB wr w.heap.size a' n' c' (l ++ (beBytes x N).take j) ∧ Below w.heap.size w wr)
    (μ := fun bits _ _ => (intOf bits + 8).toNat) ⟨0, _, _, _, by omega, by simp, rfl, by simpa using ho2, hb2⟩ ?_
  rintro _ _ _ w3 m ⟨j, a3, n3, c3, hj, rfl, rfl, ho3, hb3⟩ hm
  have hl3 := ho3.len
  have hll := hb.len
  simp only [List.length_append, List.length_take, beBytes_len] at hl3
  by_cases hjN : j < N
  · (repeat (first | refine bin_geq ?_ | refine cond_t (by omega) ?_))
    refine bin_shr (by omega) ?_
    rw [show (8 * (N : Int) - 8 - 8 * (j : Int)) = 8 * ((N - 1 - j : Nat) : Int) by omega, shr_bytes x (N - 1 - j) (by omega)]
    refine conv_int Tryz.underlying22 Tryz.underlying5 ?_
    rw [byte_val]
    refine bld8 rfl ?_
    intro w4 hb4 hr4 hs4
    refine app8 w.heap.size (ho3.below hb4 (by omega)) hr4 (by omega) (by have := hb3.size; omega) ?_
    intro a5 c5 w5 ho5 hg5
    (repeat (first | refine sub64 (by omega) (by omega) ?_))
    have hs3 := hb3.size
    refine ⟨⟨j + 1, _, _, _, by omega, by congr 1; omega, rfl, ?_, ?_⟩, ?_⟩
    · rw [beBytes_snoc x N j hjN, ← List.append_assoc]; exact ho5
    · exact (hb3.trans (hb4.mono hs3)).grown hg5 (by omega) (fun k hk => (OV.block (ho3.below hb4 (by omega)) k hk).1)
    · rw [hm]; simp only [intOf]; omega
  · have hjN' : j = N := by omega
    subst hjN'
    (repeat (first | refine octet_Put_P1_r ?_ | refine bin_geq ?_ | refine cond_f (by omega) ?_))
    have : (beBytes x j).take j = beBytes x j := List.take_of_length_le (by rw [beBytes_len]; omega)
    rw [this] at ho3
    exact h _ _ _ _ ho3 hb3

def beNat (l : List UInt8) : Nat := l.foldl (fun n c => n * 256 + c.toNat) 0

theorem beNat_snoc (l : List UInt8) (c : UInt8) : beNat (l ++ [c]) = beNat l * 256 + c.toNat := by simp [beNat, List.foldl_append]

theorem beNat_lt (l : List UInt8) : beNat l < 256 ^ l.length := by
  have key : ∀ l : List UInt8, ∀ n k, n < 256 ^ k → l.foldl (fun n c => n * 256 + c.toNat) n < 256 ^ (k + l.length) := by
    intro l
    induction l with
    | nil => intro n k h; simpa using h
    | cons c l ih =>
      intro n k h
      simp only [List.foldl_cons, List.length_cons]
      have hc := c.toNat_lt
      have := ih (n * 256 + c.toNat) (k + 1) (by rw [Nat.pow_succ]; omega)
      rw [show k + (l.length + 1) = k + 1 + l.length by omega]
      exact this
  have := key l 0 0 (by simp)
  simpa [beNat] using this

theorem take_snoc (l : List UInt8) (j : Nat) (h : j < l.length) : l.take (j + 1) = l.take j ++ [l.getD j 0] := by
  rw [List.take_succ_eq_append_getElem h]
  simp [List.getD, h]

/-- P1.1: the number at a place: the number, the next place, an error. -/
def takeS (l : List UInt8) (p k : Int) : Nat × Int × Int :=
  if widthOf k = 0 ∨ p < 0 ∨ (l.length : Int) < p then (0, 0, 1) else if (l.length : Int) - p < k then (0, 0, 5) else (beNat ((l.drop p.toNat).take k.toNat), p + k, 0)

theorem take_c {a : Option Addr} {n c : Nat} {l : List UInt8} {p k : Int} {w : World} {K : KV} (hb : RB w a n c l) (hn : n ≤ 9223372036854775807)
    (h : K (.tuple #[.int .u64 (takeS l p k).1, .int .i64 (takeS l p k).2.1, .int .i64 (takeS l p k).2.2]) w) :
    call Tryz.prog 45 #[.slice a n c, .int .i64 p, .int .i64 k] K w := by
  have hl := hb.len
  refine call_of octet_Take_go (octet_Take_in ?_)
  refine width_c ?_
  refine bin_eql ?_
  by_cases h0 : widthOf k = 0
  · rw [show takeS l p k = (0, 0, 1) by simp [takeS, h0]] at h
    (repeat (first | refine octet_Take_P2_r ?_ | refine octet_Take_A1_r ?_ | refine cond_t (by omega) ?_))
    exact h
  (repeat (first | refine octet_Take_A1_r ?_ | refine bin_lss ?_ | refine cond_f (by omega) ?_))
  by_cases h1 : p < 0
  · rw [show takeS l p k = (0, 0, 1) by simp [takeS, h1]] at h
    (repeat (first | refine octet_Take_P2_r ?_ | refine cond_t (by omega) ?_))
    exact h
  (repeat (first | refine octet_Take_P2_r ?_ | refine bin_gtr ?_ | refine len8 ?_ | refine cond_f (by omega) ?_))
  by_cases h2 : (n : Int) < p
  · rw [show takeS l p k = (0, 0, 1) by simp [takeS, hl, h2]] at h
    (repeat (first | refine cond_t (by omega) ?_))
    exact h
  obtain ⟨N, hN, rfl⟩ := width_ne h0
  obtain ⟨q, rfl⟩ := Int.eq_ofNat_of_zero_le (show 0 ≤ p by omega)
  have hN8 : 1 ≤ N ∧ N ≤ 8 := by omega
  (repeat (first | refine bin_lss ?_ | refine sub64 (by omega) (by omega) ?_ | refine len8 ?_ | refine cond_f (by omega) ?_))
  by_cases h3 : (n : Int) - q < N
  · rw [show takeS l q N = (0, 0, 5) by unfold takeS; rw [if_neg (by simp [hl, h0]; omega), if_pos (by rw [hl]; exact h3)]] at h
    (repeat (first | refine cond_t (by omega) ?_))
    exact h
  have hs : takeS l q N = (beNat ((l.drop q).take N), (q : Int) + N, 0) := by
    unfold takeS
    rw [if_neg (by simp [hl, h0]; omega), if_neg (by rw [hl]; exact h3)]
    simp
  rw [hs] at h
  (repeat (first | refine octet_Take_P1_r ?_ | refine add64 (by omega) (by omega) ?_ | refine cond_f (by omega) ?_))
  rw [show ((q : Int) + (N : Int)) = ((q + N : Nat) : Int) by omega]
  refine cut8 (l := q) (m := q + N) hb (.inr ⟨_, rfl⟩) (.inr ⟨_, rfl⟩) (by omega) (by omega) ?_
  intro a' hr'
  have hx : (l.take (q + N)).drop q = (l.drop q).take N := by rw [List.drop_take]; congr 1; omega
  rw [hx] at hr'
  have hlen := hr'.len
  rw [show q + N - q = N by omega] at *
  (repeat (first | refine len8 ?_))
  refine octet_Take_L1_r (Inv := fun x i wr => ∃ j, j ≤ N ∧ i = .int .i64 (j : Nat) ∧ x = .int .u64 (beNat (((l.drop q).take N).take j) : Nat) ∧ wr = w)
    (μ := fun _ i _ => N - (intOf i).toNat) ⟨0, by omega, by simp, by simp [beNat], rfl⟩ ?_
  rintro _ _ _ w2 m ⟨j, hj, rfl, rfl, rfl⟩ hm
  by_cases hjN : j < N
  · (repeat (first | refine bin_lss ?_ | refine cond_t (by omega) ?_))
    refine idx8 hr' (by omega) (by omega) ?_
    intro hc
    refine ld8 hc ?_
    refine bin_shl (by omega) ?_
    refine conv_int Tryz.underlying5 Tryz.underlying22 ?_
    have hlt := beNat_lt (((l.drop q).take N).take j)
    have hjl : (((l.drop q).take N).take j).length = j := by rw [List.length_take]; omega
    rw [hjl] at hlt
    have hlt2 : beNat (((l.drop q).take N).take j) < 72057594037927936 := by
      have : 256 ^ j ≤ 256 ^ 7 := Nat.pow_le_pow_right (by omega) (by omega)
      omega
    generalize hcc : ((l.drop q).take N).getD (((j : Nat) : Int)).toNat 0 = cc
    have hc256 := cc.toNat_lt
    refine bin_or ?_
    rw [wrap_u64 (cc.toNat : Int), show (cc.toNat : Int) % 18446744073709551616 = ((cc.toNat : Nat) : Int) by omega, or_byte hlt2 (by omega)]
    (repeat (first | refine add64 (by omega) (by omega) ?_))
    have hcc' : ((l.drop q).take N).getD j 0 = cc := by simpa using hcc
    refine ⟨⟨j + 1, by omega, by simp, ?_, rfl⟩, by rw [hm]; simp only [intOf]; omega⟩
    rw [take_snoc _ _ (by omega), beNat_snoc, hcc']
  · have : j = N := by omega
    subst this
    (repeat (first | refine octet_Take_P3_r ?_ | refine bin_lss ?_ | refine cond_f (by omega) ?_))
    rw [List.take_of_length_le (by omega)]
    exact h

end Go.Proofs.YtfjafbbalohmhaaGreatDoor
/- Written by program (gen.py): what the code of some functions asks, part by part; each text is checked by the kernel against the translation. -/
namespace Go.Proofs.YtfjafbbalohmhaaGreatDoor
open Go.RowKit
set_option maxRecDepth 100000

def trace_within_P1 (K : KV) : KE := cCode Tryz.prog (cd Tryz.f27 [1, 1]) (retK Tryz.prog Tryz.f27.results.toList K) (fun _ _ _ => False) (retK Tryz.prog Tryz.f27.results.toList K)
def trace_within_L1 (K : KV) : KE := cCode Tryz.prog (cd Tryz.f27 [1, 0, 1, 0]) (trace_within_P1 K) (fun i => @Bool.rec (fun _ => KE) ((fun _ _ _ => False) i) (trace_within_P1 K) (Nat.beq i 0)) (retK Tryz.prog Tryz.f27.results.toList K)
theorem trace_within_k {K : KV} {low0 high1 l2 : Value} {w : World}
    (h : blt Tryz.prog Builtin.len #[25] 3 #[false] #[l2] (fun A8 w =>
    (cCode Tryz.prog (cd Tryz.f27 [1, 0, 1, 0]) (cCode Tryz.prog (cd Tryz.f27 [1, 1]) (retK Tryz.prog Tryz.f27.results.toList K) (fun _ _ _ => False) (retK Tryz.prog Tryz.f27.results.toList K)) (fun i => @Bool.rec (fun _ => KE) ((fun _ _ _ => False) i) (cCode Tryz.prog (cd Tryz.f27 [1, 1]) (retK Tryz.prog Tryz.f27.results.toList K) (fun _ _ _ => False) (retK Tryz.prog Tryz.f27.results.toList K)) (Nat.beq i 0)) (retK Tryz.prog Tryz.f27.results.toList K)) [low0, high1, l2, undef, undef, undef, (Value.bool false), undef, undef, l2, A8, (Value.int IntKind.i64 0), undef, undef, undef, undef, undef, undef, undef, undef, undef, undef, undef, undef] w) w) :
    cCode Tryz.prog (cd Tryz.f27 []) (retK Tryz.prog Tryz.f27.results.toList K) (fun _ _ _ => False) (retK Tryz.prog Tryz.f27.results.toList K) [low0, high1, l2, undef, undef, undef, undef, undef, undef, undef, undef, undef, undef, undef, undef, undef, undef, undef, undef, undef, undef, undef, undef, undef] w := Eq.mp (by kernel_rfl) h

theorem trace_within_in {K : KV} {low0 high1 l2 : Value} {w : World}
    (h : blt Tryz.prog Builtin.len #[25] 3 #[false] #[l2] (fun A8 w =>
    (trace_within_L1 K) [low0, high1, l2, undef, undef, undef, (Value.bool false), undef, undef, l2, A8, (Value.int IntKind.i64 0), undef, undef, undef, undef, undef, undef, undef, undef, undef, undef, undef, undef] w) w) :
    Gives Tryz.prog 27 #[low0, high1, l2] w K := enter' Tryz.func27 (by kernel_rfl) (Eq.mp (congrArg (fun c => cCode Tryz.prog c (retK Tryz.prog Tryz.f27.results.toList K) (fun _ _ _ => False) (retK Tryz.prog Tryz.f27.results.toList K) [low0, high1, l2, undef, undef, undef, undef, undef, undef, undef, undef, undef, undef, undef, undef, undef, undef, undef, undef, undef, undef, undef, undef, undef] w) (by kernel_rfl : (cd Tryz.f27 []) = (cd Tryz.f27 []))) (trace_within_k h))
theorem trace_within_go : isGo Tryz.prog 27 := ⟨_, Tryz.func27, by kernel_rfl, by kernel_rfl⟩

theorem trace_within_L1_k {K : KV} (B1 : KE) (qc0 : KE) {low0 high1 l2 low3 high4 l5 A5 A7 A8 A9' C7' C8' C9' : Value} {dd : Nat → Value} {w : World}
    (h : bin Tryz.prog BinOp.lss 3 false false A9' A8 (fun C0 w =>
    cond C0
      (idxA Tryz.prog 25 A7 A9' (fun C1 w =>
    ld Tryz.prog 3 C1 (fun C2 w =>
    bin Tryz.prog BinOp.lss 3 false false C2 low0 (fun C5 w =>
    gsel C5 false (fun k19 =>
    bin Tryz.prog BinOp.gtr 3 false false C2 high1 (fun C9 w =>
    k19 [C2, high1, C9] w) w)
    (fun k => k [undef, undef, undef] w) (fun us19 w =>
    pick C5 (Value.bool true) (gd us19 2) (fun D0 w =>
    cond D0
      (K (Value.bool false) w)
      (bin Tryz.prog BinOp.add 3 false true A9' (Value.int IntKind.i64 1) (fun D1 w =>
    B1 [low0, high1, l2, low3, high4, l5, (dd 6), A5, C2, A7, A8, D1, C0, C1, C2, C2, low0, C5, C5, (gd us19 0), (gd us19 1), (gd us19 2), D0, D1] w) w)) w)) w) w) w)
      (qc0 [low0, high1, l2, low3, high4, l5, (dd 6), A5, (dd 8), A7, A8, A9', C0, (dd 13), (dd 14), (dd 15), (dd 16), (dd 17), (dd 18), C7', C8', C9', (dd 22), (dd 23)] w)) w) :
    cCode Tryz.prog (cd Tryz.f27 [1, 0, 1, 0, 0]) B1 (fun i => @Bool.rec (fun _ => KE) ((fun _ _ _ => False) i) qc0 (Nat.beq i 0)) (retK Tryz.prog Tryz.f27.results.toList K) [low0, high1, l2, low3, high4, l5, (dd 6), A5, (dd 8), A7, A8, A9', (dd 12), (dd 13), (dd 14), (dd 15), (dd 16), (dd 17), (dd 18), C7', C8', C9', (dd 22), (dd 23)] w := Eq.mp (by kernel_rfl) h

theorem trace_within_L1_r {K : KV} {low0 high1 l2 low3 high4 l5 A4 A5 x8 A7 A8 A9 C0 C1 C2 C3 C4 C5 C6 C7 C8 C9 D0 D1 : Value} {w : World} (Inv : Value → Value → Value → Value → World → Prop) (μ : Value → Value → Value → Value → World → Nat) (h0 : Inv A9 C7 C8 C9 w)
    (hs : ∀ (A9' C7' C8' C9' : Value) (dd : Nat → Value) (w : World) (m : Nat), Inv A9' C7' C8' C9' w → m = μ A9' C7' C8' C9' w →
    bin Tryz.prog BinOp.lss 3 false false A9' A8 (fun C0 w =>
    cond C0
      (idxA Tryz.prog 25 A7 A9' (fun C1 w =>
    ld Tryz.prog 3 C1 (fun C2 w =>
    bin Tryz.prog BinOp.lss 3 false false C2 low0 (fun C5 w =>
    gsel C5 false (fun k19 =>
    bin Tryz.prog BinOp.gtr 3 false false C2 high1 (fun C9 w =>
    k19 [C2, high1, C9] w) w)
    (fun k => k [undef, undef, undef] w) (fun us19 w =>
    pick C5 (Value.bool true) (gd us19 2) (fun D0 w =>
    cond D0
      (K (Value.bool false) w)
      (bin Tryz.prog BinOp.add 3 false true A9' (Value.int IntKind.i64 1) (fun D1 w =>
    (Inv D1 (gd us19 0) (gd us19 1) (gd us19 2) w ∧ μ D1 (gd us19 0) (gd us19 1) (gd us19 2) w < m)) w)) w)) w) w) w)
      ((trace_within_P1 K) [low0, high1, l2, low3, high4, l5, (dd 6), A5, (dd 8), A7, A8, A9', C0, (dd 13), (dd 14), (dd 15), (dd 16), (dd 17), (dd 18), C7', C8', C9', (dd 22), (dd 23)] w)) w) :
    trace_within_L1 K [low0, high1, l2, low3, high4, l5, A4, A5, x8, A7, A8, A9, C0, C1, C2, C3, C4, C5, C6, C7, C8, C9, D0, D1] w := by
  refine loop_rule (cd Tryz.f27 [1, 0, 1, 0, 0]) [6, 8, 11, 12, 13, 14, 15, 16, 17, 18, 19, 20, 21, 22, 23] (by kernel_rfl) (fun e2 w2 => Inv (gd e2 11) (gd e2 19) (gd e2 20) (gd e2 21) w2) (fun e2 w2 => μ (gd e2 11) (gd e2 19) (gd e2 20) (gd e2 21) w2) h0 ?_
  intro e' w' hI
  have h := hs (gd e' 11) (gd e' 19) (gd e' 20) (gd e' 21) (fun i => gd e' i) w' _ hI rfl
  have h2 : cCode Tryz.prog (cd Tryz.f27 [1, 0, 1, 0, 0]) (fun e2 w2 => Inv (gd e2 11) (gd e2 19) (gd e2 20) (gd e2 21) w2 ∧ μ (gd e2 11) (gd e2 19) (gd e2 20) (gd e2 21) w2 < μ (gd e' 11) (gd e' 19) (gd e' 20) (gd e' 21) w') (fun i => @Bool.rec (fun _ => KE) ((fun _ _ _ => False) i) (trace_within_P1 K) (Nat.beq i 0)) (retK Tryz.prog Tryz.f27.results.toList K) [low0, high1, l2, low3, high4, l5, (gd e' 6), A5, (gd e' 8), A7, A8, (gd e' 11), (gd e' 12), (gd e' 13), (gd e' 14), (gd e' 15), (gd e' 16), (gd e' 17), (gd e' 18), (gd e' 19), (gd e' 20), (gd e' 21), (gd e' 22), (gd e' 23)] w' := trace_within_L1_k (fun e2 w2 => Inv (gd e2 11) (gd e2 19) (gd e2 20) (gd e2 21) w2 ∧ μ (gd e2 11) (gd e2 19) (gd e2 20) (gd e2 21) w2 < μ (gd e' 11) (gd e' 19) (gd e' 20) (gd e' 21) w') (trace_within_P1 K) (Eq.mp (by kernel_rfl) h)
  exact Eq.mp (by kernel_rfl) h2

theorem trace_within_P1_k {K : KV} {low0 high1 l2 low3 high4 l5 A4 A5 x8 A7 A8 A9 C0 C1 C2 C3 C4 C5 C6 C7 C8 C9 D0 D1 : Value} {w : World}
    (h : K (Value.bool true) w) :
    cCode Tryz.prog (cd Tryz.f27 [1, 1]) (retK Tryz.prog Tryz.f27.results.toList K) (fun _ _ _ => False) (retK Tryz.prog Tryz.f27.results.toList K) [low0, high1, l2, low3, high4, l5, A4, A5, x8, A7, A8, A9, C0, C1, C2, C3, C4, C5, C6, C7, C8, C9, D0, D1] w := Eq.mp (by kernel_rfl) h

theorem trace_within_P1_r {K : KV} {low0 high1 l2 low3 high4 l5 A4 A5 x8 A7 A8 A9 C0 C1 C2 C3 C4 C5 C6 C7 C8 C9 D0 D1 : Value} {w : World}
    (h : K (Value.bool true) w) :
    trace_within_P1 K [low0, high1, l2, low3, high4, l5, A4, A5, x8, A7, A8, A9, C0, C1, C2, C3, C4, C5, C6, C7, C8, C9, D0, D1] w := by
  delta trace_within_P1
  exact Eq.mp (congrArg (fun c => cCode Tryz.prog c (retK Tryz.prog Tryz.f27.results.toList K) (fun _ _ _ => False) (retK Tryz.prog Tryz.f27.results.toList K) [low0, high1, l2, low3, high4, l5, A4, A5, x8, A7, A8, A9, C0, C1, C2, C3, C4, C5, C6, C7, C8, C9, D0, D1] w) (by kernel_rfl : (cd Tryz.f27 [1, 1]) = (cd Tryz.f27 [1, 1]))) (trace_within_P1_k h)
attribute [irreducible] trace_within_P1 trace_within_L1

def trace_May_P1 (K : KV) : KE := cCode Tryz.prog (cd Tryz.f9 [1, 1]) (retK Tryz.prog Tryz.f9.results.toList K) (fun _ _ _ => False) (retK Tryz.prog Tryz.f9.results.toList K)
def trace_May_P2 (K : KV) : KE := cCode Tryz.prog (cd Tryz.f9 [1, 0, 0, 1]) (trace_May_P1 K) (fun i => @Bool.rec (fun _ => KE) ((fun _ _ _ => False) i) (trace_May_P1 K) (Nat.beq i 0)) (retK Tryz.prog Tryz.f9.results.toList K)
def trace_May_A1 (K : KV) : KE := cCode Tryz.prog (cd Tryz.f9 [1, 0, 0, 0, 1]) (trace_May_P2 K) (fun i => @Bool.rec (fun _ => KE) ((fun _ _ _ => False) i) (trace_May_P1 K) (Nat.beq i 0)) (retK Tryz.prog Tryz.f9.results.toList K)
def trace_May_P3 (K : KV) : KE := cCode Tryz.prog (cd Tryz.f9 [1, 0, 0, 1, 1, 1]) (trace_May_P1 K) (fun i => @Bool.rec (fun _ => KE) ((fun _ _ _ => False) i) (trace_May_P1 K) (Nat.beq i 0)) (retK Tryz.prog Tryz.f9.results.toList K)
def trace_May_A2 (K : KV) : KE := cCode Tryz.prog (cd Tryz.f9 [1, 0, 0, 1, 1, 0, 1]) (trace_May_P3 K) (fun i => @Bool.rec (fun _ => KE) ((fun _ _ _ => False) i) (trace_May_P1 K) (Nat.beq i 0)) (retK Tryz.prog Tryz.f9.results.toList K)
def trace_May_P4 (K : KV) : KE := cCode Tryz.prog (cd Tryz.f9 [1, 0, 0, 1, 1, 1, 1, 1]) (trace_May_P1 K) (fun i => @Bool.rec (fun _ => KE) ((fun _ _ _ => False) i) (trace_May_P1 K) (Nat.beq i 0)) (retK Tryz.prog Tryz.f9.results.toList K)
def trace_May_A3 (K : KV) : KE := cCode Tryz.prog (cd Tryz.f9 [1, 0, 0, 1, 1, 1, 1, 0, 1]) (trace_May_P4 K) (fun i => @Bool.rec (fun _ => KE) ((fun _ _ _ => False) i) (trace_May_P1 K) (Nat.beq i 0)) (retK Tryz.prog Tryz.f9.results.toList K)
theorem trace_May_k {K : KV} (xc0 : Code) {s0 : Value} {w : World}
    (h : box Tryz.prog 27 s0 (fun s1 w =>
    fldA Tryz.prog 27 s1 0 (fun A2 w =>
    ld Tryz.prog 5 A2 (fun A3 w =>
    bin Tryz.prog BinOp.lss 5 false true A3 (Value.int IntKind.u8 1) (fun A4 w =>
    (cCode Tryz.prog xc0 (cCode Tryz.prog (cd Tryz.f9 [1, 0, 0, 1]) (cCode Tryz.prog (cd Tryz.f9 [1, 1]) (retK Tryz.prog Tryz.f9.results.toList K) (fun _ _ _ => False) (retK Tryz.prog Tryz.f9.results.toList K)) (fun i => @Bool.rec (fun _ => KE) ((fun _ _ _ => False) i) (cCode Tryz.prog (cd Tryz.f9 [1, 1]) (retK Tryz.prog Tryz.f9.results.toList K) (fun _ _ _ => False) (retK Tryz.prog Tryz.f9.results.toList K)) (Nat.beq i 0)) (retK Tryz.prog Tryz.f9.results.toList K)) (fun i => @Bool.rec (fun _ => KE) ((fun _ _ _ => False) i) (cCode Tryz.prog (cd Tryz.f9 [1, 1]) (retK Tryz.prog Tryz.f9.results.toList K) (fun _ _ _ => False) (retK Tryz.prog Tryz.f9.results.toList K)) (Nat.beq i 0)) (retK Tryz.prog Tryz.f9.results.toList K)) (s0::s1::(Value.bool false)::A4::A2::A3::A4::undef::undef::undef::undef::undef::undef::undef::undef::undef::undef::undef::undef::undef::undef::undef::undef::undef::undef::undef::undef::undef::undef::undef::undef::undef::undef::undef::undef::undef::undef::undef::undef::undef::undef::undef::undef::undef::undef::undef::undef::undef::[]) w) w) w) w) w) :
    cCode Tryz.prog (rep [1, 0, 0, 0, 1] xc0 (cd Tryz.f9 [])) (retK Tryz.prog Tryz.f9.results.toList K) (fun _ _ _ => False) (retK Tryz.prog Tryz.f9.results.toList K) (s0::undef::undef::undef::undef::undef::undef::undef::undef::undef::undef::undef::undef::undef::undef::undef::undef::undef::undef::undef::undef::undef::undef::undef::undef::undef::undef::undef::undef::undef::undef::undef::undef::undef::undef::undef::undef::undef::undef::undef::undef::undef::undef::undef::undef::undef::undef::undef::[]) w := Eq.mp (by kernel_rfl) h

theorem trace_May_in {K : KV} {s0 : Value} {w : World}
    (h : box Tryz.prog 27 s0 (fun s1 w =>
    fldA Tryz.prog 27 s1 0 (fun A2 w =>
    ld Tryz.prog 5 A2 (fun A3 w =>
    bin Tryz.prog BinOp.lss 5 false true A3 (Value.int IntKind.u8 1) (fun A4 w =>
    (trace_May_A1 K) (s0::s1::(Value.bool false)::A4::A2::A3::A4::undef::undef::undef::undef::undef::undef::undef::undef::undef::undef::undef::undef::undef::undef::undef::undef::undef::undef::undef::undef::undef::undef::undef::undef::undef::undef::undef::undef::undef::undef::undef::undef::undef::undef::undef::undef::undef::undef::undef::undef::undef::[]) w) w) w) w) w) :
    Gives Tryz.prog 9 #[s0] w K := enter' Tryz.func9 (by kernel_rfl) (Eq.mp (congrArg (fun c => cCode Tryz.prog c (retK Tryz.prog Tryz.f9.results.toList K) (fun _ _ _ => False) (retK Tryz.prog Tryz.f9.results.toList K) (s0::undef::undef::undef::undef::undef::undef::undef::undef::undef::undef::undef::undef::undef::undef::undef::undef::undef::undef::undef::undef::undef::undef::undef::undef::undef::undef::undef::undef::undef::undef::undef::undef::undef::undef::undef::undef::undef::undef::undef::undef::undef::undef::undef::undef::undef::undef::undef::[]) w) (by kernel_rfl : (rep [1, 0, 0, 0, 1] (cd Tryz.f9 [1, 0, 0, 0, 1]) (cd Tryz.f9 [])) = (cd Tryz.f9 []))) (trace_May_k (cd Tryz.f9 [1, 0, 0, 0, 1]) h))
theorem trace_May_go : isGo Tryz.prog 9 := ⟨_, Tryz.func9, by kernel_rfl, by kernel_rfl⟩

theorem trace_May_A1_k {K : KV} (qc0 : KE) (qc1 : KE) {s0 s1 A0 A1 A2 A3 A4 A5 A6 A7 A8 A9 C0 C1 C2 C3 C4 C5 C6 C7 C8 C9 D0 D1 D2 D3 D4 D5 D6 D7 D8 D9 E0 E1 E2 E3 E4 E5 E6 E7 E8 E9 F0 F1 F2 F3 F4 F5 : Value} {w : World}
    (h : cond A1
      (qc0 (s0::s1::A0::A1::A2::A3::A4::A5::A6::A7::A8::A9::C0::C1::C2::C3::C4::C5::C6::C7::C8::C9::D0::D1::D2::D3::D4::D5::D6::D7::D8::D9::E0::E1::E2::E3::E4::E5::E6::E7::E8::E9::F0::F1::F2::F3::F4::F5::[]) w)
      (fldA Tryz.prog 27 s1 0 (fun A5 w =>
      ld Tryz.prog 5 A5 (fun A6 w =>
      bin Tryz.prog BinOp.gtr 5 false true A6 (Value.int IntKind.u8 12) (fun A7 w =>
      cond A7
        (qc0 (s0::s1::A0::A7::A2::A3::A4::A5::A6::A7::A8::A9::C0::C1::C2::C3::C4::C5::C6::C7::C8::C9::D0::D1::D2::D3::D4::D5::D6::D7::D8::D9::E0::E1::E2::E3::E4::E5::E6::E7::E8::E9::F0::F1::F2::F3::F4::F5::[]) w)
        (fldA Tryz.prog 27 s1 2 (fun A8 w =>
        fldA Tryz.prog 24 A8 0 (fun A9 w =>
        ld Tryz.prog 5 A9 (fun C0 w =>
        bin Tryz.prog BinOp.gtr 5 false true C0 (Value.int IntKind.u8 7) (fun C1 w =>
        qc0 (s0::s1::A0::C1::A2::A3::A4::A5::A6::A7::A8::A9::C0::C1::C2::C3::C4::C5::C6::C7::C8::C9::D0::D1::D2::D3::D4::D5::D6::D7::D8::D9::E0::E1::E2::E3::E4::E5::E6::E7::E8::E9::F0::F1::F2::F3::F4::F5::[]) w) w) w) w) w)) w) w) w)) :
    cCode Tryz.prog (cd Tryz.f9 [1, 0, 0, 0, 1]) qc0 (fun i => @Bool.rec (fun _ => KE) ((fun _ _ _ => False) i) qc1 (Nat.beq i 0)) (retK Tryz.prog Tryz.f9.results.toList K) (s0::s1::A0::A1::A2::A3::A4::A5::A6::A7::A8::A9::C0::C1::C2::C3::C4::C5::C6::C7::C8::C9::D0::D1::D2::D3::D4::D5::D6::D7::D8::D9::E0::E1::E2::E3::E4::E5::E6::E7::E8::E9::F0::F1::F2::F3::F4::F5::[]) w := Eq.mp (by kernel_rfl) h

theorem trace_May_A1_r {K : KV} {s0 s1 A0 A1 A2 A3 A4 A5 A6 A7 A8 A9 C0 C1 C2 C3 C4 C5 C6 C7 C8 C9 D0 D1 D2 D3 D4 D5 D6 D7 D8 D9 E0 E1 E2 E3 E4 E5 E6 E7 E8 E9 F0 F1 F2 F3 F4 F5 : Value} {w : World}
    (h : cond A1
      ((trace_May_P2 K) (s0::s1::A0::A1::A2::A3::A4::A5::A6::A7::A8::A9::C0::C1::C2::C3::C4::C5::C6::C7::C8::C9::D0::D1::D2::D3::D4::D5::D6::D7::D8::D9::E0::E1::E2::E3::E4::E5::E6::E7::E8::E9::F0::F1::F2::F3::F4::F5::[]) w)
      (fldA Tryz.prog 27 s1 0 (fun A5 w =>
      ld Tryz.prog 5 A5 (fun A6 w =>
      bin Tryz.prog BinOp.gtr 5 false true A6 (Value.int IntKind.u8 12) (fun A7 w =>
      cond A7
        ((trace_May_P2 K) (s0::s1::A0::A7::A2::A3::A4::A5::A6::A7::A8::A9::C0::C1::C2::C3::C4::C5::C6::C7::C8::C9::D0::D1::D2::D3::D4::D5::D6::D7::D8::D9::E0::E1::E2::E3::E4::E5::E6::E7::E8::E9::F0::F1::F2::F3::F4::F5::[]) w)
        (fldA Tryz.prog 27 s1 2 (fun A8 w =>
        fldA Tryz.prog 24 A8 0 (fun A9 w =>
        ld Tryz.prog 5 A9 (fun C0 w =>
        bin Tryz.prog BinOp.gtr 5 false true C0 (Value.int IntKind.u8 7) (fun C1 w =>
        (trace_May_P2 K) (s0::s1::A0::C1::A2::A3::A4::A5::A6::A7::A8::A9::C0::C1::C2::C3::C4::C5::C6::C7::C8::C9::D0::D1::D2::D3::D4::D5::D6::D7::D8::D9::E0::E1::E2::E3::E4::E5::E6::E7::E8::E9::F0::F1::F2::F3::F4::F5::[]) w) w) w) w) w)) w) w) w)) :
    trace_May_A1 K (s0::s1::A0::A1::A2::A3::A4::A5::A6::A7::A8::A9::C0::C1::C2::C3::C4::C5::C6::C7::C8::C9::D0::D1::D2::D3::D4::D5::D6::D7::D8::D9::E0::E1::E2::E3::E4::E5::E6::E7::E8::E9::F0::F1::F2::F3::F4::F5::[]) w := by
  delta trace_May_A1
  exact Eq.mp (congrArg (fun c => cCode Tryz.prog c (trace_May_P2 K) (fun i => @Bool.rec (fun _ => KE) ((fun _ _ _ => False) i) (trace_May_P1 K) (Nat.beq i 0)) (retK Tryz.prog Tryz.f9.results.toList K) (s0::s1::A0::A1::A2::A3::A4::A5::A6::A7::A8::A9::C0::C1::C2::C3::C4::C5::C6::C7::C8::C9::D0::D1::D2::D3::D4::D5::D6::D7::D8::D9::E0::E1::E2::E3::E4::E5::E6::E7::E8::E9::F0::F1::F2::F3::F4::F5::[]) w) (by kernel_rfl : (cd Tryz.f9 [1, 0, 0, 0, 1]) = (cd Tryz.f9 [1, 0, 0, 0, 1]))) (trace_May_A1_k (trace_May_P2 K) (trace_May_P1 K) h)

theorem trace_May_P2_k {K : KV} (qc0 : KE) (xc0 : Code) {s0 s1 A0 A1 A2 A3 A4 A5 A6 A7 A8 A9 C0 C1 C2 C3 C4 C5 C6 C7 C8 C9 D0 D1 D2 D3 D4 D5 D6 D7 D8 D9 E0 E1 E2 E3 E4 E5 E6 E7 E8 E9 F0 F1 F2 F3 F4 F5 : Value} {w : World}
    (h : cond A1
      (K (Value.bool false) w)
      (fldA Tryz.prog 27 s1 1 (fun C3 w =>
      ld Tryz.prog 3 C3 (fun C4 w =>
      fldA Tryz.prog 27 s1 4 (fun C5 w =>
      ld Tryz.prog 3 C5 (fun C6 w =>
      fldA Tryz.prog 27 s1 3 (fun C7 w =>
      ld Tryz.prog 3 C7 (fun C8 w =>
      fldA Tryz.prog 27 s1 2 (fun C9 w =>
      fldA Tryz.prog 24 C9 2 (fun D0 w =>
      ld Tryz.prog 3 D0 (fun D1 w =>
      bldS Tryz.prog 25 4 #[(0, C4), (1, C6), (2, C8), (3, D1)] (fun D2 w =>
      call Tryz.prog 27 #[(Value.int IntKind.i64 (-1)), (Value.int IntKind.i64 255), D2] (fun D3 w =>
      un Tryz.prog UnOp.not D3 (fun D4 w =>
      (cCode Tryz.prog xc0 (cCode Tryz.prog (cd Tryz.f9 [1, 0, 0, 1, 1, 1]) qc0 (fun i => @Bool.rec (fun _ => KE) ((fun _ _ _ => False) i) qc0 (Nat.beq i 0)) (retK Tryz.prog Tryz.f9.results.toList K)) (fun i => @Bool.rec (fun _ => KE) ((fun _ _ _ => False) i) qc0 (Nat.beq i 0)) (retK Tryz.prog Tryz.f9.results.toList K)) (s0::s1::A0::A1::A2::A3::A4::A5::A6::A7::A8::A9::C0::C1::D4::C3::C4::C5::C6::C7::C8::C9::D0::D1::D2::D3::D4::D5::D6::D7::D8::D9::E0::E1::E2::E3::E4::E5::E6::E7::E8::E9::F0::F1::F2::F3::F4::F5::[]) w) w) w) w) w) w) w) w) w) w) w) w) w)) :
    cCode Tryz.prog (rep [1, 0, 1] xc0 (cd Tryz.f9 [1, 0, 0, 1])) qc0 (fun i => @Bool.rec (fun _ => KE) ((fun _ _ _ => False) i) qc0 (Nat.beq i 0)) (retK Tryz.prog Tryz.f9.results.toList K) (s0::s1::A0::A1::A2::A3::A4::A5::A6::A7::A8::A9::C0::C1::C2::C3::C4::C5::C6::C7::C8::C9::D0::D1::D2::D3::D4::D5::D6::D7::D8::D9::E0::E1::E2::E3::E4::E5::E6::E7::E8::E9::F0::F1::F2::F3::F4::F5::[]) w := Eq.mp (by kernel_rfl) h

theorem trace_May_P2_r {K : KV} {s0 s1 A0 A1 A2 A3 A4 A5 A6 A7 A8 A9 C0 C1 C2 C3 C4 C5 C6 C7 C8 C9 D0 D1 D2 D3 D4 D5 D6 D7 D8 D9 E0 E1 E2 E3 E4 E5 E6 E7 E8 E9 F0 F1 F2 F3 F4 F5 : Value} {w : World}
    (h : cond A1
      (K (Value.bool false) w)
      (fldA Tryz.prog 27 s1 1 (fun C3 w =>
      ld Tryz.prog 3 C3 (fun C4 w =>
      fldA Tryz.prog 27 s1 4 (fun C5 w =>
      ld Tryz.prog 3 C5 (fun C6 w =>
      fldA Tryz.prog 27 s1 3 (fun C7 w =>
      ld Tryz.prog 3 C7 (fun C8 w =>
      fldA Tryz.prog 27 s1 2 (fun C9 w =>
      fldA Tryz.prog 24 C9 2 (fun D0 w =>
      ld Tryz.prog 3 D0 (fun D1 w =>
      bldS Tryz.prog 25 4 #[(0, C4), (1, C6), (2, C8), (3, D1)] (fun D2 w =>
      call Tryz.prog 27 #[(Value.int IntKind.i64 (-1)), (Value.int IntKind.i64 255), D2] (fun D3 w =>
      un Tryz.prog UnOp.not D3 (fun D4 w =>
      (trace_May_A2 K) (s0::s1::A0::A1::A2::A3::A4::A5::A6::A7::A8::A9::C0::C1::D4::C3::C4::C5::C6::C7::C8::C9::D0::D1::D2::D3::D4::D5::D6::D7::D8::D9::E0::E1::E2::E3::E4::E5::E6::E7::E8::E9::F0::F1::F2::F3::F4::F5::[]) w) w) w) w) w) w) w) w) w) w) w) w) w)) :
    trace_May_P2 K (s0::s1::A0::A1::A2::A3::A4::A5::A6::A7::A8::A9::C0::C1::C2::C3::C4::C5::C6::C7::C8::C9::D0::D1::D2::D3::D4::D5::D6::D7::D8::D9::E0::E1::E2::E3::E4::E5::E6::E7::E8::E9::F0::F1::F2::F3::F4::F5::[]) w := by
  delta trace_May_P2
  exact Eq.mp (congrArg (fun c => cCode Tryz.prog c (trace_May_P1 K) (fun i => @Bool.rec (fun _ => KE) ((fun _ _ _ => False) i) (trace_May_P1 K) (Nat.beq i 0)) (retK Tryz.prog Tryz.f9.results.toList K) (s0::s1::A0::A1::A2::A3::A4::A5::A6::A7::A8::A9::C0::C1::C2::C3::C4::C5::C6::C7::C8::C9::D0::D1::D2::D3::D4::D5::D6::D7::D8::D9::E0::E1::E2::E3::E4::E5::E6::E7::E8::E9::F0::F1::F2::F3::F4::F5::[]) w) (by kernel_rfl : (rep [1, 0, 1] (cd Tryz.f9 [1, 0, 0, 1, 1, 0, 1]) (cd Tryz.f9 [1, 0, 0, 1])) = (cd Tryz.f9 [1, 0, 0, 1]))) (trace_May_P2_k (trace_May_P1 K) (cd Tryz.f9 [1, 0, 0, 1, 1, 0, 1]) h)

theorem trace_May_A2_k {K : KV} (qc0 : KE) (qc1 : KE) {s0 s1 A0 A1 A2 A3 A4 A5 A6 A7 A8 A9 C0 C1 C2 C3 C4 C5 C6 C7 C8 C9 D0 D1 D2 D3 D4 D5 D6 D7 D8 D9 E0 E1 E2 E3 E4 E5 E6 E7 E8 E9 F0 F1 F2 F3 F4 F5 : Value} {w : World}
    (h : cond C2
      (qc0 (s0::s1::A0::A1::A2::A3::A4::A5::A6::A7::A8::A9::C0::C1::C2::C3::C4::C5::C6::C7::C8::C9::D0::D1::D2::D3::D4::D5::D6::D7::D8::D9::E0::E1::E2::E3::E4::E5::E6::E7::E8::E9::F0::F1::F2::F3::F4::F5::[]) w)
      (fldA Tryz.prog 27 s1 5 (fun D5 w =>
      ld Tryz.prog 3 D5 (fun D6 w =>
      bldS Tryz.prog 25 1 #[(0, D6)] (fun D7 w =>
      call Tryz.prog 27 #[(Value.int IntKind.i64 (-1)), (Value.int IntKind.i64 1073741824), D7] (fun D8 w =>
      un Tryz.prog UnOp.not D8 (fun D9 w =>
      qc0 (s0::s1::A0::A1::A2::A3::A4::A5::A6::A7::A8::A9::C0::C1::D9::C3::C4::C5::C6::C7::C8::C9::D0::D1::D2::D3::D4::D5::D6::D7::D8::D9::E0::E1::E2::E3::E4::E5::E6::E7::E8::E9::F0::F1::F2::F3::F4::F5::[]) w) w) w) w) w) w)) :
    cCode Tryz.prog (cd Tryz.f9 [1, 0, 0, 1, 1, 0, 1]) qc0 (fun i => @Bool.rec (fun _ => KE) ((fun _ _ _ => False) i) qc1 (Nat.beq i 0)) (retK Tryz.prog Tryz.f9.results.toList K) (s0::s1::A0::A1::A2::A3::A4::A5::A6::A7::A8::A9::C0::C1::C2::C3::C4::C5::C6::C7::C8::C9::D0::D1::D2::D3::D4::D5::D6::D7::D8::D9::E0::E1::E2::E3::E4::E5::E6::E7::E8::E9::F0::F1::F2::F3::F4::F5::[]) w := Eq.mp (by kernel_rfl) h

theorem trace_May_A2_r {K : KV} {s0 s1 A0 A1 A2 A3 A4 A5 A6 A7 A8 A9 C0 C1 C2 C3 C4 C5 C6 C7 C8 C9 D0 D1 D2 D3 D4 D5 D6 D7 D8 D9 E0 E1 E2 E3 E4 E5 E6 E7 E8 E9 F0 F1 F2 F3 F4 F5 : Value} {w : World}
    (h : cond C2
      ((trace_May_P3 K) (s0::s1::A0::A1::A2::A3::A4::A5::A6::A7::A8::A9::C0::C1::C2::C3::C4::C5::C6::C7::C8::C9::D0::D1::D2::D3::D4::D5::D6::D7::D8::D9::E0::E1::E2::E3::E4::E5::E6::E7::E8::E9::F0::F1::F2::F3::F4::F5::[]) w)
      (fldA Tryz.prog 27 s1 5 (fun D5 w =>
      ld Tryz.prog 3 D5 (fun D6 w =>
      bldS Tryz.prog 25 1 #[(0, D6)] (fun D7 w =>
      call Tryz.prog 27 #[(Value.int IntKind.i64 (-1)), (Value.int IntKind.i64 1073741824), D7] (fun D8 w =>
      un Tryz.prog UnOp.not D8 (fun D9 w =>
      (trace_May_P3 K) (s0::s1::A0::A1::A2::A3::A4::A5::A6::A7::A8::A9::C0::C1::D9::C3::C4::C5::C6::C7::C8::C9::D0::D1::D2::D3::D4::D5::D6::D7::D8::D9::E0::E1::E2::E3::E4::E5::E6::E7::E8::E9::F0::F1::F2::F3::F4::F5::[]) w) w) w) w) w) w)) :
    trace_May_A2 K (s0::s1::A0::A1::A2::A3::A4::A5::A6::A7::A8::A9::C0::C1::C2::C3::C4::C5::C6::C7::C8::C9::D0::D1::D2::D3::D4::D5::D6::D7::D8::D9::E0::E1::E2::E3::E4::E5::E6::E7::E8::E9::F0::F1::F2::F3::F4::F5::[]) w := by
  delta trace_May_A2
  exact Eq.mp (congrArg (fun c => cCode Tryz.prog c (trace_May_P3 K) (fun i => @Bool.rec (fun _ => KE) ((fun _ _ _ => False) i) (trace_May_P1 K) (Nat.beq i 0)) (retK Tryz.prog Tryz.f9.results.toList K) (s0::s1::A0::A1::A2::A3::A4::A5::A6::A7::A8::A9::C0::C1::C2::C3::C4::C5::C6::C7::C8::C9::D0::D1::D2::D3::D4::D5::D6::D7::D8::D9::E0::E1::E2::E3::E4::E5::E6::E7::E8::E9::F0::F1::F2::F3::F4::F5::[]) w) (by kernel_rfl : (cd Tryz.f9 [1, 0, 0, 1, 1, 0, 1]) = (cd Tryz.f9 [1, 0, 0, 1, 1, 0, 1]))) (trace_May_A2_k (trace_May_P3 K) (trace_May_P1 K) h)

theorem trace_May_P3_k {K : KV} (qc0 : KE) (xc0 : Code) {s0 s1 A0 A1 A2 A3 A4 A5 A6 A7 A8 A9 C0 C1 C2 C3 C4 C5 C6 C7 C8 C9 D0 D1 D2 D3 D4 D5 D6 D7 D8 D9 E0 E1 E2 E3 E4 E5 E6 E7 E8 E9 F0 F1 F2 F3 F4 F5 : Value} {w : World}
    (h : cond C2
      (K (Value.bool false) w)
      (fldA Tryz.prog 27 s1 2 (fun E1 w =>
      fldA Tryz.prog 24 E1 3 (fun E2 w =>
      ld Tryz.prog 2 E2 (fun E3 w =>
      bin Tryz.prog BinOp.lss 2 false true E3 (Value.int IntKind.i64 (-1)) (fun E4 w =>
      (cCode Tryz.prog xc0 (cCode Tryz.prog (cd Tryz.f9 [1, 0, 0, 1, 1, 1, 1, 1]) qc0 (fun i => @Bool.rec (fun _ => KE) ((fun _ _ _ => False) i) qc0 (Nat.beq i 0)) (retK Tryz.prog Tryz.f9.results.toList K)) (fun i => @Bool.rec (fun _ => KE) ((fun _ _ _ => False) i) qc0 (Nat.beq i 0)) (retK Tryz.prog Tryz.f9.results.toList K)) (s0::s1::A0::A1::A2::A3::A4::A5::A6::A7::A8::A9::C0::C1::C2::C3::C4::C5::C6::C7::C8::C9::D0::D1::D2::D3::D4::D5::D6::D7::D8::D9::E4::E1::E2::E3::E4::E5::E6::E7::E8::E9::F0::F1::F2::F3::F4::F5::[]) w) w) w) w) w)) :
    cCode Tryz.prog (rep [1, 0, 1] xc0 (cd Tryz.f9 [1, 0, 0, 1, 1, 1])) qc0 (fun i => @Bool.rec (fun _ => KE) ((fun _ _ _ => False) i) qc0 (Nat.beq i 0)) (retK Tryz.prog Tryz.f9.results.toList K) (s0::s1::A0::A1::A2::A3::A4::A5::A6::A7::A8::A9::C0::C1::C2::C3::C4::C5::C6::C7::C8::C9::D0::D1::D2::D3::D4::D5::D6::D7::D8::D9::E0::E1::E2::E3::E4::E5::E6::E7::E8::E9::F0::F1::F2::F3::F4::F5::[]) w := Eq.mp (by kernel_rfl) h

theorem trace_May_P3_r {K : KV} {s0 s1 A0 A1 A2 A3 A4 A5 A6 A7 A8 A9 C0 C1 C2 C3 C4 C5 C6 C7 C8 C9 D0 D1 D2 D3 D4 D5 D6 D7 D8 D9 E0 E1 E2 E3 E4 E5 E6 E7 E8 E9 F0 F1 F2 F3 F4 F5 : Value} {w : World}
    (h : cond C2
      (K (Value.bool false) w)
      (fldA Tryz.prog 27 s1 2 (fun E1 w =>
      fldA Tryz.prog 24 E1 3 (fun E2 w =>
      ld Tryz.prog 2 E2 (fun E3 w =>
      bin Tryz.prog BinOp.lss 2 false true E3 (Value.int IntKind.i64 (-1)) (fun E4 w =>
      (trace_May_A3 K) (s0::s1::A0::A1::A2::A3::A4::A5::A6::A7::A8::A9::C0::C1::C2::C3::C4::C5::C6::C7::C8::C9::D0::D1::D2::D3::D4::D5::D6::D7::D8::D9::E4::E1::E2::E3::E4::E5::E6::E7::E8::E9::F0::F1::F2::F3::F4::F5::[]) w) w) w) w) w)) :
    trace_May_P3 K (s0::s1::A0::A1::A2::A3::A4::A5::A6::A7::A8::A9::C0::C1::C2::C3::C4::C5::C6::C7::C8::C9::D0::D1::D2::D3::D4::D5::D6::D7::D8::D9::E0::E1::E2::E3::E4::E5::E6::E7::E8::E9::F0::F1::F2::F3::F4::F5::[]) w := by
  delta trace_May_P3
  exact Eq.mp (congrArg (fun c => cCode Tryz.prog c (trace_May_P1 K) (fun i => @Bool.rec (fun _ => KE) ((fun _ _ _ => False) i) (trace_May_P1 K) (Nat.beq i 0)) (retK Tryz.prog Tryz.f9.results.toList K) (s0::s1::A0::A1::A2::A3::A4::A5::A6::A7::A8::A9::C0::C1::C2::C3::C4::C5::C6::C7::C8::C9::D0::D1::D2::D3::D4::D5::D6::D7::D8::D9::E0::E1::E2::E3::E4::E5::E6::E7::E8::E9::F0::F1::F2::F3::F4::F5::[]) w) (by kernel_rfl : (rep [1, 0, 1] (cd Tryz.f9 [1, 0, 0, 1, 1, 1, 1, 0, 1]) (cd Tryz.f9 [1, 0, 0, 1, 1, 1])) = (cd Tryz.f9 [1, 0, 0, 1, 1, 1]))) (trace_May_P3_k (trace_May_P1 K) (cd Tryz.f9 [1, 0, 0, 1, 1, 1, 1, 0, 1]) h)

theorem trace_May_A3_k {K : KV} (qc0 : KE) (qc1 : KE) {s0 s1 A0 A1 A2 A3 A4 A5 A6 A7 A8 A9 C0 C1 C2 C3 C4 C5 C6 C7 C8 C9 D0 D1 D2 D3 D4 D5 D6 D7 D8 D9 E0 E1 E2 E3 E4 E5 E6 E7 E8 E9 F0 F1 F2 F3 F4 F5 : Value} {w : World}
    (h : cond E0
      (qc0 (s0::s1::A0::A1::A2::A3::A4::A5::A6::A7::A8::A9::C0::C1::C2::C3::C4::C5::C6::C7::C8::C9::D0::D1::D2::D3::D4::D5::D6::D7::D8::D9::E0::E1::E2::E3::E4::E5::E6::E7::E8::E9::F0::F1::F2::F3::F4::F5::[]) w)
      (fldA Tryz.prog 27 s1 2 (fun E5 w =>
      fldA Tryz.prog 24 E5 3 (fun E6 w =>
      ld Tryz.prog 2 E6 (fun E7 w =>
      bin Tryz.prog BinOp.gtr 2 false true E7 (Value.int IntKind.i64 1152921504606846976) (fun E8 w =>
      cond E8
        (qc0 (s0::s1::A0::A1::A2::A3::A4::A5::A6::A7::A8::A9::C0::C1::C2::C3::C4::C5::C6::C7::C8::C9::D0::D1::D2::D3::D4::D5::D6::D7::D8::D9::E8::E1::E2::E3::E4::E5::E6::E7::E8::E9::F0::F1::F2::F3::F4::F5::[]) w)
        (fldA Tryz.prog 27 s1 6 (fun E9 w =>
        ld Tryz.prog 25 E9 (fun F0 w =>
        blt Tryz.prog Builtin.len #[25] 3 #[false] #[F0] (fun F1 w =>
        bin Tryz.prog BinOp.gtr 3 false true F1 (Value.int IntKind.i64 255) (fun F2 w =>
        qc0 (s0::s1::A0::A1::A2::A3::A4::A5::A6::A7::A8::A9::C0::C1::C2::C3::C4::C5::C6::C7::C8::C9::D0::D1::D2::D3::D4::D5::D6::D7::D8::D9::F2::E1::E2::E3::E4::E5::E6::E7::E8::E9::F0::F1::F2::F3::F4::F5::[]) w) w) w) w) w)) w) w) w) w)) :
    cCode Tryz.prog (cd Tryz.f9 [1, 0, 0, 1, 1, 1, 1, 0, 1]) qc0 (fun i => @Bool.rec (fun _ => KE) ((fun _ _ _ => False) i) qc1 (Nat.beq i 0)) (retK Tryz.prog Tryz.f9.results.toList K) (s0::s1::A0::A1::A2::A3::A4::A5::A6::A7::A8::A9::C0::C1::C2::C3::C4::C5::C6::C7::C8::C9::D0::D1::D2::D3::D4::D5::D6::D7::D8::D9::E0::E1::E2::E3::E4::E5::E6::E7::E8::E9::F0::F1::F2::F3::F4::F5::[]) w := Eq.mp (by kernel_rfl) h

theorem trace_May_A3_r {K : KV} {s0 s1 A0 A1 A2 A3 A4 A5 A6 A7 A8 A9 C0 C1 C2 C3 C4 C5 C6 C7 C8 C9 D0 D1 D2 D3 D4 D5 D6 D7 D8 D9 E0 E1 E2 E3 E4 E5 E6 E7 E8 E9 F0 F1 F2 F3 F4 F5 : Value} {w : World}
    (h : cond E0
      ((trace_May_P4 K) (s0::s1::A0::A1::A2::A3::A4::A5::A6::A7::A8::A9::C0::C1::C2::C3::C4::C5::C6::C7::C8::C9::D0::D1::D2::D3::D4::D5::D6::D7::D8::D9::E0::E1::E2::E3::E4::E5::E6::E7::E8::E9::F0::F1::F2::F3::F4::F5::[]) w)
      (fldA Tryz.prog 27 s1 2 (fun E5 w =>
      fldA Tryz.prog 24 E5 3 (fun E6 w =>
      ld Tryz.prog 2 E6 (fun E7 w =>
      bin Tryz.prog BinOp.gtr 2 false true E7 (Value.int IntKind.i64 1152921504606846976) (fun E8 w =>
      cond E8
        ((trace_May_P4 K) (s0::s1::A0::A1::A2::A3::A4::A5::A6::A7::A8::A9::C0::C1::C2::C3::C4::C5::C6::C7::C8::C9::D0::D1::D2::D3::D4::D5::D6::D7::D8::D9::E8::E1::E2::E3::E4::E5::E6::E7::E8::E9::F0::F1::F2::F3::F4::F5::[]) w)
        (fldA Tryz.prog 27 s1 6 (fun E9 w =>
        ld Tryz.prog 25 E9 (fun F0 w =>
        blt Tryz.prog Builtin.len #[25] 3 #[false] #[F0] (fun F1 w =>
        bin Tryz.prog BinOp.gtr 3 false true F1 (Value.int IntKind.i64 255) (fun F2 w =>
        (trace_May_P4 K) (s0::s1::A0::A1::A2::A3::A4::A5::A6::A7::A8::A9::C0::C1::C2::C3::C4::C5::C6::C7::C8::C9::D0::D1::D2::D3::D4::D5::D6::D7::D8::D9::F2::E1::E2::E3::E4::E5::E6::E7::E8::E9::F0::F1::F2::F3::F4::F5::[]) w) w) w) w) w)) w) w) w) w)) :
    trace_May_A3 K (s0::s1::A0::A1::A2::A3::A4::A5::A6::A7::A8::A9::C0::C1::C2::C3::C4::C5::C6::C7::C8::C9::D0::D1::D2::D3::D4::D5::D6::D7::D8::D9::E0::E1::E2::E3::E4::E5::E6::E7::E8::E9::F0::F1::F2::F3::F4::F5::[]) w := by
  delta trace_May_A3
  exact Eq.mp (congrArg (fun c => cCode Tryz.prog c (trace_May_P4 K) (fun i => @Bool.rec (fun _ => KE) ((fun _ _ _ => False) i) (trace_May_P1 K) (Nat.beq i 0)) (retK Tryz.prog Tryz.f9.results.toList K) (s0::s1::A0::A1::A2::A3::A4::A5::A6::A7::A8::A9::C0::C1::C2::C3::C4::C5::C6::C7::C8::C9::D0::D1::D2::D3::D4::D5::D6::D7::D8::D9::E0::E1::E2::E3::E4::E5::E6::E7::E8::E9::F0::F1::F2::F3::F4::F5::[]) w) (by kernel_rfl : (cd Tryz.f9 [1, 0, 0, 1, 1, 1, 1, 0, 1]) = (cd Tryz.f9 [1, 0, 0, 1, 1, 1, 1, 0, 1]))) (trace_May_A3_k (trace_May_P4 K) (trace_May_P1 K) h)

theorem trace_May_P4_k {K : KV} (qc0 : KE) {s0 s1 A0 A1 A2 A3 A4 A5 A6 A7 A8 A9 C0 C1 C2 C3 C4 C5 C6 C7 C8 C9 D0 D1 D2 D3 D4 D5 D6 D7 D8 D9 E0 E1 E2 E3 E4 E5 E6 E7 E8 E9 F0 F1 F2 F3 F4 F5 : Value} {w : World}
    (h : cond E0
      (K (Value.bool false) w)
      (qc0 (s0::s1::A0::A1::A2::A3::A4::A5::A6::A7::A8::A9::C0::C1::C2::C3::C4::C5::C6::C7::C8::C9::D0::D1::D2::D3::D4::D5::D6::D7::D8::D9::E0::E1::E2::E3::E4::E5::E6::E7::E8::E9::F0::F1::F2::F3::F4::F5::[]) w)) :
    cCode Tryz.prog (cd Tryz.f9 [1, 0, 0, 1, 1, 1, 1, 1]) qc0 (fun i => @Bool.rec (fun _ => KE) ((fun _ _ _ => False) i) qc0 (Nat.beq i 0)) (retK Tryz.prog Tryz.f9.results.toList K) (s0::s1::A0::A1::A2::A3::A4::A5::A6::A7::A8::A9::C0::C1::C2::C3::C4::C5::C6::C7::C8::C9::D0::D1::D2::D3::D4::D5::D6::D7::D8::D9::E0::E1::E2::E3::E4::E5::E6::E7::E8::E9::F0::F1::F2::F3::F4::F5::[]) w := Eq.mp (by kernel_rfl) h

theorem trace_May_P4_r {K : KV} {s0 s1 A0 A1 A2 A3 A4 A5 A6 A7 A8 A9 C0 C1 C2 C3 C4 C5 C6 C7 C8 C9 D0 D1 D2 D3 D4 D5 D6 D7 D8 D9 E0 E1 E2 E3 E4 E5 E6 E7 E8 E9 F0 F1 F2 F3 F4 F5 : Value} {w : World}
    (h : cond E0
      (K (Value.bool false) w)
      ((trace_May_P1 K) (s0::s1::A0::A1::A2::A3::A4::A5::A6::A7::A8::A9::C0::C1::C2::C3::C4::C5::C6::C7::C8::C9::D0::D1::D2::D3::D4::D5::D6::D7::D8::D9::E0::E1::E2::E3::E4::E5::E6::E7::E8::E9::F0::F1::F2::F3::F4::F5::[]) w)) :
    trace_May_P4 K (s0::s1::A0::A1::A2::A3::A4::A5::A6::A7::A8::A9::C0::C1::C2::C3::C4::C5::C6::C7::C8::C9::D0::D1::D2::D3::D4::D5::D6::D7::D8::D9::E0::E1::E2::E3::E4::E5::E6::E7::E8::E9::F0::F1::F2::F3::F4::F5::[]) w := by
  delta trace_May_P4
  exact Eq.mp (congrArg (fun c => cCode Tryz.prog c (trace_May_P1 K) (fun i => @Bool.rec (fun _ => KE) ((fun _ _ _ => False) i) (trace_May_P1 K) (Nat.beq i 0)) (retK Tryz.prog Tryz.f9.results.toList K) (s0::s1::A0::A1::A2::A3::A4::A5::A6::A7::A8::A9::C0::C1::C2::C3::C4::C5::C6::C7::C8::C9::D0::D1::D2::D3::D4::D5::D6::D7::D8::D9::E0::E1::E2::E3::E4::E5::E6::E7::E8::E9::F0::F1::F2::F3::F4::F5::[]) w) (by kernel_rfl : (cd Tryz.f9 [1, 0, 0, 1, 1, 1, 1, 1]) = (cd Tryz.f9 [1, 0, 0, 1, 1, 1, 1, 1]))) (trace_May_P4_k (trace_May_P1 K) h)

theorem trace_May_P1_k {K : KV} {s0 s1 A0 A1 A2 A3 A4 A5 A6 A7 A8 A9 C0 C1 C2 C3 C4 C5 C6 C7 C8 C9 D0 D1 D2 D3 D4 D5 D6 D7 D8 D9 E0 E1 E2 E3 E4 E5 E6 E7 E8 E9 F0 F1 F2 F3 F4 F5 : Value} {w : World}
    (h : fldA Tryz.prog 27 s1 6 (fun F3 w =>
    ld Tryz.prog 25 F3 (fun F4 w =>
    call Tryz.prog 27 #[(Value.int IntKind.i64 (-1)), (Value.int IntKind.i64 254), F4] (fun F5 w =>
    K F5 w) w) w) w) :
    cCode Tryz.prog (cd Tryz.f9 [1, 1]) (retK Tryz.prog Tryz.f9.results.toList K) (fun _ _ _ => False) (retK Tryz.prog Tryz.f9.results.toList K) (s0::s1::A0::A1::A2::A3::A4::A5::A6::A7::A8::A9::C0::C1::C2::C3::C4::C5::C6::C7::C8::C9::D0::D1::D2::D3::D4::D5::D6::D7::D8::D9::E0::E1::E2::E3::E4::E5::E6::E7::E8::E9::F0::F1::F2::F3::F4::F5::[]) w := Eq.mp (by kernel_rfl) h

theorem trace_May_P1_r {K : KV} {s0 s1 A0 A1 A2 A3 A4 A5 A6 A7 A8 A9 C0 C1 C2 C3 C4 C5 C6 C7 C8 C9 D0 D1 D2 D3 D4 D5 D6 D7 D8 D9 E0 E1 E2 E3 E4 E5 E6 E7 E8 E9 F0 F1 F2 F3 F4 F5 : Value} {w : World}
    (h : fldA Tryz.prog 27 s1 6 (fun F3 w =>
    ld Tryz.prog 25 F3 (fun F4 w =>
    call Tryz.prog 27 #[(Value.int IntKind.i64 (-1)), (Value.int IntKind.i64 254), F4] (fun F5 w =>
    K F5 w) w) w) w) :
    trace_May_P1 K (s0::s1::A0::A1::A2::A3::A4::A5::A6::A7::A8::A9::C0::C1::C2::C3::C4::C5::C6::C7::C8::C9::D0::D1::D2::D3::D4::D5::D6::D7::D8::D9::E0::E1::E2::E3::E4::E5::E6::E7::E8::E9::F0::F1::F2::F3::F4::F5::[]) w := by
  delta trace_May_P1
  exact Eq.mp (congrArg (fun c => cCode Tryz.prog c (retK Tryz.prog Tryz.f9.results.toList K) (fun _ _ _ => False) (retK Tryz.prog Tryz.f9.results.toList K) (s0::s1::A0::A1::A2::A3::A4::A5::A6::A7::A8::A9::C0::C1::C2::C3::C4::C5::C6::C7::C8::C9::D0::D1::D2::D3::D4::D5::D6::D7::D8::D9::E0::E1::E2::E3::E4::E5::E6::E7::E8::E9::F0::F1::F2::F3::F4::F5::[]) w) (by kernel_rfl : (cd Tryz.f9 [1, 1]) = (cd Tryz.f9 [1, 1]))) (trace_May_P1_k h)
attribute [irreducible] trace_May_P1 trace_May_P2 trace_May_A1 trace_May_P3 trace_May_A2 trace_May_P4 trace_May_A3


theorem trace_pen_put_k {K : KV} {p0 n1 size2 : Value} {w : World}
    (h : nilC p0 (fun A8 w =>
    ld Tryz.prog 69 A8 (fun A9 w =>
    call Tryz.prog 43 #[A9, n1, size2] (fun C2 w =>
    ext Tryz.prog C2 0 (fun C3 w =>
    ext Tryz.prog C2 1 (fun C4 w =>
    nilC p0 (fun C7 w =>
    sto Tryz.prog 69 C7 C3 (fun _t w =>
    K (Value.tuple #[]) w) w) w) w) w) w) w) w) :
    cCode Tryz.prog (cd Tryz.f26 []) (retK Tryz.prog Tryz.f26.results.toList K) (fun _ _ _ => False) (retK Tryz.prog Tryz.f26.results.toList K) [p0, n1, size2, undef, undef, undef, undef, undef, undef, undef, undef, undef, undef, undef, undef, undef, undef, undef, undef, undef] w := Eq.mp (by kernel_rfl) h

theorem trace_pen_put_in {K : KV} {p0 n1 size2 : Value} {w : World}
    (h : nilC p0 (fun A8 w =>
    ld Tryz.prog 69 A8 (fun A9 w =>
    call Tryz.prog 43 #[A9, n1, size2] (fun C2 w =>
    ext Tryz.prog C2 0 (fun C3 w =>
    ext Tryz.prog C2 1 (fun C4 w =>
    nilC p0 (fun C7 w =>
    sto Tryz.prog 69 C7 C3 (fun _t w =>
    K (Value.tuple #[]) w) w) w) w) w) w) w) w) :
    Gives Tryz.prog 26 #[p0, n1, size2] w K := enter' Tryz.func26 (by kernel_rfl) (Eq.mp (congrArg (fun c => cCode Tryz.prog c (retK Tryz.prog Tryz.f26.results.toList K) (fun _ _ _ => False) (retK Tryz.prog Tryz.f26.results.toList K) [p0, n1, size2, undef, undef, undef, undef, undef, undef, undef, undef, undef, undef, undef, undef, undef, undef, undef, undef, undef] w) (by kernel_rfl : (cd Tryz.f26 []) = (cd Tryz.f26 []))) (trace_pen_put_k h))
theorem trace_pen_put_go : isGo Tryz.prog 26 := ⟨_, Tryz.func26, by kernel_rfl, by kernel_rfl⟩

def trace_Put_P1 (K : KV) : KE := cCode Tryz.prog (cd Tryz.f8 [1, 1, 1, 1, 1]) (retK Tryz.prog Tryz.f8.results.toList K) (fun _ _ _ => False) (retK Tryz.prog Tryz.f8.results.toList K)
def trace_Put_L1 (K : KV) : KE := cCode Tryz.prog (cd Tryz.f8 [1, 1, 1, 1, 0, 1, 0]) (trace_Put_P1 K) (fun i => @Bool.rec (fun _ => KE) ((fun _ _ _ => False) i) (trace_Put_P1 K) (Nat.beq i 0)) (retK Tryz.prog Tryz.f8.results.toList K)
def trace_Put_A1 (K : KV) : KE := cCode Tryz.prog (cd Tryz.f8 [1, 1, 1, 1, 1, 1, 1, 1, 1, 1]) (retK Tryz.prog Tryz.f8.results.toList K) (fun _ _ _ => False) (retK Tryz.prog Tryz.f8.results.toList K)
def trace_Put_P2 (K : KV) : KE := cCode Tryz.prog (cd Tryz.f8 [1, 1, 1, 1, 1, 1, 1, 1, 1, 1, 1, 1, 1, 1]) (retK Tryz.prog Tryz.f8.results.toList K) (fun _ _ _ => False) (retK Tryz.prog Tryz.f8.results.toList K)
def trace_Put_L2 (K : KV) : KE := cCode Tryz.prog (cd Tryz.f8 [1, 1, 1, 1, 1, 1, 1, 1, 1, 1, 1, 1, 1, 0, 1, 0]) (trace_Put_P2 K) (fun i => @Bool.rec (fun _ => KE) ((fun _ _ _ => False) i) (trace_Put_P2 K) (Nat.beq i 2)) (retK Tryz.prog Tryz.f8.results.toList K)
theorem trace_Put_k {K : KV} {s0 : Value} {w : World}
    (h : box Tryz.prog 27 s0 (fun s1 w =>
    ld Tryz.prog 27 s1 (fun A6 w =>
    call Tryz.prog 9 #[A6] (fun A7 w =>
    un Tryz.prog UnOp.not A7 (fun A8 w =>
    cond A8
      (K (Value.slice none 0 0) w)
      (alc Tryz.prog 69 (fun p3 w =>
    fldA Tryz.prog 27 s1 0 (fun A9 w =>
    ld Tryz.prog 5 A9 (fun C0 w =>
    conv Tryz.prog 5 22 C0 (fun C1 w =>
    call Tryz.prog 26 #[p3, C1, (Value.int IntKind.i64 1)] (fun C2 w =>
    fldA Tryz.prog 27 s1 1 (fun C3 w =>
    ld Tryz.prog 3 C3 (fun C4 w =>
    fldA Tryz.prog 27 s1 4 (fun C5 w =>
    ld Tryz.prog 3 C5 (fun C6 w =>
    fldA Tryz.prog 27 s1 3 (fun C7 w =>
    ld Tryz.prog 3 C7 (fun C8 w =>
    bldS Tryz.prog 25 3 #[(0, C4), (1, C6), (2, C8)] (fun C9 w =>
    blt Tryz.prog Builtin.len #[25] 3 #[false] #[C9] (fun D0 w =>
    (cCode Tryz.prog (cd Tryz.f8 [1, 1, 1, 1, 0, 1, 0]) (cCode Tryz.prog (cd Tryz.f8 [1, 1, 1, 1, 1]) (retK Tryz.prog Tryz.f8.results.toList K) (fun _ _ _ => False) (retK Tryz.prog Tryz.f8.results.toList K)) (fun i => @Bool.rec (fun _ => KE) ((fun _ _ _ => False) i) (cCode Tryz.prog (cd Tryz.f8 [1, 1, 1, 1, 1]) (retK Tryz.prog Tryz.f8.results.toList K) (fun _ _ _ => False) (retK Tryz.prog Tryz.f8.results.toList K)) (Nat.beq i 0)) (retK Tryz.prog Tryz.f8.results.toList K)) (s0::s1::(Value.slice none 0 0)::p3::undef::undef::undef::undef::A6::A7::A8::A9::C0::C1::C2::C3::C4::C5::C6::C7::C8::C9::D0::(Value.int IntKind.i64 0)::undef::undef::undef::undef::undef::undef::undef::undef::undef::undef::undef::undef::undef::undef::undef::undef::undef::undef::undef::undef::undef::undef::undef::undef::undef::undef::undef::undef::undef::undef::undef::undef::undef::undef::undef::undef::undef::undef::undef::undef::undef::undef::undef::undef::undef::undef::undef::undef::undef::undef::undef::undef::undef::undef::undef::undef::undef::undef::undef::undef::[]) w) w) w) w) w) w) w) w) w) w) w) w) w) w)) w) w) w) w) :
    cCode Tryz.prog (cd Tryz.f8 []) (retK Tryz.prog Tryz.f8.results.toList K) (fun _ _ _ => False) (retK Tryz.prog Tryz.f8.results.toList K) (s0::undef::undef::undef::undef::undef::undef::undef::undef::undef::undef::undef::undef::undef::undef::undef::undef::undef::undef::undef::undef::undef::undef::undef::undef::undef::undef::undef::undef::undef::undef::undef::undef::undef::undef::undef::undef::undef::undef::undef::undef::undef::undef::undef::undef::undef::undef::undef::undef::undef::undef::undef::undef::undef::undef::undef::undef::undef::undef::undef::undef::undef::undef::undef::undef::undef::undef::undef::undef::undef::undef::undef::undef::undef::undef::undef::undef::undef::undef::undef::undef::undef::undef::undef::[]) w := Eq.mp (by kernel_rfl) h

theorem trace_Put_in {K : KV} {s0 : Value} {w : World}
    (h : box Tryz.prog 27 s0 (fun s1 w =>
    ld Tryz.prog 27 s1 (fun A6 w =>
    call Tryz.prog 9 #[A6] (fun A7 w =>
    un Tryz.prog UnOp.not A7 (fun A8 w =>
    cond A8
      (K (Value.slice none 0 0) w)
      (alc Tryz.prog 69 (fun p3 w =>
    fldA Tryz.prog 27 s1 0 (fun A9 w =>
    ld Tryz.prog 5 A9 (fun C0 w =>
    conv Tryz.prog 5 22 C0 (fun C1 w =>
    call Tryz.prog 26 #[p3, C1, (Value.int IntKind.i64 1)] (fun C2 w =>
    fldA Tryz.prog 27 s1 1 (fun C3 w =>
    ld Tryz.prog 3 C3 (fun C4 w =>
    fldA Tryz.prog 27 s1 4 (fun C5 w =>
    ld Tryz.prog 3 C5 (fun C6 w =>
    fldA Tryz.prog 27 s1 3 (fun C7 w =>
    ld Tryz.prog 3 C7 (fun C8 w =>
    bldS Tryz.prog 25 3 #[(0, C4), (1, C6), (2, C8)] (fun C9 w =>
    blt Tryz.prog Builtin.len #[25] 3 #[false] #[C9] (fun D0 w =>
    (trace_Put_L1 K) (s0::s1::(Value.slice none 0 0)::p3::undef::undef::undef::undef::A6::A7::A8::A9::C0::C1::C2::C3::C4::C5::C6::C7::C8::C9::D0::(Value.int IntKind.i64 0)::undef::undef::undef::undef::undef::undef::undef::undef::undef::undef::undef::undef::undef::undef::undef::undef::undef::undef::undef::undef::undef::undef::undef::undef::undef::undef::undef::undef::undef::undef::undef::undef::undef::undef::undef::undef::undef::undef::undef::undef::undef::undef::undef::undef::undef::undef::undef::undef::undef::undef::undef::undef::undef::undef::undef::undef::undef::undef::undef::undef::[]) w) w) w) w) w) w) w) w) w) w) w) w) w) w)) w) w) w) w) :
    Gives Tryz.prog 8 #[s0] w K := enter' Tryz.func8 (by kernel_rfl) (Eq.mp (congrArg (fun c => cCode Tryz.prog c (retK Tryz.prog Tryz.f8.results.toList K) (fun _ _ _ => False) (retK Tryz.prog Tryz.f8.results.toList K) (s0::undef::undef::undef::undef::undef::undef::undef::undef::undef::undef::undef::undef::undef::undef::undef::undef::undef::undef::undef::undef::undef::undef::undef::undef::undef::undef::undef::undef::undef::undef::undef::undef::undef::undef::undef::undef::undef::undef::undef::undef::undef::undef::undef::undef::undef::undef::undef::undef::undef::undef::undef::undef::undef::undef::undef::undef::undef::undef::undef::undef::undef::undef::undef::undef::undef::undef::undef::undef::undef::undef::undef::undef::undef::undef::undef::undef::undef::undef::undef::undef::undef::undef::undef::[]) w) (by kernel_rfl : (cd Tryz.f8 []) = (cd Tryz.f8 []))) (trace_Put_k h))
theorem trace_Put_go : isGo Tryz.prog 8 := ⟨_, Tryz.func8, by kernel_rfl, by kernel_rfl⟩

theorem trace_Put_L1_k {K : KV} (B1 : KE) (qc0 : KE) {s0 s1 A0 p3 A2 A4 x7 A6 A7 A8 A9 C0 C1 C2 C3 C4 C5 C6 C7 C8 C9 D0 D1' E0 E1 E2 E3 E4 E5 E6 E7 E8 E9 F0 F1 F2 F3 F4 F5 F6 F7 F8 F9 G0 G1 G2 G3 G4 G5 G6 G7 G8 G9 H0 H1 H2 H3 H4 H5 H6 H7 H8 H9 I0 I1 I2 I3 I4 I5 I6 I7 I8 I9 J0 J1 : Value} {dd : Nat → Value} {w : World}
    (h : bin Tryz.prog BinOp.lss 3 false false D1' D0 (fun D2 w =>
    cond D2
      (idxA Tryz.prog 25 C9 D1' (fun D3 w =>
    ld Tryz.prog 3 D3 (fun D4 w =>
    bin Tryz.prog BinOp.add 3 false true D4 (Value.int IntKind.i64 1) (fun D6 w =>
    conv Tryz.prog 3 22 D6 (fun D7 w =>
    call Tryz.prog 26 #[p3, D7, (Value.int IntKind.i64 2)] (fun D8 w =>
    bin Tryz.prog BinOp.add 3 false true D1' (Value.int IntKind.i64 1) (fun D9 w =>
    B1 (s0::s1::A0::p3::A2::D4::A4::x7::A6::A7::A8::A9::C0::C1::C2::C3::C4::C5::C6::C7::C8::C9::D0::D9::D2::D3::D4::D4::D6::D7::D8::D9::E0::E1::E2::E3::E4::E5::E6::E7::E8::E9::F0::F1::F2::F3::F4::F5::F6::F7::F8::F9::G0::G1::G2::G3::G4::G5::G6::G7::G8::G9::H0::H1::H2::H3::H4::H5::H6::H7::H8::H9::I0::I1::I2::I3::I4::I5::I6::I7::I8::I9::J0::J1::[]) w) w) w) w) w) w) w)
      (qc0 (s0::s1::A0::p3::A2::(dd 5)::A4::x7::A6::A7::A8::A9::C0::C1::C2::C3::C4::C5::C6::C7::C8::C9::D0::D1'::D2::(dd 25)::(dd 26)::(dd 27)::(dd 28)::(dd 29)::(dd 30)::(dd 31)::E0::E1::E2::E3::E4::E5::E6::E7::E8::E9::F0::F1::F2::F3::F4::F5::F6::F7::F8::F9::G0::G1::G2::G3::G4::G5::G6::G7::G8::G9::H0::H1::H2::H3::H4::H5::H6::H7::H8::H9::I0::I1::I2::I3::I4::I5::I6::I7::I8::I9::J0::J1::[]) w)) w) :
    cCode Tryz.prog (cd Tryz.f8 [1, 1, 1, 1, 0, 1, 0, 0]) B1 (fun i => @Bool.rec (fun _ => KE) ((fun _ _ _ => False) i) qc0 (Nat.beq i 0)) (retK Tryz.prog Tryz.f8.results.toList K) (s0::s1::A0::p3::A2::(dd 5)::A4::x7::A6::A7::A8::A9::C0::C1::C2::C3::C4::C5::C6::C7::C8::C9::D0::D1'::(dd 24)::(dd 25)::(dd 26)::(dd 27)::(dd 28)::(dd 29)::(dd 30)::(dd 31)::E0::E1::E2::E3::E4::E5::E6::E7::E8::E9::F0::F1::F2::F3::F4::F5::F6::F7::F8::F9::G0::G1::G2::G3::G4::G5::G6::G7::G8::G9::H0::H1::H2::H3::H4::H5::H6::H7::H8::H9::I0::I1::I2::I3::I4::I5::I6::I7::I8::I9::J0::J1::[]) w := Eq.mp (by kernel_rfl) h

section
variable {s0 s1 A0 p3 A2 x5 A4 x7 A6 A7 A8 A9 C0 C1 C2 C3 C4 C5 C6 C7 C8 C9 D0 D1 D2 D3 D4 D5 D6 D7 D8 D9 E0 E1 E2 E3 E4 E5 E6 E7 E8 E9 F0 F1 F2 F3 F4 F5 F6 F7 F8 F9 G0 G1 G2 G3 G4 G5 G6 G7 G8 G9 H0 H1 H2 H3 H4 H5 H6 H7 H8 H9 I0 I1 I2 I3 I4 I5 I6 I7 I8 I9 J0 J1 : Value}
theorem trace_Put_L1_r {K : KV} {w : World} (Inv : Value → World → Prop) (μ : Value → World → Nat) (h0 : Inv D1 w)
    (hs : ∀ (D1' : Value) (dd : Nat → Value) (w : World) (m : Nat), Inv D1' w → m = μ D1' w →
    bin Tryz.prog BinOp.lss 3 false false D1' D0 (fun D2 w =>
    cond D2
      (idxA Tryz.prog 25 C9 D1' (fun D3 w =>
    ld Tryz.prog 3 D3 (fun D4 w =>
    bin Tryz.prog BinOp.add 3 false true D4 (Value.int IntKind.i64 1) (fun D6 w =>
    conv Tryz.prog 3 22 D6 (fun D7 w =>
    call Tryz.prog 26 #[p3, D7, (Value.int IntKind.i64 2)] (fun D8 w =>
    bin Tryz.prog BinOp.add 3 false true D1' (Value.int IntKind.i64 1) (fun D9 w =>
    (Inv D9 w ∧ μ D9 w < m)) w) w) w) w) w) w)
      ((trace_Put_P1 K) (s0::s1::A0::p3::A2::(dd 5)::A4::x7::A6::A7::A8::A9::C0::C1::C2::C3::C4::C5::C6::C7::C8::C9::D0::D1'::D2::(dd 25)::(dd 26)::(dd 27)::(dd 28)::(dd 29)::(dd 30)::(dd 31)::E0::E1::E2::E3::E4::E5::E6::E7::E8::E9::F0::F1::F2::F3::F4::F5::F6::F7::F8::F9::G0::G1::G2::G3::G4::G5::G6::G7::G8::G9::H0::H1::H2::H3::H4::H5::H6::H7::H8::H9::I0::I1::I2::I3::I4::I5::I6::I7::I8::I9::J0::J1::[]) w)) w) :
    trace_Put_L1 K (s0::s1::A0::p3::A2::x5::A4::x7::A6::A7::A8::A9::C0::C1::C2::C3::C4::C5::C6::C7::C8::C9::D0::D1::D2::D3::D4::D5::D6::D7::D8::D9::E0::E1::E2::E3::E4::E5::E6::E7::E8::E9::F0::F1::F2::F3::F4::F5::F6::F7::F8::F9::G0::G1::G2::G3::G4::G5::G6::G7::G8::G9::H0::H1::H2::H3::H4::H5::H6::H7::H8::H9::I0::I1::I2::I3::I4::I5::I6::I7::I8::I9::J0::J1::[]) w := by
  refine loop_rule (cd Tryz.f8 [1, 1, 1, 1, 0, 1, 0, 0]) [5, 23, 24, 25, 26, 27, 28, 29, 30, 31] (by kernel_rfl) (fun e2 w2 => Inv (gd e2 23) w2) (fun e2 w2 => μ (gd e2 23) w2) h0 ?_
  intro e' w' hI
  have h := hs (gd e' 23) (fun i => gd e' i) w' _ hI rfl
  have h2 : cCode Tryz.prog (cd Tryz.f8 [1, 1, 1, 1, 0, 1, 0, 0]) (fun e2 w2 => Inv (gd e2 23) w2 ∧ μ (gd e2 23) w2 < μ (gd e' 23) w') (fun i => @Bool.rec (fun _ => KE) ((fun _ _ _ => False) i) (trace_Put_P1 K) (Nat.beq i 0)) (retK Tryz.prog Tryz.f8.results.toList K) (s0::s1::A0::p3::A2::(gd e' 5)::A4::x7::A6::A7::A8::A9::C0::C1::C2::C3::C4::C5::C6::C7::C8::C9::D0::(gd e' 23)::(gd e' 24)::(gd e' 25)::(gd e' 26)::(gd e' 27)::(gd e' 28)::(gd e' 29)::(gd e' 30)::(gd e' 31)::E0::E1::E2::E3::E4::E5::E6::E7::E8::E9::F0::F1::F2::F3::F4::F5::F6::F7::F8::F9::G0::G1::G2::G3::G4::G5::G6::G7::G8::G9::H0::H1::H2::H3::H4::H5::H6::H7::H8::H9::I0::I1::I2::I3::I4::I5::I6::I7::I8::I9::J0::J1::[]) w' := trace_Put_L1_k (fun e2 w2 => Inv (gd e2 23) w2 ∧ μ (gd e2 23) w2 < μ (gd e' 23) w') (trace_Put_P1 K) (Eq.mp (by kernel_rfl) h)
  exact Eq.mp (by kernel_rfl) h2

theorem trace_Put_P1_k {K : KV} (xc0 : Code) {w : World}
    (h : fldA Tryz.prog 27 s1 5 (fun E0 w =>
    ld Tryz.prog 3 E0 (fun E1 w =>
    bin Tryz.prog BinOp.add 3 false true E1 (Value.int IntKind.i64 1) (fun E2 w =>
    conv Tryz.prog 3 22 E2 (fun E3 w =>
    call Tryz.prog 26 #[p3, E3, (Value.int IntKind.i64 4)] (fun E4 w =>
    fldA Tryz.prog 27 s1 2 (fun E5 w =>
    fldA Tryz.prog 24 E5 0 (fun E6 w =>
    ld Tryz.prog 5 E6 (fun E7 w =>
    conv Tryz.prog 5 22 E7 (fun E8 w =>
    call Tryz.prog 26 #[p3, E8, (Value.int IntKind.i64 1)] (fun E9 w =>
    fldA Tryz.prog 27 s1 2 (fun F0 w =>
    fldA Tryz.prog 24 F0 1 (fun F1 w =>
    ld Tryz.prog 22 F1 (fun F2 w =>
    call Tryz.prog 26 #[p3, F2, (Value.int IntKind.i64 8)] (fun F3 w =>
    fldA Tryz.prog 27 s1 2 (fun F4 w =>
    fldA Tryz.prog 24 F4 2 (fun F5 w =>
    ld Tryz.prog 3 F5 (fun F6 w =>
    bin Tryz.prog BinOp.add 3 false true F6 (Value.int IntKind.i64 1) (fun F7 w =>
    conv Tryz.prog 3 22 F7 (fun F8 w =>
    call Tryz.prog 26 #[p3, F8, (Value.int IntKind.i64 2)] (fun F9 w =>
    fldA Tryz.prog 27 s1 2 (fun G0 w =>
    fldA Tryz.prog 24 G0 3 (fun G1 w =>
    ld Tryz.prog 2 G1 (fun G2 w =>
    bin Tryz.prog BinOp.add 2 false true G2 (Value.int IntKind.i64 1) (fun G3 w =>
    conv Tryz.prog 2 22 G3 (fun G4 w =>
    call Tryz.prog 26 #[p3, G4, (Value.int IntKind.i64 8)] (fun G5 w =>
    (cCode Tryz.prog xc0 (retK Tryz.prog Tryz.f8.results.toList K) (fun _ _ _ => False) (retK Tryz.prog Tryz.f8.results.toList K)) (s0::s1::A0::p3::A2::x5::A4::x7::A6::A7::A8::A9::C0::C1::C2::C3::C4::C5::C6::C7::C8::C9::D0::D1::D2::D3::D4::D5::D6::D7::D8::D9::E0::E1::E2::E3::E4::E5::E6::E7::E8::E9::F0::F1::F2::F3::F4::F5::F6::F7::F8::F9::G0::G1::G2::G3::G4::G5::G6::G7::G8::G9::H0::H1::H2::H3::H4::H5::H6::H7::H8::H9::I0::I1::I2::I3::I4::I5::I6::I7::I8::I9::J0::J1::[]) w) w) w) w) w) w) w) w) w) w) w) w) w) w) w) w) w) w) w) w) w) w) w) w) w) w) w) :
    cCode Tryz.prog (rep [1, 1, 1, 1, 1] xc0 (cd Tryz.f8 [1, 1, 1, 1, 1])) (retK Tryz.prog Tryz.f8.results.toList K) (fun _ _ _ => False) (retK Tryz.prog Tryz.f8.results.toList K) (s0::s1::A0::p3::A2::x5::A4::x7::A6::A7::A8::A9::C0::C1::C2::C3::C4::C5::C6::C7::C8::C9::D0::D1::D2::D3::D4::D5::D6::D7::D8::D9::E0::E1::E2::E3::E4::E5::E6::E7::E8::E9::F0::F1::F2::F3::F4::F5::F6::F7::F8::F9::G0::G1::G2::G3::G4::G5::G6::G7::G8::G9::H0::H1::H2::H3::H4::H5::H6::H7::H8::H9::I0::I1::I2::I3::I4::I5::I6::I7::I8::I9::J0::J1::[]) w := Eq.mp (by kernel_rfl) h

theorem trace_Put_P1_r {K : KV} {w : World}
    (h : fldA Tryz.prog 27 s1 5 (fun E0 w =>
    ld Tryz.prog 3 E0 (fun E1 w =>
    bin Tryz.prog BinOp.add 3 false true E1 (Value.int IntKind.i64 1) (fun E2 w =>
    conv Tryz.prog 3 22 E2 (fun E3 w =>
    call Tryz.prog 26 #[p3, E3, (Value.int IntKind.i64 4)] (fun E4 w =>
    fldA Tryz.prog 27 s1 2 (fun E5 w =>
    fldA Tryz.prog 24 E5 0 (fun E6 w =>
    ld Tryz.prog 5 E6 (fun E7 w =>
    conv Tryz.prog 5 22 E7 (fun E8 w =>
    call Tryz.prog 26 #[p3, E8, (Value.int IntKind.i64 1)] (fun E9 w =>
    fldA Tryz.prog 27 s1 2 (fun F0 w =>
    fldA Tryz.prog 24 F0 1 (fun F1 w =>
    ld Tryz.prog 22 F1 (fun F2 w =>
    call Tryz.prog 26 #[p3, F2, (Value.int IntKind.i64 8)] (fun F3 w =>
    fldA Tryz.prog 27 s1 2 (fun F4 w =>
    fldA Tryz.prog 24 F4 2 (fun F5 w =>
    ld Tryz.prog 3 F5 (fun F6 w =>
    bin Tryz.prog BinOp.add 3 false true F6 (Value.int IntKind.i64 1) (fun F7 w =>
    conv Tryz.prog 3 22 F7 (fun F8 w =>
    call Tryz.prog 26 #[p3, F8, (Value.int IntKind.i64 2)] (fun F9 w =>
    fldA Tryz.prog 27 s1 2 (fun G0 w =>
    fldA Tryz.prog 24 G0 3 (fun G1 w =>
    ld Tryz.prog 2 G1 (fun G2 w =>
    bin Tryz.prog BinOp.add 2 false true G2 (Value.int IntKind.i64 1) (fun G3 w =>
    conv Tryz.prog 2 22 G3 (fun G4 w =>
    call Tryz.prog 26 #[p3, G4, (Value.int IntKind.i64 8)] (fun G5 w =>
    (trace_Put_A1 K) (s0::s1::A0::p3::A2::x5::A4::x7::A6::A7::A8::A9::C0::C1::C2::C3::C4::C5::C6::C7::C8::C9::D0::D1::D2::D3::D4::D5::D6::D7::D8::D9::E0::E1::E2::E3::E4::E5::E6::E7::E8::E9::F0::F1::F2::F3::F4::F5::F6::F7::F8::F9::G0::G1::G2::G3::G4::G5::G6::G7::G8::G9::H0::H1::H2::H3::H4::H5::H6::H7::H8::H9::I0::I1::I2::I3::I4::I5::I6::I7::I8::I9::J0::J1::[]) w) w) w) w) w) w) w) w) w) w) w) w) w) w) w) w) w) w) w) w) w) w) w) w) w) w) w) :
    trace_Put_P1 K (s0::s1::A0::p3::A2::x5::A4::x7::A6::A7::A8::A9::C0::C1::C2::C3::C4::C5::C6::C7::C8::C9::D0::D1::D2::D3::D4::D5::D6::D7::D8::D9::E0::E1::E2::E3::E4::E5::E6::E7::E8::E9::F0::F1::F2::F3::F4::F5::F6::F7::F8::F9::G0::G1::G2::G3::G4::G5::G6::G7::G8::G9::H0::H1::H2::H3::H4::H5::H6::H7::H8::H9::I0::I1::I2::I3::I4::I5::I6::I7::I8::I9::J0::J1::[]) w := by
  delta trace_Put_P1
  exact Eq.mp (congrArg (fun c => cCode Tryz.prog c (retK Tryz.prog Tryz.f8.results.toList K) (fun _ _ _ => False) (retK Tryz.prog Tryz.f8.results.toList K) (s0::s1::A0::p3::A2::x5::A4::x7::A6::A7::A8::A9::C0::C1::C2::C3::C4::C5::C6::C7::C8::C9::D0::D1::D2::D3::D4::D5::D6::D7::D8::D9::E0::E1::E2::E3::E4::E5::E6::E7::E8::E9::F0::F1::F2::F3::F4::F5::F6::F7::F8::F9::G0::G1::G2::G3::G4::G5::G6::G7::G8::G9::H0::H1::H2::H3::H4::H5::H6::H7::H8::H9::I0::I1::I2::I3::I4::I5::I6::I7::I8::I9::J0::J1::[]) w) (by kernel_rfl : (rep [1, 1, 1, 1, 1] (cd Tryz.f8 [1, 1, 1, 1, 1, 1, 1, 1, 1, 1]) (cd Tryz.f8 [1, 1, 1, 1, 1])) = (cd Tryz.f8 [1, 1, 1, 1, 1]))) (trace_Put_P1_k (cd Tryz.f8 [1, 1, 1, 1, 1, 1, 1, 1, 1, 1]) h)

theorem trace_Put_A1_k {K : KV} {w : World}
    (h : fldA Tryz.prog 27 s1 2 (fun G6 w =>
    fldA Tryz.prog 24 G6 4 (fun G7 w =>
    ld Tryz.prog 22 G7 (fun G8 w =>
    call Tryz.prog 26 #[p3, G8, (Value.int IntKind.i64 8)] (fun G9 w =>
    fldA Tryz.prog 27 s1 2 (fun H0 w =>
    fldA Tryz.prog 24 H0 5 (fun H1 w =>
    ld Tryz.prog 22 H1 (fun H2 w =>
    call Tryz.prog 26 #[p3, H2, (Value.int IntKind.i64 8)] (fun H3 w =>
    fldA Tryz.prog 27 s1 6 (fun H4 w =>
    ld Tryz.prog 25 H4 (fun H5 w =>
    blt Tryz.prog Builtin.len #[25] 3 #[false] #[H5] (fun H6 w =>
    conv Tryz.prog 3 22 H6 (fun H7 w =>
    call Tryz.prog 26 #[p3, H7, (Value.int IntKind.i64 1)] (fun H8 w =>
    fldA Tryz.prog 27 s1 6 (fun H9 w =>
    ld Tryz.prog 25 H9 (fun I0 w =>
    blt Tryz.prog Builtin.len #[25] 3 #[false] #[I0] (fun I1 w =>
    (cCode Tryz.prog (cd Tryz.f8 [1, 1, 1, 1, 1, 1, 1, 1, 1, 1, 1, 1, 1, 0, 1, 0]) (cCode Tryz.prog (cd Tryz.f8 [1, 1, 1, 1, 1, 1, 1, 1, 1, 1, 1, 1, 1, 1]) (retK Tryz.prog Tryz.f8.results.toList K) (fun _ _ _ => False) (retK Tryz.prog Tryz.f8.results.toList K)) (fun i => @Bool.rec (fun _ => KE) ((fun _ _ _ => False) i) (cCode Tryz.prog (cd Tryz.f8 [1, 1, 1, 1, 1, 1, 1, 1, 1, 1, 1, 1, 1, 1]) (retK Tryz.prog Tryz.f8.results.toList K) (fun _ _ _ => False) (retK Tryz.prog Tryz.f8.results.toList K)) (Nat.beq i 2)) (retK Tryz.prog Tryz.f8.results.toList K)) (s0::s1::A0::p3::A2::x5::A4::x7::A6::A7::A8::A9::C0::C1::C2::C3::C4::C5::C6::C7::C8::C9::D0::D1::D2::D3::D4::D5::D6::D7::D8::D9::E0::E1::E2::E3::E4::E5::E6::E7::E8::E9::F0::F1::F2::F3::F4::F5::F6::F7::F8::F9::G0::G1::G2::G3::G4::G5::G6::G7::G8::G9::H0::H1::H2::H3::H4::H5::H6::H7::H8::H9::I0::I1::(Value.int IntKind.i64 0)::I3::I4::I5::I6::I7::I8::I9::J0::J1::[]) w) w) w) w) w) w) w) w) w) w) w) w) w) w) w) w) w) :
    cCode Tryz.prog (cd Tryz.f8 [1, 1, 1, 1, 1, 1, 1, 1, 1, 1]) (retK Tryz.prog Tryz.f8.results.toList K) (fun _ _ _ => False) (retK Tryz.prog Tryz.f8.results.toList K) (s0::s1::A0::p3::A2::x5::A4::x7::A6::A7::A8::A9::C0::C1::C2::C3::C4::C5::C6::C7::C8::C9::D0::D1::D2::D3::D4::D5::D6::D7::D8::D9::E0::E1::E2::E3::E4::E5::E6::E7::E8::E9::F0::F1::F2::F3::F4::F5::F6::F7::F8::F9::G0::G1::G2::G3::G4::G5::G6::G7::G8::G9::H0::H1::H2::H3::H4::H5::H6::H7::H8::H9::I0::I1::I2::I3::I4::I5::I6::I7::I8::I9::J0::J1::[]) w := Eq.mp (by kernel_rfl) h

theorem trace_Put_A1_r {K : KV} {w : World}
    (h : fldA Tryz.prog 27 s1 2 (fun G6 w =>
    fldA Tryz.prog 24 G6 4 (fun G7 w =>
    ld Tryz.prog 22 G7 (fun G8 w =>
    call Tryz.prog 26 #[p3, G8, (Value.int IntKind.i64 8)] (fun G9 w =>
    fldA Tryz.prog 27 s1 2 (fun H0 w =>
    fldA Tryz.prog 24 H0 5 (fun H1 w =>
    ld Tryz.prog 22 H1 (fun H2 w =>
    call Tryz.prog 26 #[p3, H2, (Value.int IntKind.i64 8)] (fun H3 w =>
    fldA Tryz.prog 27 s1 6 (fun H4 w =>
    ld Tryz.prog 25 H4 (fun H5 w =>
    blt Tryz.prog Builtin.len #[25] 3 #[false] #[H5] (fun H6 w =>
    conv Tryz.prog 3 22 H6 (fun H7 w =>
    call Tryz.prog 26 #[p3, H7, (Value.int IntKind.i64 1)] (fun H8 w =>
    fldA Tryz.prog 27 s1 6 (fun H9 w =>
    ld Tryz.prog 25 H9 (fun I0 w =>
    blt Tryz.prog Builtin.len #[25] 3 #[false] #[I0] (fun I1 w =>
    (trace_Put_L2 K) (s0::s1::A0::p3::A2::x5::A4::x7::A6::A7::A8::A9::C0::C1::C2::C3::C4::C5::C6::C7::C8::C9::D0::D1::D2::D3::D4::D5::D6::D7::D8::D9::E0::E1::E2::E3::E4::E5::E6::E7::E8::E9::F0::F1::F2::F3::F4::F5::F6::F7::F8::F9::G0::G1::G2::G3::G4::G5::G6::G7::G8::G9::H0::H1::H2::H3::H4::H5::H6::H7::H8::H9::I0::I1::(Value.int IntKind.i64 0)::I3::I4::I5::I6::I7::I8::I9::J0::J1::[]) w) w) w) w) w) w) w) w) w) w) w) w) w) w) w) w) w) :
    trace_Put_A1 K (s0::s1::A0::p3::A2::x5::A4::x7::A6::A7::A8::A9::C0::C1::C2::C3::C4::C5::C6::C7::C8::C9::D0::D1::D2::D3::D4::D5::D6::D7::D8::D9::E0::E1::E2::E3::E4::E5::E6::E7::E8::E9::F0::F1::F2::F3::F4::F5::F6::F7::F8::F9::G0::G1::G2::G3::G4::G5::G6::G7::G8::G9::H0::H1::H2::H3::H4::H5::H6::H7::H8::H9::I0::I1::I2::I3::I4::I5::I6::I7::I8::I9::J0::J1::[]) w := by
  delta trace_Put_A1
  exact Eq.mp (congrArg (fun c => cCode Tryz.prog c (retK Tryz.prog Tryz.f8.results.toList K) (fun _ _ _ => False) (retK Tryz.prog Tryz.f8.results.toList K) (s0::s1::A0::p3::A2::x5::A4::x7::A6::A7::A8::A9::C0::C1::C2::C3::C4::C5::C6::C7::C8::C9::D0::D1::D2::D3::D4::D5::D6::D7::D8::D9::E0::E1::E2::E3::E4::E5::E6::E7::E8::E9::F0::F1::F2::F3::F4::F5::F6::F7::F8::F9::G0::G1::G2::G3::G4::G5::G6::G7::G8::G9::H0::H1::H2::H3::H4::H5::H6::H7::H8::H9::I0::I1::I2::I3::I4::I5::I6::I7::I8::I9::J0::J1::[]) w) (by kernel_rfl : (cd Tryz.f8 [1, 1, 1, 1, 1, 1, 1, 1, 1, 1]) = (cd Tryz.f8 [1, 1, 1, 1, 1, 1, 1, 1, 1, 1]))) (trace_Put_A1_k h)

end
theorem trace_Put_L2_k {K : KV} (B1 : KE) (qc0 : KE) {s0 s1 A0 p3 A2 x5 A4 A6 A7 A8 A9 C0 C1 C2 C3 C4 C5 C6 C7 C8 C9 D0 D1 D2 D3 D4 D5 D6 D7 D8 D9 E0 E1 E2 E3 E4 E5 E6 E7 E8 E9 F0 F1 F2 F3 F4 F5 F6 F7 F8 F9 G0 G1 G2 G3 G4 G5 G6 G7 G8 G9 H0 H1 H2 H3 H4 H5 H6 H7 H8 H9 I0 I1 I2' J1 : Value} {dd : Nat → Value} {w : World}
    (h : bin Tryz.prog BinOp.lss 3 false false I2' I1 (fun I3 w =>
    cond I3
      (idxA Tryz.prog 25 I0 I2' (fun I4 w =>
    ld Tryz.prog 3 I4 (fun I5 w =>
    bin Tryz.prog BinOp.add 3 false true I5 (Value.int IntKind.i64 1) (fun I7 w =>
    conv Tryz.prog 3 22 I7 (fun I8 w =>
    call Tryz.prog 26 #[p3, I8, (Value.int IntKind.i64 1)] (fun I9 w =>
    bin Tryz.prog BinOp.add 3 false true I2' (Value.int IntKind.i64 1) (fun J0 w =>
    B1 (s0::s1::A0::p3::A2::x5::A4::I5::A6::A7::A8::A9::C0::C1::C2::C3::C4::C5::C6::C7::C8::C9::D0::D1::D2::D3::D4::D5::D6::D7::D8::D9::E0::E1::E2::E3::E4::E5::E6::E7::E8::E9::F0::F1::F2::F3::F4::F5::F6::F7::F8::F9::G0::G1::G2::G3::G4::G5::G6::G7::G8::G9::H0::H1::H2::H3::H4::H5::H6::H7::H8::H9::I0::I1::J0::I3::I4::I5::I5::I7::I8::I9::J0::J1::[]) w) w) w) w) w) w) w)
      (qc0 (s0::s1::A0::p3::A2::x5::A4::(dd 7)::A6::A7::A8::A9::C0::C1::C2::C3::C4::C5::C6::C7::C8::C9::D0::D1::D2::D3::D4::D5::D6::D7::D8::D9::E0::E1::E2::E3::E4::E5::E6::E7::E8::E9::F0::F1::F2::F3::F4::F5::F6::F7::F8::F9::G0::G1::G2::G3::G4::G5::G6::G7::G8::G9::H0::H1::H2::H3::H4::H5::H6::H7::H8::H9::I0::I1::I2'::I3::(dd 76)::(dd 77)::(dd 78)::(dd 79)::(dd 80)::(dd 81)::(dd 82)::J1::[]) w)) w) :
    cCode Tryz.prog (cd Tryz.f8 [1, 1, 1, 1, 1, 1, 1, 1, 1, 1, 1, 1, 1, 0, 1, 0, 0]) B1 (fun i => @Bool.rec (fun _ => KE) ((fun _ _ _ => False) i) qc0 (Nat.beq i 2)) (retK Tryz.prog Tryz.f8.results.toList K) (s0::s1::A0::p3::A2::x5::A4::(dd 7)::A6::A7::A8::A9::C0::C1::C2::C3::C4::C5::C6::C7::C8::C9::D0::D1::D2::D3::D4::D5::D6::D7::D8::D9::E0::E1::E2::E3::E4::E5::E6::E7::E8::E9::F0::F1::F2::F3::F4::F5::F6::F7::F8::F9::G0::G1::G2::G3::G4::G5::G6::G7::G8::G9::H0::H1::H2::H3::H4::H5::H6::H7::H8::H9::I0::I1::I2'::(dd 75)::(dd 76)::(dd 77)::(dd 78)::(dd 79)::(dd 80)::(dd 81)::(dd 82)::J1::[]) w := Eq.mp (by kernel_rfl) h

section
variable {s0 s1 A0 p3 A2 x5 A4 x7 A6 A7 A8 A9 C0 C1 C2 C3 C4 C5 C6 C7 C8 C9 D0 D1 D2 D3 D4 D5 D6 D7 D8 D9 E0 E1 E2 E3 E4 E5 E6 E7 E8 E9 F0 F1 F2 F3 F4 F5 F6 F7 F8 F9 G0 G1 G2 G3 G4 G5 G6 G7 G8 G9 H0 H1 H2 H3 H4 H5 H6 H7 H8 H9 I0 I1 I2 I3 I4 I5 I6 I7 I8 I9 J0 J1 : Value}
theorem trace_Put_L2_r {K : KV} {w : World} (Inv : Value → World → Prop) (μ : Value → World → Nat) (h0 : Inv I2 w)
    (hs : ∀ (I2' : Value) (dd : Nat → Value) (w : World) (m : Nat), Inv I2' w → m = μ I2' w →
    bin Tryz.prog BinOp.lss 3 false false I2' I1 (fun I3 w =>
    cond I3
      (idxA Tryz.prog 25 I0 I2' (fun I4 w =>
    ld Tryz.prog 3 I4 (fun I5 w =>
    bin Tryz.prog BinOp.add 3 false true I5 (Value.int IntKind.i64 1) (fun I7 w =>
    conv Tryz.prog 3 22 I7 (fun I8 w =>
    call Tryz.prog 26 #[p3, I8, (Value.int IntKind.i64 1)] (fun I9 w =>
    bin Tryz.prog BinOp.add 3 false true I2' (Value.int IntKind.i64 1) (fun J0 w =>
    (Inv J0 w ∧ μ J0 w < m)) w) w) w) w) w) w)
      ((trace_Put_P2 K) (s0::s1::A0::p3::A2::x5::A4::(dd 7)::A6::A7::A8::A9::C0::C1::C2::C3::C4::C5::C6::C7::C8::C9::D0::D1::D2::D3::D4::D5::D6::D7::D8::D9::E0::E1::E2::E3::E4::E5::E6::E7::E8::E9::F0::F1::F2::F3::F4::F5::F6::F7::F8::F9::G0::G1::G2::G3::G4::G5::G6::G7::G8::G9::H0::H1::H2::H3::H4::H5::H6::H7::H8::H9::I0::I1::I2'::I3::(dd 76)::(dd 77)::(dd 78)::(dd 79)::(dd 80)::(dd 81)::(dd 82)::J1::[]) w)) w) :
    trace_Put_L2 K (s0::s1::A0::p3::A2::x5::A4::x7::A6::A7::A8::A9::C0::C1::C2::C3::C4::C5::C6::C7::C8::C9::D0::D1::D2::D3::D4::D5::D6::D7::D8::D9::E0::E1::E2::E3::E4::E5::E6::E7::E8::E9::F0::F1::F2::F3::F4::F5::F6::F7::F8::F9::G0::G1::G2::G3::G4::G5::G6::G7::G8::G9::H0::H1::H2::H3::H4::H5::H6::H7::H8::H9::I0::I1::I2::I3::I4::I5::I6::I7::I8::I9::J0::J1::[]) w := by
  refine loop_rule (cd Tryz.f8 [1, 1, 1, 1, 1, 1, 1, 1, 1, 1, 1, 1, 1, 0, 1, 0, 0]) [7, 74, 75, 76, 77, 78, 79, 80, 81, 82] (by kernel_rfl) (fun e2 w2 => Inv (gd e2 74) w2) (fun e2 w2 => μ (gd e2 74) w2) h0 ?_
  intro e' w' hI
  have h := hs (gd e' 74) (fun i => gd e' i) w' _ hI rfl
  have h2 : cCode Tryz.prog (cd Tryz.f8 [1, 1, 1, 1, 1, 1, 1, 1, 1, 1, 1, 1, 1, 0, 1, 0, 0]) (fun e2 w2 => Inv (gd e2 74) w2 ∧ μ (gd e2 74) w2 < μ (gd e' 74) w') (fun i => @Bool.rec (fun _ => KE) ((fun _ _ _ => False) i) (trace_Put_P2 K) (Nat.beq i 2)) (retK Tryz.prog Tryz.f8.results.toList K) (s0::s1::A0::p3::A2::x5::A4::(gd e' 7)::A6::A7::A8::A9::C0::C1::C2::C3::C4::C5::C6::C7::C8::C9::D0::D1::D2::D3::D4::D5::D6::D7::D8::D9::E0::E1::E2::E3::E4::E5::E6::E7::E8::E9::F0::F1::F2::F3::F4::F5::F6::F7::F8::F9::G0::G1::G2::G3::G4::G5::G6::G7::G8::G9::H0::H1::H2::H3::H4::H5::H6::H7::H8::H9::I0::I1::(gd e' 74)::(gd e' 75)::(gd e' 76)::(gd e' 77)::(gd e' 78)::(gd e' 79)::(gd e' 80)::(gd e' 81)::(gd e' 82)::J1::[]) w' := trace_Put_L2_k (fun e2 w2 => Inv (gd e2 74) w2 ∧ μ (gd e2 74) w2 < μ (gd e' 74) w') (trace_Put_P2 K) (Eq.mp (by kernel_rfl) h)
  exact Eq.mp (by kernel_rfl) h2

theorem trace_Put_P2_k {K : KV} {w : World}
    (h : ld Tryz.prog 69 p3 (fun J1 w =>
    K J1 w) w) :
    cCode Tryz.prog (cd Tryz.f8 [1, 1, 1, 1, 1, 1, 1, 1, 1, 1, 1, 1, 1, 1]) (retK Tryz.prog Tryz.f8.results.toList K) (fun _ _ _ => False) (retK Tryz.prog Tryz.f8.results.toList K) (s0::s1::A0::p3::A2::x5::A4::x7::A6::A7::A8::A9::C0::C1::C2::C3::C4::C5::C6::C7::C8::C9::D0::D1::D2::D3::D4::D5::D6::D7::D8::D9::E0::E1::E2::E3::E4::E5::E6::E7::E8::E9::F0::F1::F2::F3::F4::F5::F6::F7::F8::F9::G0::G1::G2::G3::G4::G5::G6::G7::G8::G9::H0::H1::H2::H3::H4::H5::H6::H7::H8::H9::I0::I1::I2::I3::I4::I5::I6::I7::I8::I9::J0::J1::[]) w := Eq.mp (by kernel_rfl) h

theorem trace_Put_P2_r {K : KV} {w : World}
    (h : ld Tryz.prog 69 p3 (fun J1 w =>
    K J1 w) w) :
    trace_Put_P2 K (s0::s1::A0::p3::A2::x5::A4::x7::A6::A7::A8::A9::C0::C1::C2::C3::C4::C5::C6::C7::C8::C9::D0::D1::D2::D3::D4::D5::D6::D7::D8::D9::E0::E1::E2::E3::E4::E5::E6::E7::E8::E9::F0::F1::F2::F3::F4::F5::F6::F7::F8::F9::G0::G1::G2::G3::G4::G5::G6::G7::G8::G9::H0::H1::H2::H3::H4::H5::H6::H7::H8::H9::I0::I1::I2::I3::I4::I5::I6::I7::I8::I9::J0::J1::[]) w := by
  delta trace_Put_P2
  exact Eq.mp (congrArg (fun c => cCode Tryz.prog c (retK Tryz.prog Tryz.f8.results.toList K) (fun _ _ _ => False) (retK Tryz.prog Tryz.f8.results.toList K) (s0::s1::A0::p3::A2::x5::A4::x7::A6::A7::A8::A9::C0::C1::C2::C3::C4::C5::C6::C7::C8::C9::D0::D1::D2::D3::D4::D5::D6::D7::D8::D9::E0::E1::E2::E3::E4::E5::E6::E7::E8::E9::F0::F1::F2::F3::F4::F5::F6::F7::F8::F9::G0::G1::G2::G3::G4::G5::G6::G7::G8::G9::H0::H1::H2::H3::H4::H5::H6::H7::H8::H9::I0::I1::I2::I3::I4::I5::I6::I7::I8::I9::J0::J1::[]) w) (by kernel_rfl : (cd Tryz.f8 [1, 1, 1, 1, 1, 1, 1, 1, 1, 1, 1, 1, 1, 1]) = (cd Tryz.f8 [1, 1, 1, 1, 1, 1, 1, 1, 1, 1, 1, 1, 1, 1]))) (trace_Put_P2_k h)
attribute [irreducible] trace_Put_P1 trace_Put_L1 trace_Put_A1 trace_Put_P2 trace_Put_L2


end
theorem trace_eye_get_k {K : KV} {y0 size1 : Value} {w : World}
    (h : hReg (fun S w =>
    hld S (fun k w => nilC y0 k w) (fun A8 =>
    hld S (fun k w => fldA Tryz.prog 75 A8 0 k w) (fun A9 =>
    hld S (fun k w => ld Tryz.prog 28 A9 k w) (fun C0 =>
    hld S (fun k w => nilC y0 k w) (fun C2 =>
    hld S (fun k w => fldA Tryz.prog 75 C2 1 k w) (fun C3 =>
    hld S (fun k w => ld Tryz.prog 3 C3 k w) (fun C4 =>
    call Tryz.prog 45 #[C0, C4, size1] (fun C6 w =>
    hReg (fun S w =>
    hld S (fun k w => ext Tryz.prog C6 0 k w) (fun C7 =>
    hld S (fun k w => ext Tryz.prog C6 1 k w) (fun C8 =>
    hld S (fun k w => ext Tryz.prog C6 2 k w) (fun C9 =>
    nilC y0 (fun D1 w =>
    fldA Tryz.prog 75 D1 2 (fun D2 w =>
    ld Tryz.prog 4 D2 (fun D3 w =>
    gsel D3 false (fun k27 =>
    bin Tryz.prog BinOp.neq 34 false true C9 (Value.int IntKind.i64 0) (fun D6 w =>
    k27 [C9, D6] w) w)
    (fun k => k [undef, undef] w) (fun us27 w =>
    pick D3 (Value.bool true) (gd us27 1) (fun D7 w =>
    cond D7
      (nilC y0 (fun D9 w =>
      fldA Tryz.prog 75 D9 2 (fun E0 w =>
      sto Tryz.prog 4 E0 (Value.bool true) (fun _t w =>
      K (Value.int IntKind.u64 0) w) w) w) w)
      (nilC y0 (fun E3 w =>
    fldA Tryz.prog 75 E3 1 (fun E4 w =>
    sto Tryz.prog 3 E4 C8 (fun _t w =>
    K C7 w) w) w) w)) w)) w) w) w)))) w) w))))))) w.drew) :
    cCode Tryz.prog (cd Tryz.f29 []) (retK Tryz.prog Tryz.f29.results.toList K) (fun _ _ _ => False) (retK Tryz.prog Tryz.f29.results.toList K) [y0, size1, undef, undef, undef, undef, undef, undef, undef, undef, undef, undef, undef, undef, undef, undef, undef, undef, undef, undef, undef, undef, undef, undef, undef, undef, undef, undef, undef, undef, undef, undef, undef, undef, undef, undef, undef, undef] w := Eq.mp (by kernel_rfl) h

theorem trace_eye_get_in {K : KV} {y0 size1 : Value} {w : World}
    (h : hReg (fun S w =>
    hld S (fun k w => nilC y0 k w) (fun A8 =>
    hld S (fun k w => fldA Tryz.prog 75 A8 0 k w) (fun A9 =>
    hld S (fun k w => ld Tryz.prog 28 A9 k w) (fun C0 =>
    hld S (fun k w => nilC y0 k w) (fun C2 =>
    hld S (fun k w => fldA Tryz.prog 75 C2 1 k w) (fun C3 =>
    hld S (fun k w => ld Tryz.prog 3 C3 k w) (fun C4 =>
    call Tryz.prog 45 #[C0, C4, size1] (fun C6 w =>
    hReg (fun S w =>
    hld S (fun k w => ext Tryz.prog C6 0 k w) (fun C7 =>
    hld S (fun k w => ext Tryz.prog C6 1 k w) (fun C8 =>
    hld S (fun k w => ext Tryz.prog C6 2 k w) (fun C9 =>
    nilC y0 (fun D1 w =>
    fldA Tryz.prog 75 D1 2 (fun D2 w =>
    ld Tryz.prog 4 D2 (fun D3 w =>
    gsel D3 false (fun k27 =>
    bin Tryz.prog BinOp.neq 34 false true C9 (Value.int IntKind.i64 0) (fun D6 w =>
    k27 [C9, D6] w) w)
    (fun k => k [undef, undef] w) (fun us27 w =>
    pick D3 (Value.bool true) (gd us27 1) (fun D7 w =>
    cond D7
      (nilC y0 (fun D9 w =>
      fldA Tryz.prog 75 D9 2 (fun E0 w =>
      sto Tryz.prog 4 E0 (Value.bool true) (fun _t w =>
      K (Value.int IntKind.u64 0) w) w) w) w)
      (nilC y0 (fun E3 w =>
    fldA Tryz.prog 75 E3 1 (fun E4 w =>
    sto Tryz.prog 3 E4 C8 (fun _t w =>
    K C7 w) w) w) w)) w)) w) w) w)))) w) w))))))) w.drew) :
    Gives Tryz.prog 29 #[y0, size1] w K := enter' Tryz.func29 (by kernel_rfl) (Eq.mp (congrArg (fun c => cCode Tryz.prog c (retK Tryz.prog Tryz.f29.results.toList K) (fun _ _ _ => False) (retK Tryz.prog Tryz.f29.results.toList K) [y0, size1, undef, undef, undef, undef, undef, undef, undef, undef, undef, undef, undef, undef, undef, undef, undef, undef, undef, undef, undef, undef, undef, undef, undef, undef, undef, undef, undef, undef, undef, undef, undef, undef, undef, undef, undef, undef] w) (by kernel_rfl : (cd Tryz.f29 []) = (cd Tryz.f29 []))) (trace_eye_get_k h))
theorem trace_eye_get_go : isGo Tryz.prog 29 := ⟨_, Tryz.func29, by kernel_rfl, by kernel_rfl⟩


theorem trace_eye_less_k {K : KV} {y0 size1 : Value} {w : World}
    (h : call Tryz.prog 29 #[y0, size1] (fun A5 w =>
    conv Tryz.prog 22 3 A5 (fun A6 w =>
    bin Tryz.prog BinOp.sub 3 false true A6 (Value.int IntKind.i64 1) (fun A7 w =>
    K A7 w) w) w) w) :
    cCode Tryz.prog (cd Tryz.f30 []) (retK Tryz.prog Tryz.f30.results.toList K) (fun _ _ _ => False) (retK Tryz.prog Tryz.f30.results.toList K) [y0, size1, undef, undef, undef, undef, undef, undef, undef, undef] w := Eq.mp (by kernel_rfl) h

theorem trace_eye_less_in {K : KV} {y0 size1 : Value} {w : World}
    (h : call Tryz.prog 29 #[y0, size1] (fun A5 w =>
    conv Tryz.prog 22 3 A5 (fun A6 w =>
    bin Tryz.prog BinOp.sub 3 false true A6 (Value.int IntKind.i64 1) (fun A7 w =>
    K A7 w) w) w) w) :
    Gives Tryz.prog 30 #[y0, size1] w K := enter' Tryz.func30 (by kernel_rfl) (Eq.mp (congrArg (fun c => cCode Tryz.prog c (retK Tryz.prog Tryz.f30.results.toList K) (fun _ _ _ => False) (retK Tryz.prog Tryz.f30.results.toList K) [y0, size1, undef, undef, undef, undef, undef, undef, undef, undef] w) (by kernel_rfl : (cd Tryz.f30 []) = (cd Tryz.f30 []))) (trace_eye_less_k h))
theorem trace_eye_less_go : isGo Tryz.prog 30 := ⟨_, Tryz.func30, by kernel_rfl, by kernel_rfl⟩

def trace_Get_A1 (K : KV) : KE := cCode Tryz.prog (cd Tryz.f12 [1, 1, 1, 1, 1]) (retK Tryz.prog Tryz.f12.results.toList K) (fun _ _ _ => False) (retK Tryz.prog Tryz.f12.results.toList K)
def trace_Get_A2 (K : KV) : KE := cCode Tryz.prog (cd Tryz.f12 [1, 1, 1, 1, 1, 1, 1, 1]) (retK Tryz.prog Tryz.f12.results.toList K) (fun _ _ _ => False) (retK Tryz.prog Tryz.f12.results.toList K)
def trace_Get_P1 (K : KV) : KE := cCode Tryz.prog (cd Tryz.f12 [1, 1, 1, 1, 1, 1, 1, 1, 1]) (retK Tryz.prog Tryz.f12.results.toList K) (fun _ _ _ => False) (retK Tryz.prog Tryz.f12.results.toList K)
def trace_Get_L1 (K : KV) : KE := cCode Tryz.prog (cd Tryz.f12 [1, 1, 1, 1, 1, 1, 1, 1, 0, 1, 0]) (trace_Get_P1 K) (fun i => @Bool.rec (fun _ => KE) ((fun _ _ _ => False) i) (trace_Get_P1 K) (Nat.beq i 0)) (retK Tryz.prog Tryz.f12.results.toList K)
theorem trace_Get_k {K : KV} (xc0 : Code) {b0 : Value} {w : World}
    (h : alc Tryz.prog 27 (fun A0 w =>
    bld Tryz.prog 75 #[(0, b0)] (fun A6 w =>
    box Tryz.prog 75 A6 (fun A7 w =>
    alc Tryz.prog 27 (fun s5 w =>
    call Tryz.prog 29 #[A7, (Value.int IntKind.i64 1)] (fun A9 w =>
    conv Tryz.prog 22 5 A9 (fun C0 w =>
    fldA Tryz.prog 27 s5 0 (fun C1 w =>
    sto Tryz.prog 5 C1 C0 (fun _t w =>
    call Tryz.prog 30 #[A7, (Value.int IntKind.i64 2)] (fun C3 w =>
    call Tryz.prog 30 #[A7, (Value.int IntKind.i64 2)] (fun C5 w =>
    call Tryz.prog 30 #[A7, (Value.int IntKind.i64 2)] (fun C7 w =>
    call Tryz.prog 30 #[A7, (Value.int IntKind.i64 4)] (fun C9 w =>
    fldA Tryz.prog 27 s5 1 (fun D0 w =>
    sto Tryz.prog 3 D0 C3 (fun _t w =>
    fldA Tryz.prog 27 s5 4 (fun D1 w =>
    sto Tryz.prog 3 D1 C5 (fun _t w =>
    fldA Tryz.prog 27 s5 3 (fun D2 w =>
    sto Tryz.prog 3 D2 C7 (fun _t w =>
    fldA Tryz.prog 27 s5 5 (fun D3 w =>
    sto Tryz.prog 3 D3 C9 (fun _t w =>
    (cCode Tryz.prog xc0 (retK Tryz.prog Tryz.f12.results.toList K) (fun _ _ _ => False) (retK Tryz.prog Tryz.f12.results.toList K)) (b0::undef::A0::(Value.int IntKind.i64 0)::A7::s5::undef::b0::A6::A7::A7::A9::C0::C1::A7::C3::A7::C5::A7::C7::A7::C9::D0::D1::D2::D3::undef::undef::undef::undef::undef::undef::undef::undef::undef::undef::undef::undef::undef::undef::undef::undef::undef::undef::undef::undef::undef::undef::undef::undef::undef::undef::undef::undef::undef::undef::undef::undef::undef::undef::undef::undef::undef::undef::undef::undef::undef::undef::undef::undef::undef::undef::undef::undef::undef::undef::undef::undef::undef::undef::undef::undef::undef::undef::undef::undef::undef::undef::undef::undef::undef::undef::undef::[]) w) w) w) w) w) w) w) w) w) w) w) w) w) w) w) w) w) w) w) w) w) :
    cCode Tryz.prog (rep [1, 1, 1, 1, 1] xc0 (cd Tryz.f12 [])) (retK Tryz.prog Tryz.f12.results.toList K) (fun _ _ _ => False) (retK Tryz.prog Tryz.f12.results.toList K) (b0::undef::undef::undef::undef::undef::undef::undef::undef::undef::undef::undef::undef::undef::undef::undef::undef::undef::undef::undef::undef::undef::undef::undef::undef::undef::undef::undef::undef::undef::undef::undef::undef::undef::undef::undef::undef::undef::undef::undef::undef::undef::undef::undef::undef::undef::undef::undef::undef::undef::undef::undef::undef::undef::undef::undef::undef::undef::undef::undef::undef::undef::undef::undef::undef::undef::undef::undef::undef::undef::undef::undef::undef::undef::undef::undef::undef::undef::undef::undef::undef::undef::undef::undef::undef::undef::undef::undef::undef::undef::undef::undef::undef::[]) w := Eq.mp (by kernel_rfl) h

theorem trace_Get_in {K : KV} {b0 : Value} {w : World}
    (h : alc Tryz.prog 27 (fun A0 w =>
    bld Tryz.prog 75 #[(0, b0)] (fun A6 w =>
    box Tryz.prog 75 A6 (fun A7 w =>
    alc Tryz.prog 27 (fun s5 w =>
    call Tryz.prog 29 #[A7, (Value.int IntKind.i64 1)] (fun A9 w =>
    conv Tryz.prog 22 5 A9 (fun C0 w =>
    fldA Tryz.prog 27 s5 0 (fun C1 w =>
    sto Tryz.prog 5 C1 C0 (fun _t w =>
    call Tryz.prog 30 #[A7, (Value.int IntKind.i64 2)] (fun C3 w =>
    call Tryz.prog 30 #[A7, (Value.int IntKind.i64 2)] (fun C5 w =>
    call Tryz.prog 30 #[A7, (Value.int IntKind.i64 2)] (fun C7 w =>
    call Tryz.prog 30 #[A7, (Value.int IntKind.i64 4)] (fun C9 w =>
    fldA Tryz.prog 27 s5 1 (fun D0 w =>
    sto Tryz.prog 3 D0 C3 (fun _t w =>
    fldA Tryz.prog 27 s5 4 (fun D1 w =>
    sto Tryz.prog 3 D1 C5 (fun _t w =>
    fldA Tryz.prog 27 s5 3 (fun D2 w =>
    sto Tryz.prog 3 D2 C7 (fun _t w =>
    fldA Tryz.prog 27 s5 5 (fun D3 w =>
    sto Tryz.prog 3 D3 C9 (fun _t w =>
    (trace_Get_A1 K) (b0::undef::A0::(Value.int IntKind.i64 0)::A7::s5::undef::b0::A6::A7::A7::A9::C0::C1::A7::C3::A7::C5::A7::C7::A7::C9::D0::D1::D2::D3::undef::undef::undef::undef::undef::undef::undef::undef::undef::undef::undef::undef::undef::undef::undef::undef::undef::undef::undef::undef::undef::undef::undef::undef::undef::undef::undef::undef::undef::undef::undef::undef::undef::undef::undef::undef::undef::undef::undef::undef::undef::undef::undef::undef::undef::undef::undef::undef::undef::undef::undef::undef::undef::undef::undef::undef::undef::undef::undef::undef::undef::undef::undef::undef::undef::undef::undef::[]) w) w) w) w) w) w) w) w) w) w) w) w) w) w) w) w) w) w) w) w) w) :
    Gives Tryz.prog 12 #[b0] w K := enter' Tryz.func12 (by kernel_rfl) (Eq.mp (congrArg (fun c => cCode Tryz.prog c (retK Tryz.prog Tryz.f12.results.toList K) (fun _ _ _ => False) (retK Tryz.prog Tryz.f12.results.toList K) (b0::undef::undef::undef::undef::undef::undef::undef::undef::undef::undef::undef::undef::undef::undef::undef::undef::undef::undef::undef::undef::undef::undef::undef::undef::undef::undef::undef::undef::undef::undef::undef::undef::undef::undef::undef::undef::undef::undef::undef::undef::undef::undef::undef::undef::undef::undef::undef::undef::undef::undef::undef::undef::undef::undef::undef::undef::undef::undef::undef::undef::undef::undef::undef::undef::undef::undef::undef::undef::undef::undef::undef::undef::undef::undef::undef::undef::undef::undef::undef::undef::undef::undef::undef::undef::undef::undef::undef::undef::undef::undef::undef::undef::[]) w) (by kernel_rfl : (rep [1, 1, 1, 1, 1] (cd Tryz.f12 [1, 1, 1, 1, 1]) (cd Tryz.f12 [])) = (cd Tryz.f12 []))) (trace_Get_k (cd Tryz.f12 [1, 1, 1, 1, 1]) h))
theorem trace_Get_go : isGo Tryz.prog 12 := ⟨_, Tryz.func12, by kernel_rfl, by kernel_rfl⟩

section
variable {b0 b1 A0 A1 y4 s5 n6 A5 A6 A7 A8 A9 C0 C1 C2 C3 C4 C5 C6 C7 C8 C9 D0 D1 D2 D3 D4 D5 D6 D7 D8 D9 E0 E1 E2 E3 E4 E5 E6 E7 E8 E9 F0 F1 F2 F3 F4 F5 F6 F7 F8 F9 G0 G1 G2 G3 G4 G5 G6 G7 G8 G9 H0 H1 H2 H3 H4 H5 H6 H7 H8 H9 I0 I1 I2 I3 I4 I5 I6 I7 I8 I9 J0 J1 J2 J3 J4 J5 J6 J7 J8 J9 L0 : Value}
theorem trace_Get_A1_k {K : KV} (xc0 : Code) {w : World}
    (h : call Tryz.prog 29 #[y4, (Value.int IntKind.i64 1)] (fun D5 w =>
    conv Tryz.prog 22 5 D5 (fun D6 w =>
    call Tryz.prog 29 #[y4, (Value.int IntKind.i64 8)] (fun D8 w =>
    call Tryz.prog 30 #[y4, (Value.int IntKind.i64 2)] (fun E0 w =>
    fldA Tryz.prog 27 s5 2 (fun E1 w =>
    fldA Tryz.prog 24 E1 0 (fun E2 w =>
    sto Tryz.prog 5 E2 D6 (fun _t w =>
    fldA Tryz.prog 27 s5 2 (fun E3 w =>
    fldA Tryz.prog 24 E3 1 (fun E4 w =>
    sto Tryz.prog 22 E4 D8 (fun _t w =>
    fldA Tryz.prog 27 s5 2 (fun E5 w =>
    fldA Tryz.prog 24 E5 2 (fun E6 w =>
    sto Tryz.prog 3 E6 E0 (fun _t w =>
    call Tryz.prog 29 #[y4, (Value.int IntKind.i64 8)] (fun E8 w =>
    bin Tryz.prog BinOp.sub 22 false true E8 (Value.int IntKind.u64 1) (fun E9 w =>
    conv Tryz.prog 22 2 E9 (fun F0 w =>
    fldA Tryz.prog 27 s5 2 (fun F1 w =>
    fldA Tryz.prog 24 F1 3 (fun F2 w =>
    sto Tryz.prog 2 F2 F0 (fun _t w =>
    call Tryz.prog 29 #[y4, (Value.int IntKind.i64 8)] (fun F4 w =>
    call Tryz.prog 29 #[y4, (Value.int IntKind.i64 8)] (fun F6 w =>
    fldA Tryz.prog 27 s5 2 (fun F7 w =>
    fldA Tryz.prog 24 F7 4 (fun F8 w =>
    sto Tryz.prog 22 F8 F4 (fun _t w =>
    fldA Tryz.prog 27 s5 2 (fun F9 w =>
    fldA Tryz.prog 24 F9 5 (fun G0 w =>
    sto Tryz.prog 22 G0 F6 (fun _t w =>
    (cCode Tryz.prog xc0 (retK Tryz.prog Tryz.f12.results.toList K) (fun _ _ _ => False) (retK Tryz.prog Tryz.f12.results.toList K)) (b0::b1::A0::A1::y4::s5::n6::A5::A6::A7::A8::A9::C0::C1::C2::C3::C4::C5::C6::C7::C8::C9::D0::D1::D2::D3::y4::D5::D6::y4::D8::y4::E0::E1::E2::E3::E4::E5::E6::y4::E8::E9::F0::F1::F2::y4::F4::y4::F6::F7::F8::F9::G0::G1::G2::G3::G4::G5::G6::G7::G8::G9::H0::H1::H2::H3::H4::H5::H6::H7::H8::H9::I0::I1::I2::I3::I4::I5::I6::I7::I8::I9::J0::J1::J2::J3::J4::J5::J6::J7::J8::J9::L0::[]) w) w) w) w) w) w) w) w) w) w) w) w) w) w) w) w) w) w) w) w) w) w) w) w) w) w) w) w) :
    cCode Tryz.prog (rep [1, 1, 1] xc0 (cd Tryz.f12 [1, 1, 1, 1, 1])) (retK Tryz.prog Tryz.f12.results.toList K) (fun _ _ _ => False) (retK Tryz.prog Tryz.f12.results.toList K) (b0::b1::A0::A1::y4::s5::n6::A5::A6::A7::A8::A9::C0::C1::C2::C3::C4::C5::C6::C7::C8::C9::D0::D1::D2::D3::D4::D5::D6::D7::D8::D9::E0::E1::E2::E3::E4::E5::E6::E7::E8::E9::F0::F1::F2::F3::F4::F5::F6::F7::F8::F9::G0::G1::G2::G3::G4::G5::G6::G7::G8::G9::H0::H1::H2::H3::H4::H5::H6::H7::H8::H9::I0::I1::I2::I3::I4::I5::I6::I7::I8::I9::J0::J1::J2::J3::J4::J5::J6::J7::J8::J9::L0::[]) w := Eq.mp (by kernel_rfl) h

theorem trace_Get_A1_r {K : KV} {w : World}
    (h : call Tryz.prog 29 #[y4, (Value.int IntKind.i64 1)] (fun D5 w =>
    conv Tryz.prog 22 5 D5 (fun D6 w =>
    call Tryz.prog 29 #[y4, (Value.int IntKind.i64 8)] (fun D8 w =>
    call Tryz.prog 30 #[y4, (Value.int IntKind.i64 2)] (fun E0 w =>
    fldA Tryz.prog 27 s5 2 (fun E1 w =>
    fldA Tryz.prog 24 E1 0 (fun E2 w =>
    sto Tryz.prog 5 E2 D6 (fun _t w =>
    fldA Tryz.prog 27 s5 2 (fun E3 w =>
    fldA Tryz.prog 24 E3 1 (fun E4 w =>
    sto Tryz.prog 22 E4 D8 (fun _t w =>
    fldA Tryz.prog 27 s5 2 (fun E5 w =>
    fldA Tryz.prog 24 E5 2 (fun E6 w =>
    sto Tryz.prog 3 E6 E0 (fun _t w =>
    call Tryz.prog 29 #[y4, (Value.int IntKind.i64 8)] (fun E8 w =>
    bin Tryz.prog BinOp.sub 22 false true E8 (Value.int IntKind.u64 1) (fun E9 w =>
    conv Tryz.prog 22 2 E9 (fun F0 w =>
    fldA Tryz.prog 27 s5 2 (fun F1 w =>
    fldA Tryz.prog 24 F1 3 (fun F2 w =>
    sto Tryz.prog 2 F2 F0 (fun _t w =>
    call Tryz.prog 29 #[y4, (Value.int IntKind.i64 8)] (fun F4 w =>
    call Tryz.prog 29 #[y4, (Value.int IntKind.i64 8)] (fun F6 w =>
    fldA Tryz.prog 27 s5 2 (fun F7 w =>
    fldA Tryz.prog 24 F7 4 (fun F8 w =>
    sto Tryz.prog 22 F8 F4 (fun _t w =>
    fldA Tryz.prog 27 s5 2 (fun F9 w =>
    fldA Tryz.prog 24 F9 5 (fun G0 w =>
    sto Tryz.prog 22 G0 F6 (fun _t w =>
    (trace_Get_A2 K) (b0::b1::A0::A1::y4::s5::n6::A5::A6::A7::A8::A9::C0::C1::C2::C3::C4::C5::C6::C7::C8::C9::D0::D1::D2::D3::y4::D5::D6::y4::D8::y4::E0::E1::E2::E3::E4::E5::E6::y4::E8::E9::F0::F1::F2::y4::F4::y4::F6::F7::F8::F9::G0::G1::G2::G3::G4::G5::G6::G7::G8::G9::H0::H1::H2::H3::H4::H5::H6::H7::H8::H9::I0::I1::I2::I3::I4::I5::I6::I7::I8::I9::J0::J1::J2::J3::J4::J5::J6::J7::J8::J9::L0::[]) w) w) w) w) w) w) w) w) w) w) w) w) w) w) w) w) w) w) w) w) w) w) w) w) w) w) w) w) :
    trace_Get_A1 K (b0::b1::A0::A1::y4::s5::n6::A5::A6::A7::A8::A9::C0::C1::C2::C3::C4::C5::C6::C7::C8::C9::D0::D1::D2::D3::D4::D5::D6::D7::D8::D9::E0::E1::E2::E3::E4::E5::E6::E7::E8::E9::F0::F1::F2::F3::F4::F5::F6::F7::F8::F9::G0::G1::G2::G3::G4::G5::G6::G7::G8::G9::H0::H1::H2::H3::H4::H5::H6::H7::H8::H9::I0::I1::I2::I3::I4::I5::I6::I7::I8::I9::J0::J1::J2::J3::J4::J5::J6::J7::J8::J9::L0::[]) w := by
  delta trace_Get_A1
  exact Eq.mp (congrArg (fun c => cCode Tryz.prog c (retK Tryz.prog Tryz.f12.results.toList K) (fun _ _ _ => False) (retK Tryz.prog Tryz.f12.results.toList K) (b0::b1::A0::A1::y4::s5::n6::A5::A6::A7::A8::A9::C0::C1::C2::C3::C4::C5::C6::C7::C8::C9::D0::D1::D2::D3::D4::D5::D6::D7::D8::D9::E0::E1::E2::E3::E4::E5::E6::E7::E8::E9::F0::F1::F2::F3::F4::F5::F6::F7::F8::F9::G0::G1::G2::G3::G4::G5::G6::G7::G8::G9::H0::H1::H2::H3::H4::H5::H6::H7::H8::H9::I0::I1::I2::I3::I4::I5::I6::I7::I8::I9::J0::J1::J2::J3::J4::J5::J6::J7::J8::J9::L0::[]) w) (by kernel_rfl : (rep [1, 1, 1] (cd Tryz.f12 [1, 1, 1, 1, 1, 1, 1, 1]) (cd Tryz.f12 [1, 1, 1, 1, 1])) = (cd Tryz.f12 [1, 1, 1, 1, 1]))) (trace_Get_A1_k (cd Tryz.f12 [1, 1, 1, 1, 1, 1, 1, 1]) h)

theorem trace_Get_A2_k {K : KV} {w : World}
    (h : call Tryz.prog 29 #[y4, (Value.int IntKind.i64 1)] (fun G2 w =>
    (cCode Tryz.prog (cd Tryz.f12 [1, 1, 1, 1, 1, 1, 1, 1, 0, 1, 0]) (cCode Tryz.prog (cd Tryz.f12 [1, 1, 1, 1, 1, 1, 1, 1, 1]) (retK Tryz.prog Tryz.f12.results.toList K) (fun _ _ _ => False) (retK Tryz.prog Tryz.f12.results.toList K)) (fun i => @Bool.rec (fun _ => KE) ((fun _ _ _ => False) i) (cCode Tryz.prog (cd Tryz.f12 [1, 1, 1, 1, 1, 1, 1, 1, 1]) (retK Tryz.prog Tryz.f12.results.toList K) (fun _ _ _ => False) (retK Tryz.prog Tryz.f12.results.toList K)) (Nat.beq i 0)) (retK Tryz.prog Tryz.f12.results.toList K)) (b0::b1::A0::A1::y4::s5::G2::A5::A6::A7::A8::A9::C0::C1::C2::C3::C4::C5::C6::C7::C8::C9::D0::D1::D2::D3::D4::D5::D6::D7::D8::D9::E0::E1::E2::E3::E4::E5::E6::E7::E8::E9::F0::F1::F2::F3::F4::F5::F6::F7::F8::F9::G0::y4::G2::G3::G4::G5::G6::G7::G8::G9::H0::H1::H2::H3::H4::H5::H6::H7::H8::H9::I0::I1::I2::I3::I4::I5::I6::I7::I8::I9::J0::J1::J2::J3::J4::J5::J6::J7::J8::J9::L0::[]) w) w) :
    cCode Tryz.prog (cd Tryz.f12 [1, 1, 1, 1, 1, 1, 1, 1]) (retK Tryz.prog Tryz.f12.results.toList K) (fun _ _ _ => False) (retK Tryz.prog Tryz.f12.results.toList K) (b0::b1::A0::A1::y4::s5::n6::A5::A6::A7::A8::A9::C0::C1::C2::C3::C4::C5::C6::C7::C8::C9::D0::D1::D2::D3::D4::D5::D6::D7::D8::D9::E0::E1::E2::E3::E4::E5::E6::E7::E8::E9::F0::F1::F2::F3::F4::F5::F6::F7::F8::F9::G0::G1::G2::G3::G4::G5::G6::G7::G8::G9::H0::H1::H2::H3::H4::H5::H6::H7::H8::H9::I0::I1::I2::I3::I4::I5::I6::I7::I8::I9::J0::J1::J2::J3::J4::J5::J6::J7::J8::J9::L0::[]) w := Eq.mp (by kernel_rfl) h

theorem trace_Get_A2_r {K : KV} {w : World}
    (h : call Tryz.prog 29 #[y4, (Value.int IntKind.i64 1)] (fun G2 w =>
    (trace_Get_L1 K) (b0::b1::A0::A1::y4::s5::G2::A5::A6::A7::A8::A9::C0::C1::C2::C3::C4::C5::C6::C7::C8::C9::D0::D1::D2::D3::D4::D5::D6::D7::D8::D9::E0::E1::E2::E3::E4::E5::E6::E7::E8::E9::F0::F1::F2::F3::F4::F5::F6::F7::F8::F9::G0::y4::G2::G3::G4::G5::G6::G7::G8::G9::H0::H1::H2::H3::H4::H5::H6::H7::H8::H9::I0::I1::I2::I3::I4::I5::I6::I7::I8::I9::J0::J1::J2::J3::J4::J5::J6::J7::J8::J9::L0::[]) w) w) :
    trace_Get_A2 K (b0::b1::A0::A1::y4::s5::n6::A5::A6::A7::A8::A9::C0::C1::C2::C3::C4::C5::C6::C7::C8::C9::D0::D1::D2::D3::D4::D5::D6::D7::D8::D9::E0::E1::E2::E3::E4::E5::E6::E7::E8::E9::F0::F1::F2::F3::F4::F5::F6::F7::F8::F9::G0::G1::G2::G3::G4::G5::G6::G7::G8::G9::H0::H1::H2::H3::H4::H5::H6::H7::H8::H9::I0::I1::I2::I3::I4::I5::I6::I7::I8::I9::J0::J1::J2::J3::J4::J5::J6::J7::J8::J9::L0::[]) w := by
  delta trace_Get_A2
  exact Eq.mp (congrArg (fun c => cCode Tryz.prog c (retK Tryz.prog Tryz.f12.results.toList K) (fun _ _ _ => False) (retK Tryz.prog Tryz.f12.results.toList K) (b0::b1::A0::A1::y4::s5::n6::A5::A6::A7::A8::A9::C0::C1::C2::C3::C4::C5::C6::C7::C8::C9::D0::D1::D2::D3::D4::D5::D6::D7::D8::D9::E0::E1::E2::E3::E4::E5::E6::E7::E8::E9::F0::F1::F2::F3::F4::F5::F6::F7::F8::F9::G0::G1::G2::G3::G4::G5::G6::G7::G8::G9::H0::H1::H2::H3::H4::H5::H6::H7::H8::H9::I0::I1::I2::I3::I4::I5::I6::I7::I8::I9::J0::J1::J2::J3::J4::J5::J6::J7::J8::J9::L0::[]) w) (by kernel_rfl : (cd Tryz.f12 [1, 1, 1, 1, 1, 1, 1, 1]) = (cd Tryz.f12 [1, 1, 1, 1, 1, 1, 1, 1]))) (trace_Get_A2_k h)

end
theorem trace_Get_L1_k {K : KV} (B1 : KE) (qc0 : KE) {b0 b1 A0 A1 y4 s5 n6' A5 A6 A7 A8 A9 C0 C1 C2 C3 C4 C5 C6 C7 C8 C9 D0 D1 D2 D3 D4 D5 D6 D7 D8 D9 E0 E1 E2 E3 E4 E5 E6 E7 E8 E9 F0 F1 F2 F3 F4 F5 F6 F7 F8 F9 G0 G1 G2 G6' G7' G8' G9' H0' I1 I2 I3 I4 I5 I6 I7 I8 I9 J0 J1 J2 J3 J4 J5 J6 J7 J8 J9 L0 : Value} {dd : Nat → Value} {w : World}
    (h : bin Tryz.prog BinOp.gtr 22 false true n6' (Value.int IntKind.u64 0) (fun G4 w =>
    gsel G4 true (fun k58 =>
    nilC y4 (fun G7 w =>
    fldA Tryz.prog 75 G7 2 (fun G8 w =>
    ld Tryz.prog 4 G8 (fun G9 w =>
    un Tryz.prog UnOp.not G9 (fun H0 w =>
    k58 [y4, G7, G8, G9, H0] w) w) w) w) w)
    (fun k => k [undef, undef, undef, undef, undef] w) (fun us58 w =>
    pick G4 (gd us58 4) (Value.bool false) (fun H1 w =>
    cond H1
      (hReg (fun S w =>
    hld S (fun k w => fldA Tryz.prog 27 s5 6 k w) (fun H4 =>
    hld S (fun k w => ld Tryz.prog 25 H4 k w) (fun H5 =>
    call Tryz.prog 30 #[y4, (Value.int IntKind.i64 1)] (fun H7 w =>
    hSub S (fun S w =>
    bldS Tryz.prog 25 1 #[(0, H7)] (fun H8 w =>
    hSub S (fun S w =>
    blt Tryz.prog Builtin.append #[25, 25] 25 #[false, false] #[H5, H8] (fun H9 w =>
    hReg (fun S w =>
    hld S (fun k w => fldA Tryz.prog 27 s5 6 k w) (fun I0 =>
    sto Tryz.prog 25 I0 H9 (fun _t w =>
    bin Tryz.prog BinOp.sub 22 false true n6' (Value.int IntKind.u64 1) (fun H3 w =>
    B1 (b0::b1::A0::A1::y4::s5::H3::A5::A6::A7::A8::A9::C0::C1::C2::C3::C4::C5::C6::C7::C8::C9::D0::D1::D2::D3::D4::D5::D6::D7::D8::D9::E0::E1::E2::E3::E4::E5::E6::E7::E8::E9::F0::F1::F2::F3::F4::F5::F6::F7::F8::F9::G0::G1::G2::n6'::G4::G4::(gd us58 0)::(gd us58 1)::(gd us58 2)::(gd us58 3)::(gd us58 4)::H1::n6'::H3::H4::H5::y4::H7::H8::H9::I0::I1::I2::I3::I4::I5::I6::I7::I8::I9::J0::J1::J2::J3::J4::J5::J6::J7::J8::J9::L0::[]) w) w) w)) w) w) w) w) w) w))) w.drew)
      (qc0 (b0::b1::A0::A1::y4::s5::n6'::A5::A6::A7::A8::A9::C0::C1::C2::C3::C4::C5::C6::C7::C8::C9::D0::D1::D2::D3::D4::D5::D6::D7::D8::D9::E0::E1::E2::E3::E4::E5::E6::E7::E8::E9::F0::F1::F2::F3::F4::F5::F6::F7::F8::F9::G0::G1::G2::n6'::G4::G4::(gd us58 0)::(gd us58 1)::(gd us58 2)::(gd us58 3)::(gd us58 4)::H1::(dd 64)::(dd 65)::(dd 66)::(dd 67)::(dd 68)::(dd 69)::(dd 70)::(dd 71)::(dd 72)::I1::I2::I3::I4::I5::I6::I7::I8::I9::J0::J1::J2::J3::J4::J5::J6::J7::J8::J9::L0::[]) w)) w)) w) :
    cCode Tryz.prog (cd Tryz.f12 [1, 1, 1, 1, 1, 1, 1, 1, 0, 1, 0, 0]) B1 (fun i => @Bool.rec (fun _ => KE) ((fun _ _ _ => False) i) qc0 (Nat.beq i 0)) (retK Tryz.prog Tryz.f12.results.toList K) (b0::b1::A0::A1::y4::s5::n6'::A5::A6::A7::A8::A9::C0::C1::C2::C3::C4::C5::C6::C7::C8::C9::D0::D1::D2::D3::D4::D5::D6::D7::D8::D9::E0::E1::E2::E3::E4::E5::E6::E7::E8::E9::F0::F1::F2::F3::F4::F5::F6::F7::F8::F9::G0::G1::G2::(dd 55)::(dd 56)::(dd 57)::G6'::G7'::G8'::G9'::H0'::(dd 63)::(dd 64)::(dd 65)::(dd 66)::(dd 67)::(dd 68)::(dd 69)::(dd 70)::(dd 71)::(dd 72)::I1::I2::I3::I4::I5::I6::I7::I8::I9::J0::J1::J2::J3::J4::J5::J6::J7::J8::J9::L0::[]) w := Eq.mp (by kernel_rfl) h

section
variable {b0 b1 A0 A1 y4 s5 n6 A5 A6 A7 A8 A9 C0 C1 C2 C3 C4 C5 C6 C7 C8 C9 D0 D1 D2 D3 D4 D5 D6 D7 D8 D9 E0 E1 E2 E3 E4 E5 E6 E7 E8 E9 F0 F1 F2 F3 F4 F5 F6 F7 F8 F9 G0 G1 G2 G3 G4 G5 G6 G7 G8 G9 H0 H1 H2 H3 H4 H5 H6 H7 H8 H9 I0 I1 I2 I3 I4 I5 I6 I7 I8 I9 J0 J1 J2 J3 J4 J5 J6 J7 J8 J9 L0 : Value}
theorem trace_Get_L1_r {K : KV} {w : World} (Inv : Value → Value → Value → Value → Value → Value → World → Prop) (μ : Value → Value → Value → Value → Value → Value → World → Nat) (h0 : Inv n6 G6 G7 G8 G9 H0 w)
    (hs : ∀ (n6' G6' G7' G8' G9' H0' : Value) (dd : Nat → Value) (w : World) (m : Nat), Inv n6' G6' G7' G8' G9' H0' w → m = μ n6' G6' G7' G8' G9' H0' w →
    bin Tryz.prog BinOp.gtr 22 false true n6' (Value.int IntKind.u64 0) (fun G4 w =>
    gsel G4 true (fun k58 =>
    nilC y4 (fun G7 w =>
    fldA Tryz.prog 75 G7 2 (fun G8 w =>
    ld Tryz.prog 4 G8 (fun G9 w =>
    un Tryz.prog UnOp.not G9 (fun H0 w =>
    k58 [y4, G7, G8, G9, H0] w) w) w) w) w)
    (fun k => k [undef, undef, undef, undef, undef] w) (fun us58 w =>
    pick G4 (gd us58 4) (Value.bool false) (fun H1 w =>
    cond H1
      (hReg (fun S w =>
    hld S (fun k w => fldA Tryz.prog 27 s5 6 k w) (fun H4 =>
    hld S (fun k w => ld Tryz.prog 25 H4 k w) (fun H5 =>
    call Tryz.prog 30 #[y4, (Value.int IntKind.i64 1)] (fun H7 w =>
    hSub S (fun S w =>
    bldS Tryz.prog 25 1 #[(0, H7)] (fun H8 w =>
    hSub S (fun S w =>
    blt Tryz.prog Builtin.append #[25, 25] 25 #[false, false] #[H5, H8] (fun H9 w =>
    hReg (fun S w =>
    hld S (fun k w => fldA Tryz.prog 27 s5 6 k w) (fun I0 =>
    sto Tryz.prog 25 I0 H9 (fun _t w =>
    bin Tryz.prog BinOp.sub 22 false true n6' (Value.int IntKind.u64 1) (fun H3 w =>
    (Inv H3 (gd us58 0) (gd us58 1) (gd us58 2) (gd us58 3) (gd us58 4) w ∧ μ H3 (gd us58 0) (gd us58 1) (gd us58 2) (gd us58 3) (gd us58 4) w < m)) w) w)) w) w) w) w) w) w))) w.drew)
      ((trace_Get_P1 K) (b0::b1::A0::A1::y4::s5::n6'::A5::A6::A7::A8::A9::C0::C1::C2::C3::C4::C5::C6::C7::C8::C9::D0::D1::D2::D3::D4::D5::D6::D7::D8::D9::E0::E1::E2::E3::E4::E5::E6::E7::E8::E9::F0::F1::F2::F3::F4::F5::F6::F7::F8::F9::G0::G1::G2::n6'::G4::G4::(gd us58 0)::(gd us58 1)::(gd us58 2)::(gd us58 3)::(gd us58 4)::H1::(dd 64)::(dd 65)::(dd 66)::(dd 67)::(dd 68)::(dd 69)::(dd 70)::(dd 71)::(dd 72)::I1::I2::I3::I4::I5::I6::I7::I8::I9::J0::J1::J2::J3::J4::J5::J6::J7::J8::J9::L0::[]) w)) w)) w) :
    trace_Get_L1 K (b0::b1::A0::A1::y4::s5::n6::A5::A6::A7::A8::A9::C0::C1::C2::C3::C4::C5::C6::C7::C8::C9::D0::D1::D2::D3::D4::D5::D6::D7::D8::D9::E0::E1::E2::E3::E4::E5::E6::E7::E8::E9::F0::F1::F2::F3::F4::F5::F6::F7::F8::F9::G0::G1::G2::G3::G4::G5::G6::G7::G8::G9::H0::H1::H2::H3::H4::H5::H6::H7::H8::H9::I0::I1::I2::I3::I4::I5::I6::I7::I8::I9::J0::J1::J2::J3::J4::J5::J6::J7::J8::J9::L0::[]) w := by
  refine loop_rule (cd Tryz.f12 [1, 1, 1, 1, 1, 1, 1, 1, 0, 1, 0, 0]) [6, 55, 56, 57, 58, 59, 60, 61, 62, 63, 64, 65, 66, 67, 68, 69, 70, 71, 72] (by kernel_rfl) (fun e2 w2 => Inv (gd e2 6) (gd e2 58) (gd e2 59) (gd e2 60) (gd e2 61) (gd e2 62) w2) (fun e2 w2 => μ (gd e2 6) (gd e2 58) (gd e2 59) (gd e2 60) (gd e2 61) (gd e2 62) w2) h0 ?_
  intro e' w' hI
  have h := hs (gd e' 6) (gd e' 58) (gd e' 59) (gd e' 60) (gd e' 61) (gd e' 62) (fun i => gd e' i) w' _ hI rfl
  have h2 : cCode Tryz.prog (cd Tryz.f12 [1, 1, 1, 1, 1, 1, 1, 1, 0, 1, 0, 0]) (fun e2 w2 => Inv (gd e2 6) (gd e2 58) (gd e2 59) (gd e2 60) (gd e2 61) (gd e2 62) w2 ∧ μ (gd e2 6) (gd e2 58) (gd e2 59) (gd e2 60) (gd e2 61) (gd e2 62) w2 < μ (gd e' 6) (gd e' 58) (gd e' 59) (gd e' 60) (gd e' 61) (gd e' 62) w') (fun i => @Bool.rec (fun _ => KE) ((fun _ _ _ => False) i) (trace_Get_P1 K) (Nat.beq i 0)) (retK Tryz.prog Tryz.f12.results.toList K) (b0::b1::A0::A1::y4::s5::(gd e' 6)::A5::A6::A7::A8::A9::C0::C1::C2::C3::C4::C5::C6::C7::C8::C9::D0::D1::D2::D3::D4::D5::D6::D7::D8::D9::E0::E1::E2::E3::E4::E5::E6::E7::E8::E9::F0::F1::F2::F3::F4::F5::F6::F7::F8::F9::G0::G1::G2::(gd e' 55)::(gd e' 56)::(gd e' 57)::(gd e' 58)::(gd e' 59)::(gd e' 60)::(gd e' 61)::(gd e' 62)::(gd e' 63)::(gd e' 64)::(gd e' 65)::(gd e' 66)::(gd e' 67)::(gd e' 68)::(gd e' 69)::(gd e' 70)::(gd e' 71)::(gd e' 72)::I1::I2::I3::I4::I5::I6::I7::I8::I9::J0::J1::J2::J3::J4::J5::J6::J7::J8::J9::L0::[]) w' := trace_Get_L1_k (fun e2 w2 => Inv (gd e2 6) (gd e2 58) (gd e2 59) (gd e2 60) (gd e2 61) (gd e2 62) w2 ∧ μ (gd e2 6) (gd e2 58) (gd e2 59) (gd e2 60) (gd e2 61) (gd e2 62) w2 < μ (gd e' 6) (gd e' 58) (gd e' 59) (gd e' 60) (gd e' 61) (gd e' 62) w') (trace_Get_P1 K) (Eq.mp (by kernel_rfl) h)
  exact Eq.mp (by kernel_rfl) h2

theorem trace_Get_P1_k {K : KV} {w : World}
    (h : nilC y4 (fun I2 w =>
    fldA Tryz.prog 75 I2 2 (fun I3 w =>
    ld Tryz.prog 4 I3 (fun I4 w =>
    gsel I4 false (fun k78 =>
    nilC y4 (fun I7 w =>
    fldA Tryz.prog 75 I7 1 (fun I8 w =>
    ld Tryz.prog 3 I8 (fun I9 w =>
    blt Tryz.prog Builtin.len #[28] 3 #[false] #[b0] (fun J1 w =>
    bin Tryz.prog BinOp.neq 3 false false I9 J1 (fun J2 w =>
    k78 [y4, I7, I8, I9, b0, J1, J2] w) w) w) w) w) w)
    (fun k => k [undef, undef, undef, undef, undef, undef, undef] w) (fun us78 w =>
    pick I4 (Value.bool true) (gd us78 6) (fun J3 w =>
    gsel J3 false (fun k87 =>
    ld Tryz.prog 27 s5 (fun J5 w =>
    call Tryz.prog 9 #[J5] (fun J6 w =>
    un Tryz.prog UnOp.not J6 (fun J7 w =>
    k87 [J5, J6, J7] w) w) w) w)
    (fun k => k [undef, undef, undef] w) (fun us87 w =>
    pick J3 (Value.bool true) (gd us87 2) (fun J8 w =>
    cond J8
      (bld Tryz.prog 27 #[] (fun J9 w =>
      sto Tryz.prog 27 A0 J9 (fun _t w =>
      retM Tryz.prog [(some 27, A0), (none, (Value.int IntKind.i64 5))] K w) w) w)
      (ld Tryz.prog 27 s5 (fun L0 w =>
    sto Tryz.prog 27 A0 L0 (fun _t w =>
    retM Tryz.prog [(some 27, A0), (none, (Value.int IntKind.i64 0))] K w) w) w)) w)) w)) w) w) w) :
    cCode Tryz.prog (cd Tryz.f12 [1, 1, 1, 1, 1, 1, 1, 1, 1]) (retK Tryz.prog Tryz.f12.results.toList K) (fun _ _ _ => False) (retK Tryz.prog Tryz.f12.results.toList K) (b0::b1::A0::A1::y4::s5::n6::A5::A6::A7::A8::A9::C0::C1::C2::C3::C4::C5::C6::C7::C8::C9::D0::D1::D2::D3::D4::D5::D6::D7::D8::D9::E0::E1::E2::E3::E4::E5::E6::E7::E8::E9::F0::F1::F2::F3::F4::F5::F6::F7::F8::F9::G0::G1::G2::G3::G4::G5::G6::G7::G8::G9::H0::H1::H2::H3::H4::H5::H6::H7::H8::H9::I0::I1::I2::I3::I4::I5::I6::I7::I8::I9::J0::J1::J2::J3::J4::J5::J6::J7::J8::J9::L0::[]) w := Eq.mp (by kernel_rfl) h

theorem trace_Get_P1_r {K : KV} {w : World}
    (h : nilC y4 (fun I2 w =>
    fldA Tryz.prog 75 I2 2 (fun I3 w =>
    ld Tryz.prog 4 I3 (fun I4 w =>
    gsel I4 false (fun k78 =>
    nilC y4 (fun I7 w =>
    fldA Tryz.prog 75 I7 1 (fun I8 w =>
    ld Tryz.prog 3 I8 (fun I9 w =>
    blt Tryz.prog Builtin.len #[28] 3 #[false] #[b0] (fun J1 w =>
    bin Tryz.prog BinOp.neq 3 false false I9 J1 (fun J2 w =>
    k78 [y4, I7, I8, I9, b0, J1, J2] w) w) w) w) w) w)
    (fun k => k [undef, undef, undef, undef, undef, undef, undef] w) (fun us78 w =>
    pick I4 (Value.bool true) (gd us78 6) (fun J3 w =>
    gsel J3 false (fun k87 =>
    ld Tryz.prog 27 s5 (fun J5 w =>
    call Tryz.prog 9 #[J5] (fun J6 w =>
    un Tryz.prog UnOp.not J6 (fun J7 w =>
    k87 [J5, J6, J7] w) w) w) w)
    (fun k => k [undef, undef, undef] w) (fun us87 w =>
    pick J3 (Value.bool true) (gd us87 2) (fun J8 w =>
    cond J8
      (bld Tryz.prog 27 #[] (fun J9 w =>
      sto Tryz.prog 27 A0 J9 (fun _t w =>
      retM Tryz.prog [(some 27, A0), (none, (Value.int IntKind.i64 5))] K w) w) w)
      (ld Tryz.prog 27 s5 (fun L0 w =>
    sto Tryz.prog 27 A0 L0 (fun _t w =>
    retM Tryz.prog [(some 27, A0), (none, (Value.int IntKind.i64 0))] K w) w) w)) w)) w)) w) w) w) :
    trace_Get_P1 K (b0::b1::A0::A1::y4::s5::n6::A5::A6::A7::A8::A9::C0::C1::C2::C3::C4::C5::C6::C7::C8::C9::D0::D1::D2::D3::D4::D5::D6::D7::D8::D9::E0::E1::E2::E3::E4::E5::E6::E7::E8::E9::F0::F1::F2::F3::F4::F5::F6::F7::F8::F9::G0::G1::G2::G3::G4::G5::G6::G7::G8::G9::H0::H1::H2::H3::H4::H5::H6::H7::H8::H9::I0::I1::I2::I3::I4::I5::I6::I7::I8::I9::J0::J1::J2::J3::J4::J5::J6::J7::J8::J9::L0::[]) w := by
  delta trace_Get_P1
  exact Eq.mp (congrArg (fun c => cCode Tryz.prog c (retK Tryz.prog Tryz.f12.results.toList K) (fun _ _ _ => False) (retK Tryz.prog Tryz.f12.results.toList K) (b0::b1::A0::A1::y4::s5::n6::A5::A6::A7::A8::A9::C0::C1::C2::C3::C4::C5::C6::C7::C8::C9::D0::D1::D2::D3::D4::D5::D6::D7::D8::D9::E0::E1::E2::E3::E4::E5::E6::E7::E8::E9::F0::F1::F2::F3::F4::F5::F6::F7::F8::F9::G0::G1::G2::G3::G4::G5::G6::G7::G8::G9::H0::H1::H2::H3::H4::H5::H6::H7::H8::H9::I0::I1::I2::I3::I4::I5::I6::I7::I8::I9::J0::J1::J2::J3::J4::J5::J6::J7::J8::J9::L0::[]) w) (by kernel_rfl : (cd Tryz.f12 [1, 1, 1, 1, 1, 1, 1, 1, 1]) = (cd Tryz.f12 [1, 1, 1, 1, 1, 1, 1, 1, 1]))) (trace_Get_P1_k h)
attribute [irreducible] trace_Get_A1 trace_Get_A2 trace_Get_P1 trace_Get_L1

end
end Go.Proofs.YtfjafbbalohmhaaGreatDoor
/- A step's bytes (trace.within, trace.May, trace.Put). -/
namespace Go.Proofs.YtfjafbbalohmhaaGreatDoor
set_option maxRecDepth 100000
open Go.RowKit

def i6 (x : Int) : Value := .int .i64 x
/-- A step, plainly. -/
structure STP where
  d : Int
  who : Int
  kind : Int
  node : Int
  to : Int
  am : Int
  req : Int
  of_ : Int
  k : Int
  j : Int
  n : Int
  picks : List Int
def stC (s : STP) (v : Value) : List Value := [.int .u8 s.d, i6 s.who, .int .u8 s.kind, .int .u64 s.node, i6 s.to, i6 s.am, .int .u64 s.req, .int .u64 s.of_, i6 s.k, i6 s.j, i6 s.n, v]
/-- Its numbers are numbers of their kinds. -/
structure STW (s : STP) : Prop where
  d : 0 ≤ s.d ∧ s.d ≤ 255
  kind : 0 ≤ s.kind ∧ s.kind ≤ 255
  node : 0 ≤ s.node ∧ s.node ≤ 18446744073709551615
  req : 0 ≤ s.req ∧ s.req ≤ 18446744073709551615
  of_ : 0 ≤ s.of_ ∧ s.of_ ≤ 18446744073709551615
def inB (lo hi x : Int) : Bool := decide (lo ≤ x) && decide (x ≤ hi)
def mayT (s : STP) : Bool :=
  decide (1 ≤ s.d) && decide (s.d ≤ 12) && decide (s.kind ≤ 7) && [s.who, s.j, s.k, s.to].all (inB (-1) 255) && inB (-1) 1073741824 s.n && inB (-1) 1152921504606846976 s.am && decide (s.picks.length ≤ 255) && s.picks.all (inB (-1) 254)
def putT (s : STP) : List UInt8 :=
  match mayT s with
  | false => []
  | true => beBytes s.d.toNat 1 ++ beBytes (s.who + 1).toNat 2 ++ beBytes (s.j + 1).toNat 2 ++ beBytes (s.k + 1).toNat 2 ++ beBytes (s.n + 1).toNat 4 ++ beBytes s.kind.toNat 1 ++ beBytes s.node.toNat 8 ++ beBytes (s.to + 1).toNat 2 ++ beBytes (s.am + 1).toNat 8
      ++ beBytes s.req.toNat 8 ++ beBytes s.of_.toNat 8 ++ beBytes s.picks.length 1 ++ s.picks.flatMap fun x => beBytes (x + 1).toNat 1
theorem inB_iff {lo hi x : Int} : inB lo hi x = true ↔ lo ≤ x ∧ x ≤ hi := by simp [inB]
theorem mayT_iff {s : STP} : mayT s = true ↔ (1 ≤ s.d ∧ s.d ≤ 12) ∧ s.kind ≤ 7 ∧ (-1 ≤ s.who ∧ s.who ≤ 255) ∧ (-1 ≤ s.j ∧ s.j ≤ 255) ∧ (-1 ≤ s.k ∧ s.k ≤ 255) ∧ (-1 ≤ s.to ∧ s.to ≤ 255) ∧ (-1 ≤ s.n ∧ s.n ≤ 1073741824) ∧ (-1 ≤ s.am ∧ s.am ≤ 1152921504606846976) ∧ s.picks.length ≤ 255 ∧ s.picks.all (inB (-1) 254) = true := by
  simp [mayT, inB_iff, and_assoc]
/-- Numbers in a row. -/
abbrev RN (w : World) (a : Option Addr) (n c : Nat) (l : List Int) : Prop := RV w a n c (l.map i6)
theorem rv_blk {w : World} {b : Nat} {E : TypeId} {xs : List Value} (h : blk w b E xs) : RV w (some ⟨b, 0, none⟩) xs.length xs.length xs :=
  ⟨rfl, Nat.le_refl _, fun _ => ⟨b, 0, rfl⟩, (fun h => by cases h), fun i v hv => by rw [show slotA (some ⟨b, 0, none⟩) i = ⟨b, 0 + i, none⟩ from rfl, h.cell, Nat.zero_add]; exact hv⟩
theorem fA_Stp_0 {w : World} {K : KV} {b o : Nat} (h : K (.pointer (some ⟨b, o + 0, none⟩)) w) : fldA Tryz.prog 27 (.pointer (some ⟨b, o, none⟩)) 0 K w := fldA_of (by kernel_rfl) h
theorem fA_Stp_1 {w : World} {K : KV} {b o : Nat} (h : K (.pointer (some ⟨b, o + 1, none⟩)) w) : fldA Tryz.prog 27 (.pointer (some ⟨b, o, none⟩)) 1 K w := fldA_of (by kernel_rfl) h
theorem fA_Stp_2 {w : World} {K : KV} {b o : Nat} (h : K (.pointer (some ⟨b, o + 2, none⟩)) w) : fldA Tryz.prog 27 (.pointer (some ⟨b, o, none⟩)) 2 K w := fldA_of (by kernel_rfl) h
theorem fA_Stp_3 {w : World} {K : KV} {b o : Nat} (h : K (.pointer (some ⟨b, o + 8, none⟩)) w) : fldA Tryz.prog 27 (.pointer (some ⟨b, o, none⟩)) 3 K w := fldA_of (by kernel_rfl) h
theorem fA_Stp_4 {w : World} {K : KV} {b o : Nat} (h : K (.pointer (some ⟨b, o + 9, none⟩)) w) : fldA Tryz.prog 27 (.pointer (some ⟨b, o, none⟩)) 4 K w := fldA_of (by kernel_rfl) h
theorem fA_Stp_5 {w : World} {K : KV} {b o : Nat} (h : K (.pointer (some ⟨b, o + 10, none⟩)) w) : fldA Tryz.prog 27 (.pointer (some ⟨b, o, none⟩)) 5 K w := fldA_of (by kernel_rfl) h
theorem fA_Stp_6 {w : World} {K : KV} {b o : Nat} (h : K (.pointer (some ⟨b, o + 11, none⟩)) w) : fldA Tryz.prog 27 (.pointer (some ⟨b, o, none⟩)) 6 K w := fldA_of (by kernel_rfl) h
theorem fA_Tas_0 {w : World} {K : KV} {b o : Nat} (h : K (.pointer (some ⟨b, o + 0, none⟩)) w) : fldA Tryz.prog 24 (.pointer (some ⟨b, o, none⟩)) 0 K w := fldA_of (by kernel_rfl) h
theorem fA_Tas_1 {w : World} {K : KV} {b o : Nat} (h : K (.pointer (some ⟨b, o + 1, none⟩)) w) : fldA Tryz.prog 24 (.pointer (some ⟨b, o, none⟩)) 1 K w := fldA_of (by kernel_rfl) h
theorem fA_Tas_2 {w : World} {K : KV} {b o : Nat} (h : K (.pointer (some ⟨b, o + 2, none⟩)) w) : fldA Tryz.prog 24 (.pointer (some ⟨b, o, none⟩)) 2 K w := fldA_of (by kernel_rfl) h
theorem fA_Tas_3 {w : World} {K : KV} {b o : Nat} (h : K (.pointer (some ⟨b, o + 3, none⟩)) w) : fldA Tryz.prog 24 (.pointer (some ⟨b, o, none⟩)) 3 K w := fldA_of (by kernel_rfl) h
theorem fA_Tas_4 {w : World} {K : KV} {b o : Nat} (h : K (.pointer (some ⟨b, o + 4, none⟩)) w) : fldA Tryz.prog 24 (.pointer (some ⟨b, o, none⟩)) 4 K w := fldA_of (by kernel_rfl) h
theorem fA_Tas_5 {w : World} {K : KV} {b o : Nat} (h : K (.pointer (some ⟨b, o + 5, none⟩)) w) : fldA Tryz.prog 24 (.pointer (some ⟨b, o, none⟩)) 5 K w := fldA_of (by kernel_rfl) h
theorem ld_TL_0 {w : World} {K : KV} {b o : Nat} {E : TypeId} {cs : List Value} (v : Value) (hb : blk w b E cs) (ho : cs[o]? = some v) (h : K v w) : ld Tryz.prog 5 (.pointer (some ⟨b, o, none⟩)) K w := ld1 (fun _ => by kernel_rfl) hb ho h
theorem ld_TL_1 {w : World} {K : KV} {b o : Nat} {E : TypeId} {cs : List Value} (v : Value) (hb : blk w b E cs) (ho : cs[o]? = some v) (h : K v w) : ld Tryz.prog 3 (.pointer (some ⟨b, o, none⟩)) K w := ld1 (fun _ => by kernel_rfl) hb ho h
theorem ld_TL_2 {w : World} {K : KV} {b o : Nat} {E : TypeId} {cs : List Value} (v : Value) (hb : blk w b E cs) (ho : cs[o]? = some v) (h : K v w) : ld Tryz.prog 22 (.pointer (some ⟨b, o, none⟩)) K w := ld1 (fun _ => by kernel_rfl) hb ho h
theorem ld_TL_3 {w : World} {K : KV} {b o : Nat} {E : TypeId} {cs : List Value} (v : Value) (hb : blk w b E cs) (ho : cs[o]? = some v) (h : K v w) : ld Tryz.prog 2 (.pointer (some ⟨b, o, none⟩)) K w := ld1 (fun _ => by kernel_rfl) hb ho h
theorem ld_TL_4 {w : World} {K : KV} {b o : Nat} {E : TypeId} {cs : List Value} (v : Value) (hb : blk w b E cs) (ho : cs[o]? = some v) (h : K v w) : ld Tryz.prog 25 (.pointer (some ⟨b, o, none⟩)) K w := ld1 (fun _ => by kernel_rfl) hb ho h
theorem ld_TL_5 {w : World} {K : KV} {b o : Nat} {E : TypeId} {cs : List Value} (v : Value) (hb : blk w b E cs) (ho : cs[o]? = some v) (h : K v w) : ld Tryz.prog 69 (.pointer (some ⟨b, o, none⟩)) K w := ld1 (fun _ => by kernel_rfl) hb ho h
attribute [local irreducible] bin un conv call callV blt slc fldA fld idxA idx lkp mUpd mEnt eSt rng nxt ent ext alc box bld bldS ld sto nilC mkMap mkS ifc pick rdy wts gsel sti cond retM Gives cCode cGrp cSeq cOp
section
variable {w : World} {K : KV}
theorem within_c {a : Option Addr} {n c : Nat} {l : List Int} {lo hi : Int} (hr : RN w a n c l) (hn : n ≤ 4611686018427387904) (h : K (.bool (l.all (inB lo hi))) w) : call Tryz.prog 27 #[i6 lo, i6 hi, .slice a n c] K w := by
  have hl : l.length = n := by simpa using hr.len
  unfold i6 at *
  refine call_of trace_within_go (trace_within_in ?_)
  refine len_slc Tryz.underlying25 ?_
  refine trace_within_L1_r (Inv := fun i _ _ _ wr => ∃ j : Nat, i = .int .i64 (j : Nat) ∧ j ≤ n ∧ wr = w ∧ (l.take j).all (inB lo hi) = true) (μ := fun i _ _ _ _ => n - (intOf i).toNat) ⟨0, rfl, by omega, rfl, by simp⟩ ?_
  rintro _ _ _ _ dd _ m ⟨j, rfl, hj, rfl, hall⟩ hm
  refine bin_lss ?_
  by_cases hjn : j < n
  · refine cond_t (by omega) ?_
    have hx : (l.map i6)[j]? = some (i6 (l.getD j 0)) := by simp [List.getD, List.getElem?_eq_getElem (show j < l.length by omega)]
    refine idx_slc Tryz.underlying25 (fun _ => by kernel_rfl) (by omega) (by omega) hr.some_ ?_
    rw [Int.toNat_natCast]
    refine ld_cell (fun _ => by kernel_rfl) (hr.cell _ _ hx) ?_
    have hx : l.getD j 0 = l[j] := by simp [List.getD, show j < l.length by omega]
    have ht : l.take (j + 1) = l.take j ++ [l.getD j 0] := by rw [hx, List.take_append_getElem (by omega)]
    generalize l.getD j 0 = x at *
    have bad : inB lo hi x = false → l.all (inB lo hi) = false := fun hb => by
      cases hq : l.all (inB lo hi) with
      | false => rfl
      | true => have := List.all_eq_true.1 hq _ (List.getElem_mem (show j < l.length by omega)); rw [← hx] at this; rw [this] at hb; cases hb
    unfold i6
    refine bin_lss ?_
    by_cases h0 : x < lo
    · refine gsel_nt h0 ?_
      refine pick_t h0 ?_
      refine cond_T ?_
      have : inB lo hi x = false := by
        cases hq : inB lo hi x with
        | false => rfl
        | true => have := inB_iff.1 hq; omega
      rw [bad this] at h
      exact h
    · refine gsel_nf h0 ?_
      refine bin_gtr ?_
      refine pick_f h0 ?_
      by_cases h1 : x > hi
      · refine cond_t h1 ?_
        have : inB lo hi x = false := by
          cases hq : inB lo hi x with
          | false => rfl
          | true => have := inB_iff.1 hq; omega
        rw [bad this] at h
        exact h
      · refine cond_f h1 ?_
        refine add64 (by omega) (by omega) ?_
        refine ⟨⟨j + 1, by simp, by omega, rfl, ?_⟩, ?_⟩
        · rw [ht, List.all_append, hall]
          simp [inB_iff.2 ⟨show lo ≤ x by omega, show x ≤ hi by omega⟩]
        · rw [hm]; simp [intOf]; omega
  · obtain rfl : j = n := by omega
    refine cond_f (by omega) ?_
    refine trace_within_P1_r ?_
    rw [List.take_of_length_le (by omega)] at hall
    rw [hall] at h
    exact h
set_option maxHeartbeats 2000000 in
theorem tmay_c {s : STP} {a : Option Addr} {c : Nat} (hw : STW s) (hr : RN w a s.picks.length c s.picks) (hn : s.picks.length ≤ 4611686018427387904) (h : ∀ w', Below w.heap.size w w' → K (.bool (mayT s)) w') :
    call Tryz.prog 9 #[.agg (stC s (.slice a s.picks.length c)).toArray] K w := by
  refine call_of trace_May_go (trace_May_in ?_)
  refine box_of fun w1 hb b1 s1 => ?_
  have hb : blk w1 w.heap.size 27 (stC s (.slice a s.picks.length c)) := hb
  generalize hq0 : w.heap.size = q at *
  have no : mayT s = false → K (.bool false) w1 := fun hq => by have := h w1 b1; rw [hq] at this; exact this
  have may := @mayT_iff s
  have no' : ¬ (mayT s = true) → K (.bool false) w1 := fun hq => no (by simpa using hq)
  have step : ∀ {c : Prop}, c → c := id
  by_cases g1 : s.d < 1
  · (repeat (first | refine fA_Stp_0 ?_ | (refine ld_TL_0 ?_ (by assumption) ?_ ?_; rotate_left; exact rfl) | refine trace_May_P2_r ?_ | refine trace_May_A1_r ?_ | refine bin_lss ?_ | refine cond_t (by omega) ?_))
    exact no' (by rw [may]; omega)
  by_cases g2 : s.d > 12
  · (repeat (first | refine fA_Stp_0 ?_ | (refine ld_TL_0 ?_ (by assumption) ?_ ?_; rotate_left; exact rfl) | refine trace_May_P2_r ?_ | refine trace_May_A1_r ?_ | refine bin_lss ?_ | refine bin_gtr ?_ | refine cond_t (by omega) ?_ | refine cond_f (by omega) ?_))
    exact no' (by rw [may]; omega)
  by_cases g3 : s.kind > 7
  · (repeat (first | refine fA_Stp_0 ?_ | refine fA_Stp_2 ?_ | refine fA_Tas_0 ?_ | (refine ld_TL_0 ?_ (by assumption) ?_ ?_; rotate_left; exact rfl) | refine trace_May_P2_r ?_ | refine trace_May_A1_r ?_ | refine bin_lss ?_ | refine bin_gtr ?_ | refine cond_t (by omega) ?_ | refine cond_f (by omega) ?_))
    exact no' (by rw [may]; omega)
  (repeat (first | refine fA_Stp_0 ?_ | refine fA_Stp_1 ?_ | refine fA_Stp_2 ?_ | refine fA_Stp_3 ?_ | refine fA_Stp_4 ?_ | refine fA_Tas_0 ?_ | refine fA_Tas_2 ?_ | (refine ld_TL_0 ?_ (by assumption) ?_ ?_; rotate_left; exact rfl) | (refine ld_TL_1 ?_ (by assumption) ?_ ?_; rotate_left; exact rfl) | refine trace_May_P2_r ?_ | refine trace_May_A1_r ?_ | refine bin_lss ?_ | refine bin_gtr ?_ | refine cond_f (by omega) ?_))
  refine bldSG (vs := [i6 s.who, i6 s.j, i6 s.k, i6 s.to]) Tryz.underlying25 (s := 1) (by kernel_rfl) (by kernel_rfl) (by omega) rfl (by simp) (by simp) (by simp) (by simp [Value.cells, i6]) ?_
  intro w2 hb2 b2 s2
  have hr2 : RN w2 (some ⟨w1.heap.size, 0, none⟩) 4 4 [s.who, s.j, s.k, s.to] := rv_blk (by simpa [Value.cells, i6] using hb2)
  refine within_c (lo := -1) (hi := 255) hr2 (by omega) ?_
  have hb2' : blk w2 q 27 (stC s (.slice a s.picks.length c)) := below_blk b2 hb (by omega)
  refine un_not ?_
  have hlist : [s.who, s.j, s.k, s.to].all (inB (-1) 255) = true ↔ (-1 ≤ s.who ∧ s.who ≤ 255) ∧ (-1 ≤ s.j ∧ s.j ≤ 255) ∧ (-1 ≤ s.k ∧ s.k ≤ 255) ∧ (-1 ≤ s.to ∧ s.to ≤ 255) := by simp [inB_iff, and_assoc]
  have no2 : ∀ w', Below q w w' → ¬ (mayT s = true) → K (Value.bool false) w' := fun w' hb hq => by have := h w' hb; rw [show mayT s = false by simpa using hq] at this; exact this
  have b12 : Below q w w2 := b1.trans (b2.mono (by omega))
  cases g4 : [s.who, s.j, s.k, s.to].all (inB (-1) 255) with
  | false =>
    rw [Bool.not_false]
    (repeat (first | refine trace_May_P3_r ?_ | refine trace_May_A2_r ?_ | refine cond_T ?_))
    exact no2 _ b12 (by rw [may]; intro hh; have := hlist.2 ⟨hh.2.2.1, hh.2.2.2.1, hh.2.2.2.2.1, hh.2.2.2.2.2.1⟩; rw [g4] at this; cases this)
  | true =>
  have hl4 := hlist.1 g4
  rw [Bool.not_true]
  (repeat (first | refine fA_Stp_5 ?_ | (refine ld_TL_1 ?_ (by assumption) ?_ ?_; rotate_left; exact rfl) | refine trace_May_A2_r ?_ | refine cond_F ?_))
  refine bldSG (vs := [i6 s.n]) Tryz.underlying25 (s := 1) (by kernel_rfl) (by kernel_rfl) (by omega) rfl (by simp) (by simp) (by simp) (by simp [Value.cells, i6]) ?_
  intro w3 hb3 b3 s3
  have hr3 : RN w3 (some ⟨w2.heap.size, 0, none⟩) 1 1 [s.n] := rv_blk (by simpa [Value.cells, i6] using hb3)
  refine within_c (lo := -1) (hi := 1073741824) hr3 (by omega) ?_
  have hb3' : blk w3 q 27 (stC s (.slice a s.picks.length c)) := below_blk b3 hb2' (by omega)
  have b13 : Below q w w3 := b12.trans (b3.mono (by omega))
  refine un_not ?_
  cases g5 : [s.n].all (inB (-1) 1073741824) with
  | false =>
    rw [Bool.not_false]
    (repeat (first | refine trace_May_P3_r ?_ | refine cond_T ?_))
    exact no2 _ b13 (by rw [may]; intro hh; have : [s.n].all (inB (-1) 1073741824) = true := (by rw [List.all_cons, List.all_nil, Bool.and_true]; exact inB_iff.2 hh.2.2.2.2.2.2.1); rw [g5] at this; cases this)
  | true =>
  have hl5 : -1 ≤ s.n ∧ s.n ≤ 1073741824 := by simpa [inB_iff] using g5
  rw [Bool.not_true]
  by_cases g6 : s.am < -1
  · (repeat (first | refine fA_Stp_2 ?_ | refine fA_Tas_3 ?_ | (refine ld_TL_3 ?_ (by assumption) ?_ ?_; rotate_left; exact rfl) | refine trace_May_P3_r ?_ | refine trace_May_P4_r ?_ | refine trace_May_A3_r ?_ | refine bin_lss ?_ | refine cond_F ?_ | refine cond_t (by omega) ?_))
    exact no2 _ b13 (by rw [may]; omega)
  by_cases g7 : s.am > 1152921504606846976
  · (repeat (first | refine fA_Stp_2 ?_ | refine fA_Tas_3 ?_ | (refine ld_TL_3 ?_ (by assumption) ?_ ?_; rotate_left; exact rfl) | refine trace_May_P3_r ?_ | refine trace_May_P4_r ?_ | refine trace_May_A3_r ?_ | refine bin_lss ?_ | refine bin_gtr ?_ | refine cond_F ?_ | refine cond_t (by omega) ?_ | refine cond_f (by omega) ?_))
    exact no2 _ b13 (by rw [may]; omega)
  (repeat (first | refine fA_Stp_2 ?_ | refine fA_Stp_6 ?_ | refine fA_Tas_3 ?_ | (refine ld_TL_3 ?_ (by assumption) ?_ ?_; rotate_left; exact rfl) | (refine ld_TL_4 ?_ (by assumption) ?_ ?_; rotate_left; exact rfl) | refine trace_May_P3_r ?_ | refine trace_May_A3_r ?_ | refine bin_lss ?_ | refine bin_gtr ?_ | refine cond_F ?_ | refine cond_f (by omega) ?_))
  refine len_slc Tryz.underlying25 ?_
  by_cases g8 : (s.picks.length : Int) > 255
  · (repeat (first | refine trace_May_P4_r ?_ | refine bin_gtr ?_ | refine cond_t (by omega) ?_))
    exact no2 _ b13 (by rw [may]; omega)
  (repeat (first | refine fA_Stp_6 ?_ | (refine ld_TL_4 ?_ (by assumption) ?_ ?_; rotate_left; exact rfl) | refine trace_May_P1_r ?_ | refine trace_May_P4_r ?_ | refine bin_gtr ?_ | refine cond_f (by omega) ?_))
  have hr4 : RN w3 a s.picks.length c s.picks := hr.below b13 (by omega)
  refine within_c (lo := -1) (hi := 254) hr4 hn ?_
  have hm : mayT s = s.picks.all (inB (-1) 254) := by
    cases hq : s.picks.all (inB (-1) 254) with
    | true => rw [may]; exact ⟨by omega, by omega, hl4.1, hl4.2.1, hl4.2.2.1, hl4.2.2.2, hl5, by omega, by omega, hq⟩
    | false =>
      cases hq2 : mayT s with
      | false => rfl
      | true => have := may.1 hq2; rw [hq] at this; simp at this
  rw [← hm]
  exact h _ b13
end
/-- Of what was there only block p has turned. -/
structure Tn (p : Nat) (w w' : World) : Prop where
  os : w'.os = w.os
  tape : w'.tape = w.tape
  output : w'.output = w.output
  size : w.heap.size ≤ w'.heap.size
  block : ∀ k, k < w.heap.size → k ≠ p → w'.heap[k]? = w.heap[k]?
theorem Tn.of {p : Nat} {w w' w2 : World} (h : Below w.heap.size w w') (k : Oth p w' w2) : Tn p w w2 :=
  ⟨k.os.trans h.os, k.tape.trans h.tape, k.output.trans h.output, by rw [k.size]; exact h.size, fun i hi hne => (k.other i hne).trans (h.block i hi)⟩
theorem Tn.below {p B : Nat} {w w' : World} (h : Tn p w w') (hB : B ≤ p) (hs : B ≤ w.heap.size) : Below B w w' := ⟨h.os, h.tape, h.output, h.size, fun k hk => h.block k (by omega) (by omega)⟩
theorem Tn.blk {p b : Nat} {w w' : World} {E : TypeId} {cs : List Value} (h : Tn p w w') (hb : blk w b E cs) (hne : b ≠ p) : blk w' b E cs := by
  unfold Go.Proofs.YtfjafbbalohmhaaGreatDoor.blk; rw [h.block b hb.lt hne]; exact hb
theorem putS_ok {l : List UInt8} {x k : Nat} (hk : k = 1 ∨ k = 2 ∨ k = 4 ∨ k = 8) (hx : x < 256 ^ k) : putS l x (k : Int) = (l ++ beBytes x k, 0) := by
  have hw : widthOf (k : Int) ≠ 0 := by rcases hk with rfl | rfl | rfl | rfl <;> decide
  unfold putS
  rw [if_neg hw, if_neg (by rw [Int.toNat_natCast]; omega), Int.toNat_natCast]
section
variable {w : World} {K : KV}
theorem pput_c {p : Nat} {a : Option Addr} {n c : Nat} {l : List UInt8} {x k : Nat} (hp : blk w p 69 [.slice a n c]) (hb : RB w a n c l) (hn : n ≤ 140737488351232) (hk : k = 1 ∨ k = 2 ∨ k = 4 ∨ k = 8) (hx : x < 256 ^ k)
    (h : ∀ a' n' c' w', blk w' p 69 [.slice a' n' c'] → RB w' a' n' c' (l ++ beBytes x k) → Tn p w w' → K (.tuple #[]) w') : call Tryz.prog 26 #[.pointer (some ⟨p, 0, none⟩), .int .u64 (x : Nat), .int .i64 (k : Nat)] K w := by
  have hx64 : x < 18446744073709551616 := Nat.lt_of_lt_of_le hx (by rcases hk with rfl | rfl | rfl | rfl <;> decide)
  refine call_of trace_pen_put_go (trace_pen_put_in ?_)
  refine nilC_p ?_
  refine ld1 (fun _ => by kernel_rfl) hp rfl ?_
  refine put_c hb hn hx64 ?_
  intro a' n' c' w1 ho b1
  rw [putS_ok hk hx] at ho ⊢
  refine ext_a ?_
  refine ext_b ?_
  refine nilC_p ?_
  have hlt := hp.lt
  refine sto1 (fun _ => by kernel_rfl) (below_blk b1 hp hlt) (by simp) rfl ?_
  intro w2 hb2 o2
  have ho2 : OB w2 w.heap.size a' n' c' (l ++ beBytes x k) := ownS ho fun i hi => o2.other i (by have := (OV.block ho i hi).1; omega)
  exact h a' n' c' w2 hb2 (OV.rv ho2) (Tn.of b1 o2)
/-- The bytes so far, and the step. -/
structure PSt (B : Nat) (w : World) (p q : Nat) (s : STP) (v : Value) (l : List UInt8) : Prop where
  pen : ∃ a n c, blk w p 69 [.slice a n c] ∧ RB w a n c l
  stp : blk w q 27 (stC s v)
  hp : B ≤ p
  hne : q ≠ p
theorem pst_c {B p q : Nat} {s : STP} {v : Value} {l : List UInt8} {x k : Nat} (hs : PSt B w p q s v l) (hBw : B ≤ w.heap.size) (hl : l.length ≤ 1000) (hk : k = 1 ∨ k = 2 ∨ k = 4 ∨ k = 8) (hx : x < 256 ^ k)
    (h : ∀ w', PSt B w' p q s v (l ++ beBytes x k) → Below B w w' → Tn p w w' → K (.tuple #[]) w') : call Tryz.prog 26 #[.pointer (some ⟨p, 0, none⟩), .int .u64 (x : Nat), .int .i64 (k : Nat)] K w := by
  obtain ⟨a, n, c, hb, hr⟩ := hs.pen
  have hn := hr.len
  refine pput_c hb hr (by omega) hk hx ?_
  intro a' n' c' w' h1 h2 h3
  exact h w' ⟨⟨a', n', c', h1, h2⟩, h3.blk hs.stp hs.hne, hs.hp, hs.hne⟩ (h3.below hs.hp hBw) h3
end
end Go.Proofs.YtfjafbbalohmhaaGreatDoor
