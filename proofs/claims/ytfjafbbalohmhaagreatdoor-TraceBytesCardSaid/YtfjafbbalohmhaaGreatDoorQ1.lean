/- Laid together: Base Rules Mem Wk Own SOct SClone. -/
import Derived.Test.YtfjafbbalohmhaaGreatDoorSh
import Derived.WalkKit
import Derived.WalkSpells
import Derived.WalkLawsBesides
import Derived.KernelRfl
import Derived.Lib.Hide
import Derived.Lib.SlBytesConst
import Derived.Deep.MidRow
import Derived.Great.BuildSlice
import Derived.Maps.AppendAt
import Derived.Test.YtfjafbbalohmhaaGreatDoorChecked
/- The base of this seat's proofs: predicates that tell what a slice reads as, and the rules for the operations on slices. Nothing of the program is named here. -/
namespace Go.Proofs.YtfjafbbalohmhaaGreatDoor
set_option maxRecDepth 100000
open Go.RowKit

/-- The address of place i of a row. -/
def slotA (a : Option Addr) (i : Nat) : Addr := match a with | some ⟨b, o, _⟩ => ⟨b, o + i, none⟩ | none => default

theorem slotA_some (b o i : Nat) (s : Option Nat) : slotA (some ⟨b, o, s⟩) i = ⟨b, o + i, none⟩ := rfl

/-- The slice of address a, length n, capacity c reads as the cells xs. -/
structure RV (w : World) (a : Option Addr) (n c : Nat) (xs : List Value) : Prop where
  len : xs.length = n
  cap : n ≤ c
  some_ : 0 < n → ∃ b o, a = some ⟨b, o, none⟩
  nil_ : a = none → n = 0 ∧ c = 0
  cell : ∀ i v, xs[i]? = some v → w.cell? (slotA a i) = some v

theorem RV.blk {w : World} {a : Option Addr} {n c : Nat} {xs : List Value} (h : RV w a n c xs) (i : Nat) (hi : i < n) : (slotA a i).block < w.heap.size := by
  have hl : i < xs.length := by rw [h.len]; exact hi
  exact World.block_lt_of_cell? w _ (h.cell i xs[i] (List.getElem?_eq_getElem hl))

theorem RV.below {w w' : World} {B : Nat} {a : Option Addr} {n c : Nat} {xs : List Value} (h : RV w a n c xs) (hb : Below B w w') (hB : w.heap.size ≤ B) : RV w' a n c xs :=
  ⟨h.len, h.cap, h.some_, h.nil_, fun i v hv => by
    have hlt := World.block_lt_of_cell? w _ (h.cell i v hv)
    rw [hb.cell (p := slotA a i) (Nat.lt_of_lt_of_le hlt hB)]; exact h.cell i v hv⟩

/-- A row stays what it reads as where another block was written. -/
theorem RV.grown {w w' : World} {row : Option Nat} {a : Option Addr} {n c : Nat} {xs : List Value} (h : RV w a n c xs) (hg : w.grownBy w' row) (hne : ∀ i, i < n → row ≠ some (slotA a i).block) : RV w' a n c xs :=
  ⟨h.len, h.cap, h.some_, h.nil_, fun i v hv => by
    have hl : i < n := by rw [← h.len]; exact (List.getElem?_eq_some_iff.1 hv).1
    exact hg.cell (h.cell i v hv) (fun e => hne i hl e.symm)⟩

theorem slotA_block {b o : Nat} {s : Option Nat} (i : Nat) : (slotA (some ⟨b, o, s⟩) i).block = b := rfl

theorem RV.nil (w : World) : RV w none 0 0 [] := ⟨rfl, Nat.le_refl _, fun h => absurd h (by omega), fun _ => ⟨rfl, rfl⟩, fun i v h => by simp at h⟩

theorem slotA_add {a : Option Addr} {i : Nat} (h : a ≠ none) : ∃ ad, a = some ad ∧ ∀ j, slotA a j = ⟨ad.block, ad.off + j, none⟩ := by
  cases a with
  | none => exact absurd rfl h
  | some ad => exact ⟨ad, rfl, fun j => rfl⟩

/-- A cut of a row. -/
theorem RV.cut {w : World} {a : Option Addr} {n c : Nat} {xs : List Value} (h : RV w a n c xs) (l k m : Nat) (hlk : l ≤ k) (hkm : k ≤ m) (hkn : k ≤ n) (hm : m ≤ c) :
    RV w (if m = l then a else a.map (·.add (l * 1))) (k - l) (m - l) ((xs.take k).drop l) := by
  refine ⟨by simp [h.len]; omega, by omega, ?_, ?_, ?_⟩
  · intro hp
    obtain ⟨b, o, rfl⟩ := h.some_ (by omega)
    by_cases hml : m = l
    · omega
    · rw [if_neg hml]
      exact ⟨b, o + l, by simp [Addr.add]⟩
  · intro hn
    by_cases hml : m = l
    · omega
    · rw [if_neg hml] at hn
      cases a with
      | none => have := h.nil_ rfl; omega
      | some ad => simp at hn
  · intro i v hv
    have hi : i < k - l := by
      have := (List.getElem?_eq_some_iff.1 hv).1
      simp [h.len] at this
      omega
    obtain ⟨b, o, rfl⟩ := h.some_ (by omega)
    rw [if_neg (by omega)]
    have he : ((⟨b, o, none⟩ : Addr).add (l * 1)) = ⟨b, o + l, none⟩ := by unfold Addr.add; split <;> simp_all
    simp only [Option.map_some, he, slotA_some]
    have := h.cell (l + i) v (by rw [← hv, List.getElem?_drop, List.getElem?_take]; rw [if_pos (by omega)])
    rw [slotA_some] at this
    rw [Nat.add_assoc]; exact this

/-- Byte c as a cell. -/
def u8v (c : UInt8) : Value := .int .u8 (c.toNat : Int)

/-- .. reads as the bytes l. -/
def RB (w : World) (a : Option Addr) (n c : Nat) (l : List UInt8) : Prop := RV w a n c (l.map u8v)

theorem RB.rv {w : World} {a : Option Addr} {n c : Nat} {l : List UInt8} (h : RB w a n c l) : RV w a n c (l.map u8v) := h
theorem RB.len {w : World} {a : Option Addr} {n c : Nat} {l : List UInt8} (h : RB w a n c l) : l.length = n := by simpa using RV.len h
theorem RB.below {w w' : World} {B : Nat} {a : Option Addr} {n c : Nat} {l : List UInt8} (h : RB w a n c l) (hb : Below B w w') (hB : w.heap.size ≤ B) : RB w' a n c l := RV.below h hb hB
theorem RB.cut {w : World} {a : Option Addr} {n c : Nat} {xs : List UInt8} (h : RB w a n c xs) (l k m : Nat) (hlk : l ≤ k) (hkm : k ≤ m) (hkn : k ≤ n) (hm : m ≤ c) :
    RB w (if m = l then a else a.map (·.add (l * 1))) (k - l) (m - l) ((xs.take k).drop l) := by
  have := RV.cut h l k m hlk hkm hkn hm
  simpa [RB, List.map_drop, List.map_take] using this
theorem RB.cell {w : World} {a : Option Addr} {n c : Nat} {l : List UInt8} (h : RB w a n c l) (i : Nat) (hi : i < l.length) : w.cell? (slotA a i) = some (.int .u8 (l[i].toNat : Int)) :=
  RV.cell h i _ (by simp [List.getElem?_eq_getElem hi, u8v])

/-- A block of the call's own, from block number B on, whose first n cells (of elements of type E, one cell each) are xs. -/
def OV (w : World) (B : Nat) (E : TypeId) (a : Option Addr) (n c : Nat) (xs : List Value) : Prop := w.ownsRow B E 1 (.slice a n c) n xs

theorem OV.rv {w : World} {B : Nat} {E : TypeId} {a : Option Addr} {n c : Nat} {xs : List Value} (h : OV w B E a n c xs) : RV w a n c xs := by
  have hl : xs.length = n := by simpa using h.1
  rcases h.2 with ⟨hv, hn⟩ | ⟨g, cap, cur, hv, hB, hh, hnc, hm, hs, ht⟩
  · simp only [Value.slice.injEq] at hv
    obtain ⟨rfl, _, rfl⟩ := hv
    subst hn
    have : xs = [] := List.eq_nil_of_length_eq_zero hl
    subst this
    exact RV.nil w
  · simp only [Value.slice.injEq] at hv
    obtain ⟨rfl, _, rfl⟩ := hv
    refine ⟨hl, hnc, fun _ => ⟨g, 0, rfl⟩, fun e => by simp at e, fun i v hi => ?_⟩
    have hlt : i < xs.length := (List.getElem?_eq_some_iff.1 hi).1
    rw [slotA_some, Nat.zero_add, cell_of_row w g i cur E (0, 0) hh]
    rw [← ht] at hi
    rw [List.getElem?_take] at hi
    split at hi
    · simpa using hi
    · cases hi

theorem OV.block {w : World} {B : Nat} {E : TypeId} {a : Option Addr} {n c : Nat} {xs : List Value} (h : OV w B E a n c xs) : ∀ k, (Value.slice a n c).ownBlock = some k → B ≤ k ∧ k < w.heap.size := World.ownsRow.lt h

theorem OV.nil (w : World) (B : Nat) (E : TypeId) : OV w B E none 0 0 [] := World.ownsRow_nil w B E 1

theorem OV.mono {w : World} {B B' : Nat} {E : TypeId} {a : Option Addr} {n c : Nat} {xs : List Value} (h : OV w B E a n c xs) (hB : B' ≤ B) : OV w B' E a n c xs := by
  refine ⟨h.1, ?_⟩
  rcases h.2 with h2 | ⟨g, cap, cur, hv, hb, r⟩
  · exact .inl h2
  · exact .inr ⟨g, cap, cur, hv, Nat.le_trans hB hb, r⟩

theorem OV.below {w w' : World} {B D : Nat} {E : TypeId} {a : Option Addr} {n c : Nat} {xs : List Value} (h : OV w B E a n c xs) (hb : Below D w w') (hD : w.heap.size ≤ D) : OV w' B E a n c xs := by
  refine ⟨h.1, ?_⟩
  rcases h.2 with h2 | ⟨g, cap, cur, hv, hB, hh, r⟩
  · exact .inl h2
  · have hlt : g < w.heap.size := (Array.getElem?_eq_some_iff.1 hh).1
    exact .inr ⟨g, cap, cur, hv, hB, (hb.block g (by omega)).trans hh, r⟩

theorem below_of_grown {w w' : World} {B : Nat} {row : Option Nat} (hg : w.grownBy w' row) (hB : B ≤ w.heap.size) (hr : ∀ k, row = some k → B ≤ k) : Below B w w' :=
  (Below.refl B w).grown hg hB hr

section
variable {P : Program} (w : World)

/-- append of whatever reads as ys to a row of the call's own. -/
theorem run_append_ov (base : Nat) (t ty e : TypeId) (i : TypeInfo) (z : Value) (bytes : Nat) (ht : P.underlying t = some (.slice e)) (hi : P.info? e = some i) (hz : i.zero = some z)
    (hsize : i.size = 1) (hby : i.bytes = bytes) (hzs : z.cells.size = 1)
    {a : Option Addr} {n c : Nat} {xs : List Value} (hown : OV w base e a n c xs) {a2 : Option Addr} {m c2 : Nat} {ys : List Value} (hy : RV w a2 m c2 ys) (h1 : ∀ u ∈ ys, u.oneCell' = true)
    (hbytes : (n + m) * bytes ≤ 140737488355328) (h63 : n + m ≤ 9223372036854775807) (hbase : base ≤ w.heap.size) :
    ∃ a' c' w', (Builtin.append_ #[t, t] ty #[.slice a n c, .slice a2 m c2]).run P w = .ok (.slice a' (n + m) c') w' ∧ OV w' base e a' (n + m) c' (xs ++ ys) ∧ w.grownBy w' (Value.slice a n c).ownBlock := by
  have fin : ∀ (v' : Value) (w' : World), w'.ownsRow base e 1 v' (n + m) (xs ++ ys) → ∃ a' c', v' = .slice a' (n + m) c' := by
    intro v' w' h
    rcases h.2 with ⟨hv, hn⟩ | ⟨g, cap, cur, hv, _⟩
    · exact ⟨none, 0, by rw [hv, hn]⟩
    · exact ⟨_, cap, hv⟩
  cases a2 with
  | some ad =>
    have hn : ∀ j u, ys[j]? = some u → w.cell? (ad.add j) = some u := by
      intro j u hj
      have hlt : j < m := by rw [← hy.len]; exact (List.getElem?_eq_some_iff.1 hj).1
      obtain ⟨b, o, hbo⟩ := hy.some_ (by omega)
      have hc := hy.cell j u hj
      cases hbo
      rw [slotA_some] at hc
      have he : ((⟨b, o, none⟩ : Addr).add j) = ⟨b, o + j, none⟩ := by unfold Addr.add; split <;> simp_all
      rw [he]; exact hc
    obtain ⟨v', w', hr, h2, h3, _⟩ := run_append_own (P := P) w base t ty e i z 1 bytes ht hi hz hsize hby hzs (by omega) _ n xs hown ad m c2 ys (by simp [hy.len]) hn h1 (by simp only [maxLen]; omega) hbytes hbase
    obtain ⟨a', c', rfl⟩ := fin _ _ h2
    exact ⟨a', c', w', hr, h2, h3⟩
  | none =>
    obtain ⟨rfl, rfl⟩ := hy.nil_ rfl
    have : ys = [] := List.eq_nil_of_length_eq_zero hy.len
    subst this
    refine ⟨a, c, w, run_append_owned_none (P := P) w base t ty e i 1 ht hi _ n xs hown, by simpa using hown, World.grownBy.refl _ _⟩

variable {ops : Array Oper} {rest : List Oper} {a : Act} {Q : Exit → Act → World → Prop} {dst : Option Tmp} {ty : TypeId} {pos : String} {after : Array Edge}

theorem at_append (s x : Operand) (t : TypeId) (base : Nat) (e : TypeId) (i : TypeInfo) (z : Value) (bytes : Nat) (ht : P.underlying t = some (.slice e)) (hi : P.info? e = some i) (hz : i.zero = some z)
    (hsize : i.size = 1) (hby : i.bytes = bytes) (hzs : z.cells.size = 1)
    {av : Option Addr} {n c : Nat} {xs : List Value} (hs : a.eval s = .slice av n c) {a2 : Option Addr} {m c2 : Nat} {ys : List Value} (hx : a.eval x = .slice a2 m c2)
    (hown : OV w base e av n c xs) (hy : RV w a2 m c2 ys) (h1 : ∀ u ∈ ys, u.oneCell' = true)
    (hbytes : (n + m) * bytes ≤ 140737488355328) (h63 : n + m ≤ 9223372036854775807) (hbase : base ≤ w.heap.size)
    (h : ∀ a' c' w', OV w' base e a' (n + m) c' (xs ++ ys) → w.grownBy w' (Value.slice av n c).ownBlock → wpList P ops Q rest (a.put dst (.slice a' (n + m) c')) w') :
    wpList P ops Q (⟨dst, .call { callee := .builtin .append, args := #[s, x], argTypes := #[t, t] }, ty, pos, after, none⟩ :: rest) a w := by
  obtain ⟨a', c', w', hr, h2, h3⟩ := run_append_ov (P := P) w base t ty e i z bytes ht hi hz hsize hby hzs hown hy h1 hbytes h63 hbase
  refine wpList_plain rfl fun K hK => ?_
  unfold Oper.wp execOp
  simp only [resolve, invoke, builtin, Sem.run_bind, Sem.run_pure, Result.andThen_ok, List.map_toArray, List.map_cons, List.map_nil, hs, hx, hr]
  exact hK _ _ (h a' c' w' h2 h3)

theorem at_index (t e : TypeId) (x ix : Operand) (ht : P.underlying t = some (.slice e)) (hs : ∀ w, (sizeOf e).run P w = .ok 1 w) {av : Option Addr} {n c : Nat} {k : IntKind} {iv : Int}
    (hx : a.eval x = .slice av n c) (hi : a.eval ix = .int k iv) (h0 : 0 ≤ iv) (h1 : iv < n) (hsome : 0 < n → ∃ b o, av = some ⟨b, o, none⟩)
    (h : wpList P ops Q rest (a.put dst (.pointer (some (slotA av iv.toNat)))) w) :
    wpList P ops Q (⟨dst, .indexAddr t x ix, ty, pos, after, none⟩ :: rest) a w := by
  obtain ⟨b, o, rfl⟩ := hsome (by omega)
  refine wpList_plain rfl fun K hK => ?_
  unfold Oper.wp execOp
  have he : ((⟨b, o, none⟩ : Addr).add iv.toNat) = ⟨b, o + iv.toNat, none⟩ := by unfold Addr.add; split <;> simp_all
  simp only [hx, hi, Instr.indexAt, asIntOf, Sem.run_bind, Sem.run_pure, Result.andThen_ok, run_underlying ht, hs, h0, h1, and_self, if_true, Nat.mul_one, he]
  exact hK _ _ h

/-- A cell is loaded. -/
theorem at_load (t : TypeId) (p : Operand) (ht : ∀ w' (ad : Addr) v, w'.cell? ad = some v → (loadVar t ad).run P w' = .ok v w') {ad : Addr} {v : Value}
    (hp : a.eval p = .pointer (some ad)) (hc : w.cell? ad = some v) (h : wpList P ops Q rest (a.put dst v) w) :
    wpList P ops Q (⟨dst, .load t p, ty, pos, after, none⟩ :: rest) a w := by
  refine wpList_plain rfl fun K hK => ?_
  unfold Oper.wp execOp
  simp only [hp, Instr.loadAt, Instr.sureAddr, Sem.run_bind, Sem.run_pure, Result.andThen_ok, ht w ad v hc]
  exact hK _ _ h

/-- 'x[lo:hi]' of a slice; where there is no bound its place holds none. -/
theorem at_slice (t e : TypeId) (x : Operand) (lo hi : Option Operand) (ht : P.underlying t = some (.slice e)) (hs : ∀ w, (sizeOf e).run P w = .ok 1 w) {av : Option Addr} {n c : Nat} {l h : Nat} {xs : List Value}
    (hx : a.eval x = .slice av n c) (hr : RV w av n c xs)
    (hlo : (lo = none ∧ l = 0) ∨ ∃ o k, lo = some o ∧ a.eval o = .int k (l : Int)) (hhi : (hi = none ∧ h = n) ∨ ∃ o k, hi = some o ∧ a.eval o = .int k (h : Int)) (hlh : l ≤ h) (hhn : h ≤ n)
    (hk : ∀ a', RV w a' (h - l) (c - l) ((xs.take h).drop l) → wpList P ops Q rest (a.put dst (.slice a' (h - l) (c - l))) w) :
    wpList P ops Q (⟨dst, .slice t x lo hi none, ty, pos, after, none⟩ :: rest) a w := by
  refine wpList_plain rfl fun K hK => ?_
  have hnc := hr.cap
  have hb : (Instr.sliceBounds true n c (lo.map a.eval) (hi.map a.eval) none).run P w = .ok (l, h, c) w := by
    have e1 : (Instr.sliceBounds true n c (lo.map a.eval) (hi.map a.eval) none) = (Instr.sliceBounds true n c (lo.map a.eval) (hi.map a.eval) none) := rfl
    have sb : ∀ (k : IntKind) (i y : Nat) (code : BoundsCode), i ≤ y → (Instr.sliceBound (.int k (i : Int)) y code).run P w = .ok i w := by
      intro k i y code hi
      have := run_sliceBound (P := P) w k (i : Int) y code (by omega) (by omega)
      simpa using this
    rcases hlo with ⟨rfl, rfl⟩ | ⟨ol, kl, rfl, hl⟩ <;> rcases hhi with ⟨rfl, rfl⟩ | ⟨oh, kh, rfl, hh⟩
    · simp [Instr.sliceBounds]
    · simp [Instr.sliceBounds, hh, sb kh h c _ (by omega)]
    · simp [Instr.sliceBounds, hl, sb kl l h _ hlh]
    · simp [Instr.sliceBounds, hl, hh, sb kh h c _ (by omega), sb kl l h _ hlh]
  unfold Oper.wp execOp
  simp only [hx, Instr.sliceAt, Instr.slice, Sem.run_bind, Sem.run_pure, Result.andThen_ok, run_underlying ht, hs, Option.map_none, hb]
  exact hK _ _ (hk _ (hr.cut l h c hlh (by omega) hhn (Nat.le_refl _)))

/-- A slice of one new element. -/
theorem run_build1 (t e : TypeId) (i : TypeInfo) (z : Value) (ht : P.underlying t = some (.slice e)) (hi : P.info? e = some i) (hz : i.zero = some z) (hsize : i.size = 1) (hzs : z.cells.size = 1)
    (v : Value) (hv : v.cells = #[v]) :
    (Instr.buildSlice t 1 #[(0, v)]).run P w = .ok (.slice (some ⟨w.heap.size, 0, none⟩) 1 1) (w.alloc (.cells #[v] e)) := by
  obtain ⟨z0, hz0⟩ : ∃ z0, z.cells = #[z0] := by
    match hc : z.cells, hzs with
    | ⟨[z0]⟩, _ => exact ⟨z0, rfl⟩
  have hr : (Array.range 1).map (fun k => z.cells[k % z.cells.size]!) = #[z0] := by
    rw [hz0]
    apply Array.ext
    · simp
    · intro j h1 h2
      have : j = 0 := by simpa using h2
      subst this
      simp
  simp [Instr.buildSlice, Instr.fill, run_underlying ht, sizeOf, typeInfo, hi, hsize, zeroValue, hz, hv, newRow, hr]

theorem at_build1 (t e : TypeId) (x : Operand) (i : TypeInfo) (z : Value) (ht : P.underlying t = some (.slice e)) (hi : P.info? e = some i) (hz : i.zero = some z) (hsize : i.size = 1) (hzs : z.cells.size = 1)
    {v : Value} (hx : a.eval x = v) (hv : v.cells = #[v])
    (hk : RV (w.alloc (.cells #[v] e)) (some ⟨w.heap.size, 0, none⟩) 1 1 [v] → wpList P ops Q rest (a.put dst (.slice (some ⟨w.heap.size, 0, none⟩) 1 1)) (w.alloc (.cells #[v] e))) :
    wpList P ops Q (⟨dst, .buildSlice t 1 #[(0, x)], ty, pos, after, none⟩ :: rest) a w := by
  refine wpList_plain rfl fun K hK => ?_
  unfold Oper.wp execOp
  have hm : (#[(0, x)] : Array (Nat × Operand)).map (fun (i, x) => (i, a.eval x)) = #[(0, v)] := by simp [hx]
  simp only [hm, Sem.run_bind, Sem.run_pure, Result.andThen_ok, run_build1 w t e i z ht hi hz hsize hzs v hv]
  refine hK _ _ (hk ⟨rfl, Nat.le_refl _, fun _ => ⟨_, _, rfl⟩, (fun h => by simp at h), fun j u hu => ?_⟩)
  have : j = 0 := by
    have := (List.getElem?_eq_some_iff.1 hu).1
    simpa using this
  subst this
  simp at hu
  subst hu
  rw [slotA_some, World.cell?_alloc_at _ _ _ _ rfl]; rfl

end


theorem bstr_inj {l m : List UInt8} : bstr l = bstr m ↔ l = m := by
  constructor
  · intro h
    have := congrArg (fun s => s.data.toList) h
    simpa [bstr] using this
  · intro h; rw [h]

theorem bstr_toList (l : List UInt8) : (bstr l).toList = l := by
  simp [bstr]

@[go_sem ↓] theorem binOp_bstr_eql (t : TypeId) (l m : List UInt8) : binOp .eql t (.string (bstr l)) (.string (bstr m)) = pure (.bool (l == m)) := by
  rw [binOp_string_eql, bstr_toList, bstr_toList]
@[go_sem ↓] theorem binOp_bstr_neq (t : TypeId) (l m : List UInt8) : binOp .neq t (.string (bstr l)) (.string (bstr m)) = pure (.bool (!(l == m))) := by
  rw [binOp_string_neq, bstr_toList, bstr_toList]
@[go_sem ↓] theorem binOp_bstr_lss (t : TypeId) (l m : List UInt8) : binOp .lss t (.string (bstr l)) (.string (bstr m)) = pure (.bool (Op.bytesLess l m)) := by
  rw [binOp_string_lss, bstr_toList, bstr_toList]

section
variable {P : Program} (w : World)
variable {ops : Array Oper} {rest : List Oper} {a : Act} {Q : Exit → Act → World → Prop} {dst : Option Tmp} {ty : TypeId} {pos : String} {after : Array Edge}

theorem strOfNums_u8 (l : List UInt8) : strOfNums (l.map fun c => (c.toNat : Int)) = bstr l := by
  simp only [strOfNums, bstr, List.map_map]
  congr 1
  have : ((fun n : Int => UInt8.ofNat n.toNat) ∘ fun c : UInt8 => (c.toNat : Int)) = id := by
    funext c; simp
  rw [this]; simp

theorem run_bytes_str (src e dst : TypeId) (hs : P.underlying src = some (.slice e)) (he : P.underlying e = some (.int .u8)) (hd : P.underlying dst = some .string) {av : Option Addr} {n c : Nat} {l : List UInt8} (h : RB w av n c l) :
    (convert src dst (.slice av n c)).run P w = .ok (.string (bstr l)) w := by
  cases av with
  | none =>
    obtain ⟨rfl, rfl⟩ := RV.nil_ h rfl
    have : l = [] := List.eq_nil_of_length_eq_zero h.len
    subst this
    rw [run_convert_bytes_nil (P := P) w src e hs he 0 0 dst hd]
    rfl
  | some ad =>
    rw [run_convert_bytes_string w src dst e _ n c hs he hd]
    by_cases h0 : n = 0
    · subst h0
      have : l = [] := List.eq_nil_of_length_eq_zero h.len
      subst this
      have hl : (loadCells ad 0).run P w = .ok (([] : List Int).map (Value.int .u8)).toArray w := by simp [loadCells, loadCellsFrom]
      rw [run_bytesToString w _ 0 c [] hl]
      rfl
    · obtain ⟨b, o, hbo⟩ := RV.some_ h (by omega)
      cases hbo
      rw [← run_convert_bytes_string w src dst e _ n c hs he hd]
      rw [run_convert_bytes_arg w src e hs he b o n c (l.map fun c => (c.toNat : Int)) (by simpa using h.len) ?_ dst hd]
      · rw [strOfNums_u8]
      · intro i hi
        have hl : i < l.length := by rw [h.len]; exact hi
        have := h.cell i hl
        rw [slotA_some] at this
        rw [this]
        simp [List.getD, hl]

theorem at_str (src e dt : TypeId) (x : Operand) (hs : P.underlying src = some (.slice e)) (he : P.underlying e = some (.int .u8)) (hd : P.underlying dt = some .string) {av : Option Addr} {n c : Nat} {l : List UInt8}
    (hx : a.eval x = .slice av n c) (hr : RB w av n c l) (h : wpList P ops Q rest (a.put dst (.string (bstr l))) w) :
    wpList P ops Q (⟨dst, .convert src dt x, ty, pos, after, none⟩ :: rest) a w := by
  refine wpList_plain rfl fun K hK => ?_
  unfold Oper.wp execOp
  simp only [hx, Sem.run_bind, Sem.run_pure, Result.andThen_ok, run_bytes_str w src e dt hs he hd hr]
  exact hK _ _ h

end
end Go.Proofs.YtfjafbbalohmhaaGreatDoor
/- The rules by which a text of the second reading is gone through: each says what an operation leaves. Nothing of the program is named here. -/
namespace Go.Proofs.YtfjafbbalohmhaaGreatDoor
set_option maxRecDepth 100000
open Go.RowKit

theorem wrap_i64 {n : Int} (h1 : -9223372036854775808 ≤ n) (h2 : n ≤ 9223372036854775807) : IntKind.i64.wrap n = n := IntWalk.i64_in n ⟨h1, h2⟩
theorem wrap_u64 (n : Int) : IntKind.u64.wrap n = n % 18446744073709551616 := by simp [IntKind.wrap, IntKind.signed, IntKind.bits]
theorem wrap_u32 (n : Int) : IntKind.u32.wrap n = n % 4294967296 := by simp [IntKind.wrap, IntKind.signed, IntKind.bits]
theorem wrap_u16 (n : Int) : IntKind.u16.wrap n = n % 65536 := by simp [IntKind.wrap, IntKind.signed, IntKind.bits]
theorem wrap_u8 (n : Int) : IntKind.u8.wrap n = n % 256 := by simp [IntKind.wrap, IntKind.signed, IntKind.bits]

section
variable {P : Program} {K : KV} {w : World} {t : TypeId} {cx cy : Bool}

theorem bin_of {op : BinOp} {x y v : Value} (hg : (eqG op t cx cy x y).run P w = .ok () w) (hb : (binOp op t x y).run P w = .ok v w) (h : K v w) : bin P op t cx cy x y K w := by
  unfold bin
  refine okV_of (w' := w) (v := v) ?_ h
  simp only [Sem.run_bind, hg, Result.andThen_ok, hb]

theorem eqG_int (op : BinOp) (k k' : IntKind) (a b : Int) : (eqG op t cx cy (.int k a) (.int k' b)).run P w = .ok () w := by
  unfold eqG eqGuard; cases op <;> simp [Sem.run_pure]
theorem eqG_bool (op : BinOp) (a b : Bool) : (eqG op t cx cy (.bool a) (.bool b)).run P w = .ok () w := by
  unfold eqG eqGuard; cases op <;> simp [Sem.run_pure]
theorem eqG_string (op : BinOp) (a b : ByteArray) : (eqG op t cx cy (.string a) (.string b)).run P w = .ok () w := by
  unfold eqG eqGuard; cases op <;> simp [Sem.run_pure]

variable {k : IntKind} {a b : Int}
theorem bin_eql (h : K (.bool (decide (a = b))) w) : bin P .eql t cx cy (.int k a) (.int k b) K w := by
  refine bin_of (eqG_int ..) ?_ h
  have : (a == b) = decide (a = b) := by by_cases hh : a = b <;> simp [hh]
  simp [binOp, Op.intCmp, Sem.run_pure, this]
theorem bin_neq (h : K (.bool (decide (a ≠ b))) w) : bin P .neq t cx cy (.int k a) (.int k b) K w := by
  refine bin_of (eqG_int ..) ?_ h
  have : (a != b) = decide (a ≠ b) := by by_cases hh : a = b <;> simp [hh]
  simp only [binOp, Op.intCmp, ne_eq, not_true_eq_false, if_false, Sem.run_pure, this]
theorem bin_lss (h : K (.bool (decide (a < b))) w) : bin P .lss t cx cy (.int k a) (.int k b) K w := by
  refine bin_of (eqG_int ..) ?_ h
  simp [binOp, Op.intCmp, Sem.run_pure]
theorem bin_leq (h : K (.bool (decide (a ≤ b))) w) : bin P .leq t cx cy (.int k a) (.int k b) K w := by
  refine bin_of (eqG_int ..) ?_ h
  simp [binOp, Op.intCmp, Sem.run_pure]
theorem bin_gtr (h : K (.bool (decide (b < a))) w) : bin P .gtr t cx cy (.int k a) (.int k b) K w := by
  refine bin_of (eqG_int ..) ?_ h
  simp [binOp, Op.intCmp, Sem.run_pure]
theorem bin_geq (h : K (.bool (decide (b ≤ a))) w) : bin P .geq t cx cy (.int k a) (.int k b) K w := by
  refine bin_of (eqG_int ..) ?_ h
  simp [binOp, Op.intCmp, Sem.run_pure]
theorem bin_add (h : K (.int k (k.wrap (a + b))) w) : bin P .add t cx cy (.int k a) (.int k b) K w := by
  refine bin_of (eqG_int ..) ?_ h
  simp [binOp, Op.intArith, Sem.run_pure]
theorem bin_sub (h : K (.int k (k.wrap (a - b))) w) : bin P .sub t cx cy (.int k a) (.int k b) K w := by
  refine bin_of (eqG_int ..) ?_ h
  simp [binOp, Op.intArith, Sem.run_pure]
theorem bin_mul (h : K (.int k (k.wrap (a * b))) w) : bin P .mul t cx cy (.int k a) (.int k b) K w := by
  refine bin_of (eqG_int ..) ?_ h
  simp [binOp, Op.intArith, Sem.run_pure]
theorem add64 (h1 : -9223372036854775808 ≤ a + b) (h2 : a + b ≤ 9223372036854775807) (h : K (.int .i64 (a + b)) w) : bin P .add t cx cy (.int .i64 a) (.int .i64 b) K w :=
  bin_add (by rw [wrap_i64 h1 h2]; exact h)
theorem sub64 (h1 : -9223372036854775808 ≤ a - b) (h2 : a - b ≤ 9223372036854775807) (h : K (.int .i64 (a - b)) w) : bin P .sub t cx cy (.int .i64 a) (.int .i64 b) K w :=
  bin_sub (by rw [wrap_i64 h1 h2]; exact h)
theorem mul64 (h1 : -9223372036854775808 ≤ a * b) (h2 : a * b ≤ 9223372036854775807) (h : K (.int .i64 (a * b)) w) : bin P .mul t cx cy (.int .i64 a) (.int .i64 b) K w :=
  bin_mul (by rw [wrap_i64 h1 h2]; exact h)
theorem bin_rem (hb : b ≠ 0) (h : K (.int k (a.tmod b)) w) : bin P .rem t cx cy (.int k a) (.int k b) K w := by
  refine bin_of (eqG_int ..) ?_ h
  simp [binOp, Op.intDiv, Sem.run_pure, hb]
theorem bin_quo (hb : b ≠ 0) (h : K (.int k (k.wrap (a.tdiv b))) w) : bin P .quo t cx cy (.int k a) (.int k b) K w := by
  refine bin_of (eqG_int ..) ?_ h
  simp [binOp, Op.intDiv, Sem.run_pure, hb]
/-- a % b of numbers that are not below 0. -/
theorem rem_nn (ha : 0 ≤ a) (hb : 0 < b) (h : K (.int k (a % b)) w) : bin P .rem t cx cy (.int k a) (.int k b) K w :=
  bin_rem (by omega) (by rw [Int.tmod_eq_emod_of_nonneg ha]; exact h)
theorem quo64 (ha : 0 ≤ a) (ha2 : a ≤ 9223372036854775807) (hb : 0 < b) (h : K (.int .i64 (a / b)) w) : bin P .quo t cx cy (.int .i64 a) (.int .i64 b) K w :=
  bin_quo (by omega) (by
    rw [Int.tdiv_eq_ediv_of_nonneg ha, wrap_i64 (Int.le_trans (by omega) (Int.ediv_nonneg ha (by omega))) (Int.le_trans (Int.ediv_le_self b ha) ha2)]
    exact h)
theorem bin_shl {k' : IntKind} (hb : 0 ≤ b) (h : K (.int k (k.wrap (a * 2 ^ (min b.toNat k.bits)))) w) : bin P .shl t cx cy (.int k a) (.int k' b) K w := by
  refine bin_of (eqG_int ..) ?_ h
  have : ¬ b < 0 := by omega
  simp [binOp, Op.shift, Sem.run_pure, this]
theorem bin_shr {k' : IntKind} (hb : 0 ≤ b) (h : K (.int k (a.fdiv (2 ^ (min b.toNat k.bits)))) w) : bin P .shr t cx cy (.int k a) (.int k' b) K w := by
  refine bin_of (eqG_int ..) ?_ h
  have : ¬ b < 0 := by omega
  simp [binOp, Op.shift, Sem.run_pure, this]
def bitsOp (op : BinOp) (k : IntKind) (x y : Int) : Int :=
  let a := BitVec.ofInt k.bits x
  let b := BitVec.ofInt k.bits y
  match op with
  | .and => k.wrap (a &&& b).toNat
  | .or => k.wrap (a ||| b).toNat
  | .xor => k.wrap (a ^^^ b).toNat
  | _ => k.wrap (a &&& ~~~b).toNat
theorem bin_and (h : K (.int k (bitsOp .and k a b)) w) : bin P .and t cx cy (.int k a) (.int k b) K w := by
  refine bin_of (eqG_int ..) ?_ h
  simp [binOp, Op.intBits, Sem.run_pure, bitsOp]
theorem bin_or (h : K (.int k (bitsOp .or k a b)) w) : bin P .or t cx cy (.int k a) (.int k b) K w := by
  refine bin_of (eqG_int ..) ?_ h
  simp [binOp, Op.intBits, Sem.run_pure, bitsOp]
theorem bin_xor (h : K (.int k (bitsOp .xor k a b)) w) : bin P .xor t cx cy (.int k a) (.int k b) K w := by
  refine bin_of (eqG_int ..) ?_ h
  simp [binOp, Op.intBits, Sem.run_pure, bitsOp]
theorem bin_eqlB {x y : Bool} (h : K (.bool (x == y)) w) (hg : P.underlying t = some .bool) : bin P .eql t cx cy (.bool x) (.bool y) K w := by
  refine bin_of (eqG_bool ..) ?_ h
  simp only [binOp, Sem.run_bind, run_equal_bool w t x y hg, Result.andThen_ok, Sem.run_pure]
theorem bin_neqB {x y : Bool} (h : K (.bool (x != y)) w) (hg : P.underlying t = some .bool) : bin P .neq t cx cy (.bool x) (.bool y) K w := by
  refine bin_of (eqG_bool ..) ?_ h
  simp only [binOp, Sem.run_bind, run_equal_bool w t x y hg, Result.andThen_ok, Sem.run_pure]
  rfl
theorem bin_eqlS {x y : List UInt8} (h : K (.bool (decide (x = y))) w) : bin P .eql t cx cy (.string (bstr x)) (.string (bstr y)) K w := by
  refine bin_of (eqG_string ..) ?_ h
  rw [binOp_bstr_eql, Sem.run_pure]
  by_cases hh : x = y <;> simp [hh]
theorem bin_neqS {x y : List UInt8} (h : K (.bool (decide (x ≠ y))) w) : bin P .neq t cx cy (.string (bstr x)) (.string (bstr y)) K w := by
  refine bin_of (eqG_string ..) ?_ h
  rw [binOp_bstr_neq, Sem.run_pure]
  by_cases hh : x = y <;> simp [hh]
theorem bin_lssS {x y : List UInt8} (h : K (.bool (Op.bytesLess x y)) w) : bin P .lss t cx cy (.string (bstr x)) (.string (bstr y)) K w := by
  refine bin_of (eqG_string ..) ?_ h
  rw [binOp_bstr_lss, Sem.run_pure]

theorem un_not {x : Bool} (h : K (.bool (!x)) w) : un P .not (.bool x) K w := by
  unfold un; exact okV_of (by simp [Op.unary, Sem.run_pure]) h
theorem un_notD {p : Prop} [Decidable p] (h : K (.bool (decide (¬ p))) w) : un P .not (.bool (decide p)) K w :=
  un_not (by rw [← decide_not]; exact h)
theorem un_neg (h : K (.int k (k.wrap (0 - a))) w) : un P .neg (.int k a) K w := by
  unfold un; exact okV_of (v := .int k (k.wrap (0 - a))) (w' := w) (by simp only [Op.unary, Op.intArith, Sem.run_pure]) h
theorem un_com (h : K (.int k (bitsOp .xor k (if k.signed then -1 else k.max) a)) w) : un P .xor (.int k a) K w := by
  unfold un; exact okV_of (by simp only [Op.unary, Op.intBits, Sem.run_pure]; rfl) h

theorem conv_int {s d : TypeId} {k' : IntKind} {ts : TypeDesc} (hs : P.underlying s = some ts) (hd : P.underlying d = some (.int k')) (h : K (.int k' (k'.wrap a)) w) : conv P s d (.int k a) K w := by
  unfold conv
  refine okV_of (w' := w) ?_ h
  cases ts <;> simp [convert, run_underlying hs, run_underlying hd, Conv.intToInt, Sem.run_pure]

theorem conv_str {s d e : TypeId} (hs : P.underlying s = some (.slice e)) (he : P.underlying e = some (.int .u8)) (hd : P.underlying d = some .string) {av : Option Addr} {n c : Nat} {l : List UInt8} (hr : RB w av n c l)
    (h : K (.string (bstr l)) w) : conv P s d (.slice av n c) K w := by
  unfold conv
  exact okV_of (run_bytes_str w s e d hs he hd hr) h

theorem ext_of {vs : Array Value} {i : Nat} {v : Value} (hv : vs[i]? = some v) (h : K v w) : ext P (.tuple vs) i K w := by
  unfold ext
  exact okV_of (by simp [Instr.extract, hv, Sem.run_pure]) h

theorem ext_a {a b : Value} (h : K a w) : ext P (.tuple #[a, b]) 0 K w := ext_of rfl h
theorem ext_b {a b : Value} (h : K b w) : ext P (.tuple #[a, b]) 1 K w := ext_of rfl h
theorem ext3_a {a b c : Value} (h : K a w) : ext P (.tuple #[a, b, c]) 0 K w := ext_of rfl h
theorem ext3_b {a b c : Value} (h : K b w) : ext P (.tuple #[a, b, c]) 1 K w := ext_of rfl h
theorem ext3_c {a b c : Value} (h : K c w) : ext P (.tuple #[a, b, c]) 2 K w := ext_of rfl h
theorem ext4_a {a b c d : Value} (h : K a w) : ext P (.tuple #[a, b, c, d]) 0 K w := ext_of rfl h
theorem ext4_b {a b c d : Value} (h : K b w) : ext P (.tuple #[a, b, c, d]) 1 K w := ext_of rfl h
theorem ext4_c {a b c d : Value} (h : K c w) : ext P (.tuple #[a, b, c, d]) 2 K w := ext_of rfl h
theorem ext4_d {a b c d : Value} (h : K d w) : ext P (.tuple #[a, b, c, d]) 3 K w := ext_of rfl h

theorem pick_of {x y : Value} {c : Bool} (h : K (if c then x else y) w) : pick (.bool c) x y K w := ⟨c, rfl, h⟩
theorem pick_t {x y : Value} {p : Prop} [Decidable p] (hp : p) (h : K x w) : pick (.bool (decide p)) x y K w := ⟨_, rfl, by simp [hp, h]⟩
theorem pick_f {x y : Value} {p : Prop} [Decidable p] (hp : ¬ p) (h : K y w) : pick (.bool (decide p)) x y K w := ⟨_, rfl, by simp [hp, h]⟩
theorem pick_T {x y : Value} (h : K x w) : pick (.bool true) x y K w := ⟨_, rfl, h⟩
theorem pick_F {x y : Value} (h : K y w) : pick (.bool false) x y K w := ⟨_, rfl, h⟩

theorem cond_p {p : Prop} [Decidable p] {A B : Prop} (h1 : p → A) (h2 : ¬ p → B) : cond (.bool (decide p)) A B := ⟨_, rfl, fun h => h1 (by simpa using h), fun h => h2 (by simpa using h)⟩
theorem cond_t {p : Prop} [Decidable p] {A B : Prop} (hp : p) (h : A) : cond (.bool (decide p)) A B := ⟨_, rfl, fun _ => h, fun hh => absurd hp (by simpa using hh)⟩
theorem cond_f {p : Prop} [Decidable p] {A B : Prop} (hp : ¬ p) (h : B) : cond (.bool (decide p)) A B := ⟨_, rfl, fun hh => absurd (by simpa using hh) hp, fun _ => h⟩
theorem cond_T {A B : Prop} (h : A) : cond (.bool true) A B := ⟨_, rfl, fun _ => h, (fun hh => by cases hh)⟩
theorem cond_F {A B : Prop} (h : B) : cond (.bool false) A B := ⟨_, rfl, (fun hh => by cases hh), fun _ => h⟩
theorem cond_b {c : Bool} {A B : Prop} (h1 : c = true → A) (h2 : c = false → B) : cond (.bool c) A B := ⟨c, rfl, h1, h2⟩

theorem sti_of {s : KV → World → Prop} {k : KV} {v : Value} (h : ∀ K : KV, K v w → s K w) (hk : k v w) : sti s k w := ⟨v, h _ ⟨rfl, rfl⟩, hk⟩

variable {A B : (List Value → World → Prop) → Prop} {KL : List Value → World → Prop}
theorem gsel_t {v : Value} {want : Bool} (hv : v = .bool want) (h : A KL) : gsel v want A B KL := ⟨fun _ => h, fun hh => absurd (by rw [hv]; rfl) hh⟩
theorem gsel_f {v : Value} {want : Bool} (hv : asB v ≠ some want) (h : B KL) : gsel v want A B KL := ⟨fun hh => absurd hh hv, fun _ => h⟩
theorem gsel_p {p : Prop} [Decidable p] (h1 : p → A KL) (h2 : ¬ p → B KL) : gsel (.bool (decide p)) true A B KL :=
  ⟨fun hh => h1 (by simpa [asB] using hh), fun hh => h2 (by simpa [asB] using hh)⟩
theorem gsel_n {p : Prop} [Decidable p] (h1 : ¬ p → A KL) (h2 : p → B KL) : gsel (.bool (decide p)) false A B KL :=
  ⟨fun hh => h1 (by simpa [asB] using hh), fun hh => h2 (by simpa [asB] using hh)⟩
theorem gsel_pt {p : Prop} [Decidable p] (hp : p) (h1 : A KL) : gsel (.bool (decide p)) true A B KL := gsel_t (by simp [hp]) h1
theorem gsel_pf {p : Prop} [Decidable p] (hp : ¬ p) (h1 : B KL) : gsel (.bool (decide p)) true A B KL := gsel_f (by simp [asB, hp]) h1
theorem gsel_nt {p : Prop} [Decidable p] (hp : p) (h1 : B KL) : gsel (.bool (decide p)) false A B KL := gsel_f (by simp [asB, hp]) h1
theorem gsel_nf {p : Prop} [Decidable p] (hp : ¬ p) (h1 : A KL) : gsel (.bool (decide p)) false A B KL := gsel_t (by simp [hp]) h1
theorem gsel_T (h1 : A KL) : gsel (.bool true) true A B KL := gsel_t rfl h1
theorem gsel_Tn (h1 : B KL) : gsel (.bool true) false A B KL := gsel_f (by simp [asB]) h1
theorem gsel_Fn (h1 : A KL) : gsel (.bool false) false A B KL := gsel_t rfl h1
theorem gsel_U {want : Bool} (h1 : B KL) : gsel undef want A B KL := gsel_f (fun h => by cases h) h1
theorem gsel_F (h1 : B KL) : gsel (.bool false) true A B KL := gsel_f (by simp [asB]) h1

theorem call_of {f : FuncId} {args : Array Value} (hg : isGo P f) (h : Gives P f args w K) : call P f args K w := ⟨hg, h⟩

theorem blt_of {bi : Builtin} {ats : Array TypeId} {ty : TypeId} {cs : Array Bool} {args : Array Value} {v : Value} {w' : World} (hr : (builtin bi ats ty cs args).run P w = .ok (.value v) w') (h : K v w') : blt P bi ats ty cs args K w := by
  unfold blt; rw [hr]; exact h

theorem len_slc {e ty : TypeId} {cs : Array Bool} {av : Option Addr} {n c : Nat} (ht : P.underlying t = some (.slice e)) (h : K (.int .i64 (n : Int)) w) : blt P .len #[t] ty cs #[.slice av n c] K w :=
  blt_of (by rw [BigFrame.builtin_len]; simp [Builtin.len_, run_underlying ht, Sem.run_pure, goInt]) h
theorem cap_slc {e ty : TypeId} {cs : Array Bool} {av : Option Addr} {n c : Nat} (ht : P.underlying t = some (.slice e)) (h : K (.int .i64 (c : Int)) w) : blt P .cap #[t] ty cs #[.slice av n c] K w :=
  blt_of (by rw [BigFrame.builtin_cap]; simp [Builtin.cap_, run_underlying ht, Sem.run_pure, goInt]) h
theorem bstr_size (l : List UInt8) : (bstr l).size = l.length := rfl
theorem len_str {ty : TypeId} {cs : Array Bool} {l : List UInt8} (ht : P.underlying t = some .string) (h : K (.int .i64 (l.length : Int)) w) : blt P .len #[t] ty cs #[.string (bstr l)] K w :=
  blt_of (by rw [BigFrame.builtin_len]; simp [Builtin.len_, run_underlying ht, Sem.run_pure, goInt, bstr_size]) h

theorem app_slc {e ty : TypeId} {cs : Array Bool} {base : Nat} {i : TypeInfo} {z : Value} {bytes : Nat} (ht : P.underlying t = some (.slice e)) (hi : P.info? e = some i) (hz : i.zero = some z)
    (hsize : i.size = 1) (hby : i.bytes = bytes) (hzs : z.cells.size = 1)
    {av : Option Addr} {n c : Nat} {xs : List Value} (hown : OV w base e av n c xs) {a2 : Option Addr} {m c2 : Nat} {ys : List Value} (hy : RV w a2 m c2 ys) (h1 : ∀ u ∈ ys, u.oneCell' = true)
    (hbytes : (n + m) * bytes ≤ 140737488355328) (h63 : n + m ≤ 9223372036854775807) (hbase : base ≤ w.heap.size)
    (h : ∀ a' c' w', OV w' base e a' (n + m) c' (xs ++ ys) → w.grownBy w' (Value.slice av n c).ownBlock → K (.slice a' (n + m) c') w') :
    blt P .append #[t, t] ty cs #[.slice av n c, .slice a2 m c2] K w := by
  obtain ⟨a', c', w', hr, h2, h3⟩ := run_append_ov (P := P) w base t ty e i z bytes ht hi hz hsize hby hzs hown hy h1 hbytes h63 hbase
  exact blt_of (by rw [BigFrame.builtin_append]; simp only [Sem.run_bind, hr, Result.andThen_ok, Sem.run_pure]) (h a' c' w' h2 h3)

theorem idx_slc {e : TypeId} (ht : P.underlying t = some (.slice e)) (hs : ∀ w, (sizeOf e).run P w = .ok 1 w) {av : Option Addr} {n c : Nat} {iv : Int}
    (h0 : 0 ≤ iv) (h1 : iv < n) (hsome : 0 < n → ∃ b o, av = some ⟨b, o, none⟩) (h : K (.pointer (some (slotA av iv.toNat))) w) : idxA P t (.slice av n c) (.int k iv) K w := by
  obtain ⟨b, o, rfl⟩ := hsome (by omega)
  have he : ((⟨b, o, none⟩ : Addr).add iv.toNat) = ⟨b, o + iv.toNat, none⟩ := by unfold Addr.add; split <;> simp_all
  unfold idxA
  refine okV_of (w' := w) ?_ h
  simp only [Instr.indexAt, asIntOf, Sem.run_bind, Sem.run_pure, Result.andThen_ok, run_underlying ht, hs, h0, h1, and_self, if_true, Nat.mul_one, he]
  rfl

theorem ld_of {ad : Addr} {v : Value} (hr : (loadVar t ad).run P w = .ok v w) (h : K v w) : ld P t (.pointer (some ad)) K w := by
  unfold ld
  exact okV_of (by simp only [Instr.loadAt, Instr.sureAddr, Sem.run_bind, Sem.run_pure, Result.andThen_ok, hr]) h

theorem ld_cell {ad : Addr} {v : Value} (ha : ∀ w, (isAgg t).run P w = .ok false w) (hc : w.cell? ad = some v) (h : K v w) : ld P t (.pointer (some ad)) K w := by
  refine ld_of ?_ h
  simp [loadVar, Sem.run_bind, ha, load, hc, Sem.run]

theorem sto_cell {ad : Addr} {v u : Value} (hs : ∀ w, (sizeOf t).run P w = .ok 1 w) (hv : v.oneCell' = true) (hv2 : v.cells = #[v]) (hc : w.cell? ad = some u) (hf : w.frozen? ad = false) (hsp : ad.spot = none)
    (h : K undef (w.setCell ad v)) : sto P t (.pointer (some ad)) v K w := by
  unfold sto
  have e0 : ad.add 0 = ad := rfl
  refine okU_of (w' := w.setCell ad v) (u := ()) ?_ h
  simp [Instr.storeAt, Instr.sureAddr, storeVar, Sem.run_bind, hs, hv2, storeCells, store, e0, hc, hf]
  cases v <;> simp_all [Value.oneCell', Sem.run]

theorem slc_of {e : TypeId} (ht : P.underlying t = some (.slice e)) (hs : ∀ w, (sizeOf e).run P w = .ok 1 w) {av : Option Addr} {n c : Nat} {l m : Nat} {xs : List Value} (hr : RV w av n c xs)
    {lo hi : Option Value} (hlo : (lo = none ∧ l = 0) ∨ ∃ k, lo = some (.int k (l : Int))) (hhi : (hi = none ∧ m = n) ∨ ∃ k, hi = some (.int k (m : Int))) (hlm : l ≤ m) (hmn : m ≤ n)
    (h : ∀ a', RV w a' (m - l) (c - l) ((xs.take m).drop l) → K (.slice a' (m - l) (c - l)) w) : slc P t (.slice av n c) lo hi none K w := by
  have hnc := hr.cap
  have sb : ∀ (k : IntKind) (i y : Nat) (code : BoundsCode), i ≤ y → (Instr.sliceBound (.int k (i : Int)) y code).run P w = .ok i w := by
    intro k i y code hi
    have := run_sliceBound (P := P) w k (i : Int) y code (by omega) (by omega)
    simpa using this
  have hb : (Instr.sliceBounds true n c lo hi none).run P w = .ok (l, m, c) w := by
    rcases hlo with ⟨rfl, rfl⟩ | ⟨kl, rfl⟩ <;> rcases hhi with ⟨rfl, rfl⟩ | ⟨kh, rfl⟩
    · simp [Instr.sliceBounds]
    · simp [Instr.sliceBounds, sb kh m c _ (by omega)]
    · simp [Instr.sliceBounds, sb kl l m _ hlm]
    · simp [Instr.sliceBounds, sb kh m c _ (by omega), sb kl l m _ hlm]
  unfold slc
  refine okV_of (w' := w) ?_ (h _ (hr.cut l m c hlm (by omega) hmn (Nat.le_refl _)))
  simp only [Instr.sliceAt, Instr.slice, Sem.run_bind, Sem.run_pure, Result.andThen_ok, run_underlying ht, hs, hb]

theorem bldS1 {e : TypeId} {i : TypeInfo} {z : Value} (ht : P.underlying t = some (.slice e)) (hi : P.info? e = some i) (hz : i.zero = some z) (hsize : i.size = 1) (hzs : z.cells.size = 1)
    {v : Value} (hv : v.cells = #[v])
    (h : RV (w.alloc (.cells #[v] e)) (some ⟨w.heap.size, 0, none⟩) 1 1 [v] → K (.slice (some ⟨w.heap.size, 0, none⟩) 1 1) (w.alloc (.cells #[v] e))) : bldS P t 1 #[(0, v)] K w := by
  unfold bldS
  refine okV_of (run_build1 w t e i z ht hi hz hsize hzs v hv) (h ⟨rfl, Nat.le_refl _, fun _ => ⟨_, _, rfl⟩, (fun h => by simp at h), fun j u hu => ?_⟩)
  have : j = 0 := by
    have := (List.getElem?_eq_some_iff.1 hu).1
    simpa using this
  subst this
  simp at hu
  subst hu
  rw [slotA_some, World.cell?_alloc_at _ _ _ _ rfl]; rfl

/-- make([]T, 0, n). -/
theorem mkS0 {e : TypeId} {base : Nat} {i : TypeInfo} {z : Value} {bytes : Nat} (ht : P.underlying t = some (.slice e)) (hi : P.info? e = some i) (hz : i.zero = some z) (hsize : i.size = 1) (hby : i.bytes = bytes)
    {kl kc : IntKind} {C : Int} {n : Nat} (hC : C = (n : Int)) (b2 : bytes * n ≤ 281474976710656) (b3 : n ≤ 9223372036854775807) (hbase : base ≤ w.heap.size)
    (h : ∀ a' w', OV w' base e a' 0 n [] → Below w.heap.size w w' → K (.slice a' 0 n) w') : mkS P t (.int kl 0) (.int kc C) K w := by
  subst hC
  obtain ⟨w', hrun, r1, r2⟩ := run_make_own (P := P) w base t e i z 1 ht hi hz hsize kl kc n (by rw [hby]; exact b2) (by simp only [maxLen]; omega) hbase
  unfold mkS
  exact okV_of hrun (h _ w' r1 (below_of_grown r2 (Nat.le_refl _) (fun k hk => by cases hk)))
/-- An empty slice that is not nil. -/
theorem bldS0 {e : TypeId} {i : TypeInfo} {base : Nat} (ht : P.underlying t = some (.slice e)) (hi : P.info? e = some i) (hsize : i.size = 1) (hbase : base ≤ w.heap.size)
    (h : ∀ a' w', OV w' base e a' 0 0 [] → Below w.heap.size w w' → K (.slice a' 0 0) w') : bldS P t 0 #[] K w := by
  unfold bldS
  refine okV_of (w' := w.alloc (.cells #[] e)) (v := .slice (some ⟨w.heap.size, 0, none⟩) 0 0) ?_ (h _ _ (World.ownsRow_made w #[] 0 hbase (Nat.zero_le _) rfl) (below_of_grown (World.grownBy_alloc _ _ none) (Nat.le_refl _) (fun k hk => by cases hk)))
  have e0 : ∀ f : Nat → Value, (Array.range 0).map f = #[] := fun f => by apply Array.ext <;> simp
  simp [Instr.buildSlice, Instr.fill, run_underlying ht, sizeOf, typeInfo, hi, hsize, newRow, e0]

/-- b == nil. -/
theorem eql_nilS {e : TypeId} {av : Option Addr} {n c : Nat} (ht : P.underlying t = some (.slice e)) (h : K (.bool av.isNone) w) : bin P .eql t cx cy (.slice av n c) (.slice none 0 0) K w := by
  refine bin_of (by unfold eqG eqGuard; simp [Sem.run_pure]) ?_ h
  simp only [binOp, Sem.run_bind, run_equal_slice_nil w t e av n c ht, Result.andThen_ok, Sem.run_pure]
theorem neq_nilS {e : TypeId} {av : Option Addr} {n c : Nat} (ht : P.underlying t = some (.slice e)) (h : K (.bool (!av.isNone)) w) : bin P .neq t cx cy (.slice av n c) (.slice none 0 0) K w := by
  refine bin_of (by unfold eqG eqGuard; simp [Sem.run_pure]) ?_ h
  simp only [binOp, Sem.run_bind, run_equal_slice_nil w t e av n c ht, Result.andThen_ok, Sem.run_pure]

/-- Two numbers of which one stands behind the other's bits. -/
theorem or_byte {n c : Nat} (hn : n < 72057594037927936) (hc : c < 256) : bitsOp .or .u64 (IntKind.u64.wrap ((n : Int) * 2 ^ (min (8 : Int).toNat IntKind.u64.bits))) (c : Int) = ((n * 256 + c : Nat) : Int) := by
  have h8 : (2 : Int) ^ (min (8 : Int).toNat IntKind.u64.bits) = 256 := rfl
  rw [h8, wrap_u64]
  have e1 : ((n : Int) * 256) % 18446744073709551616 = ((n * 256 : Nat) : Int) := by omega
  rw [e1]
  unfold bitsOp
  have hb : IntKind.u64.bits = 64 := rfl
  simp only [hb, wrap_u64]
  have : (BitVec.ofInt 64 ((n * 256 : Nat) : Int) ||| BitVec.ofInt 64 ((c : Nat) : Int)).toNat = n * 256 + c := by
    rw [BitVec.toNat_or, BitVec.ofInt_natCast, BitVec.ofInt_natCast, BitVec.toNat_ofNat, BitVec.toNat_ofNat]
    rw [Nat.mod_eq_of_lt (by omega), Nat.mod_eq_of_lt (by omega)]
    have h2 := Nat.shiftLeft_add_eq_or_of_lt (i := 8) (b := c) (by omega) n
    rw [Nat.shiftLeft_eq] at h2
    rw [← h2]
  show ((BitVec.ofInt 64 ((n * 256 : Nat) : Int) ||| BitVec.ofInt 64 ((c : Nat) : Int)).toNat : Int) % 18446744073709551616 = _
  rw [this]
  omega
/-- The parts of a literal that fills a slice. -/
def partsOf : Nat → List Value → List (Nat × Value)
  | _, [] => []
  | k, v :: vs => (k, v) :: partsOf (k + 1) vs

theorem fill_parts (z : Value) : ∀ (vs : List Value) (pre : List Value) (suf : Nat), (∀ v ∈ vs, v.cells = #[v]) → vs.length ≤ suf →
    Instr.fill (fun i => some (i * 1, 1)) (pre ++ List.replicate suf z).toArray (partsOf pre.length vs) = some (pre ++ vs ++ List.replicate (suf - vs.length) z).toArray := by
  intro vs
  induction vs with
  | nil => intro pre suf _ _; simp [partsOf, Instr.fill]
  | cons v vs ih =>
    intro pre suf hv hl
    simp only [List.length_cons] at hl
    obtain ⟨suf', rfl⟩ : ∃ s, suf = s + 1 := ⟨suf - 1, by omega⟩
    have h1 := hv v (List.mem_cons_self ..)
    have hih := ih (pre ++ [v]) suf' (fun x hx => hv x (List.mem_cons_of_mem _ hx)) (by omega)
    simp only [List.length_append, List.length_cons, List.length_nil, Nat.zero_add] at hih
    simp only [partsOf, Instr.fill, h1]
    rw [if_neg (by simp)]
    have : (#[v].zipIdx.foldl (fun cs (c, j) => cs.setIfInBounds (pre.length * 1 + j) c) (pre ++ List.replicate (suf' + 1) z).toArray) = (pre ++ [v] ++ List.replicate suf' z).toArray := by
      simp [List.replicate_succ]
    rw [this, hih]
    simp [List.append_assoc]

theorem run_buildN {e : TypeId} {i : TypeInfo} {z : Value} (ht : P.underlying t = some (.slice e)) (hi : P.info? e = some i) (hz : i.zero = some z) (hsize : i.size = 1) (hzs : z.cells = #[z])
    (vs : List Value) (hn : vs.length ≠ 0) (h24 : vs.length ≤ 1000000) (hv : ∀ v ∈ vs, v.cells = #[v]) :
    (Instr.buildSlice t vs.length (partsOf 0 vs).toArray).run P w = .ok (.slice (some ⟨w.heap.size, 0, none⟩) vs.length vs.length) (w.alloc (.cells vs.toArray e)) := by
  have hr : (Array.range (vs.length * 1)).map (fun k => z.cells[k % z.cells.size]!) = (([] : List Value) ++ List.replicate vs.length z).toArray := by
    rw [hzs]
    apply Array.ext
    · simp
    · intro j h1 h2
      simp [Nat.mod_one]
  have hf := fill_parts z vs [] vs.length hv (Nat.le_refl _)
  simp only [List.length_nil, List.nil_append, Nat.sub_self, List.replicate_zero, List.append_nil] at hf hr
  have h0 : ¬ (16777216 < vs.length) := by omega
  have hn' : ¬ vs = [] := fun e => hn (by rw [e]; rfl)
  simp only [Nat.mul_one] at hr hf
  rw [List.toArray_replicate] at hf hr
  simp [Instr.buildSlice, run_underlying ht, sizeOf, typeInfo, hi, hsize, zeroValue, hz, newRow, hr, hf, hn', h0]

theorem bldS_of {e : TypeId} {i : TypeInfo} {z : Value} {n : Nat} {ps : Array (Nat × Value)} {vs : List Value} (hn : n = vs.length) (hps : ps = (partsOf 0 vs).toArray)
    (ht : P.underlying t = some (.slice e)) (hi : P.info? e = some i) (hz : i.zero = some z) (hsize : i.size = 1) (hzs : z.cells = #[z])
    (h0 : vs.length ≠ 0) (h24 : vs.length ≤ 1000000) (hv : ∀ v ∈ vs, v.cells = #[v])
    (h : OV (w.alloc (.cells vs.toArray e)) w.heap.size e (some ⟨w.heap.size, 0, none⟩) vs.length vs.length vs → Below w.heap.size w (w.alloc (.cells vs.toArray e)) →
      K (.slice (some ⟨w.heap.size, 0, none⟩) vs.length vs.length) (w.alloc (.cells vs.toArray e))) : bldS P t n ps K w := by
  subst hn hps
  unfold bldS
  refine okV_of (run_buildN ht hi hz hsize hzs vs h0 h24 hv) (h ⟨by simp, .inr ⟨w.heap.size, vs.length, vs.toArray, rfl, Nat.le_refl _, heap_alloc_new w _, Nat.le_refl _, ?_, by simp, by simp⟩⟩ (below_of_grown (World.grownBy_alloc _ _ none) (Nat.le_refl _) (fun k hk => by cases hk)))
  simp only [maxLen]; omega

/-- []byte of a constant. -/
theorem constB {K2 : Value → KV} {e : TypeId} {i : TypeInfo} {z : Value} {n : Nat} {ps : Array (Nat × Value)} {l : List UInt8} (hn : n = l.length) (hps : ps = (partsOf 0 (l.map u8v)).toArray)
    (ht : P.underlying t = some (.slice e)) (he : P.underlying e = some (.int .u8)) (hi : P.info? e = some i) (hz : i.zero = some z) (hsize : i.size = 1) (hzs : z.cells = #[z])
    (h0 : l.length ≠ 0) (h24 : l.length ≤ 1000000)
    (h : ∀ a' w', RB w' a' n n l → Below w.heap.size w w' → K2 (.slice (some ⟨w.heap.size, 0, none⟩) n n) (.slice a' n n) w') : bldS P t n ps (fun v w => conv P t t v (K2 v) w) w := by
  subst hn
  have hl : (l.map u8v).length = l.length := by simp
  refine bldS_of (vs := l.map u8v) (by rw [hl]) hps ht hi hz hsize hzs (by rw [hl]; exact h0) (by rw [hl]; exact h24) (fun v hv => by obtain ⟨c, _, rfl⟩ := List.mem_map.1 hv; rfl) ?_
  intro ho hb
  have hr := ho.rv
  unfold conv
  refine okV_of (Lib.run_convert_bytes_const (P := P) w t e (l.map u8v).toArray _ _ ht he) ?_
  rw [hl] at *
  refine h _ _ ⟨by simp, Nat.le_refl _, fun _ => ⟨_, _, rfl⟩, (fun hh => by simp at hh), fun j v hj => ?_⟩ (below_of_grown (World.grownBy_alloc _ _ none) (Nat.le_refl _) (fun k hk => by cases hk))
  have hlt := (List.getElem?_eq_some_iff.1 hj).1
  rw [slotA_some]
  unfold World.cell?
  rw [heap_alloc_new]
  simpa using hj

/-- make([]T, 0, n), the block told whole. -/
theorem mkS0x {e : TypeId} {i : TypeInfo} {z : Value} {bytes : Nat} (ht : P.underlying t = some (.slice e)) (hi : P.info? e = some i) (hz : i.zero = some z) (hsize : i.size = 1) (hby : i.bytes = bytes) (hzs : z.cells = #[z])
    {kl kc : IntKind} {C : Int} {n : Nat} (hC : C = (n : Int)) (b2 : bytes * n ≤ 281474976710656) (b3 : n ≤ 9223372036854775807)
    (h : ∀ w', w'.heap[w.heap.size]? = some (.cells (List.replicate n z).toArray e (0, 0)) → Below w.heap.size w w' → w'.heap.size = w.heap.size + 1 → K (.slice (some ⟨w.heap.size, 0, none⟩) 0 n) w') : mkS P t (.int kl 0) (.int kc C) K w := by
  subst hC
  have hrun := run_make (P := P) w t e i z ht hi hz kl kc 0 n (by omega) (by omega) (by rw [hby]; omega) (by omega)
  rw [hsize, hzs] at hrun
  have hm : madeCells #[z] (((n : Int)).toNat * 1) = (List.replicate n z).toArray := by
    have := toList_madeCells_one z n
    rw [← this]; simp
  rw [hm] at hrun
  unfold mkS
  exact okV_of hrun (h _ (heap_alloc_new w _) (below_of_grown (World.grownBy_alloc _ _ none) (Nat.le_refl _) (fun k hk => by cases hk)) (by simp))

/-- append within the capacity, the block told whole. -/
theorem app_x {e ty : TypeId} {cs : Array Bool} {i : TypeInfo} (ht : P.underlying t = some (.slice e)) (hi : P.info? e = some i) (hsize : i.size = 1)
    {g n c : Nat} {cur : Array Value} (hg : w.heap[g]? = some (.cells cur e (0, 0))) (hcs : cur.size = c) {a2 : Option Addr} {m c2 : Nat} {ys : List Value} (hy : RV w a2 m c2 ys) (h1 : ∀ u ∈ ys, u.oneCell' = true)
    (hroom : n + m ≤ c)
    (h : ∀ w', w'.heap[g]? = some (.cells (cur.toList.take n ++ ys ++ cur.toList.drop (n + m)).toArray e (0, 0)) → (∀ k, k ≠ g → w'.heap[k]? = w.heap[k]?) → w'.os = w.os → w'.tape = w.tape → w'.output = w.output → w'.heap.size = w.heap.size →
      K (.slice (some ⟨g, 0, none⟩) (n + m) c) w') :
    blt P .append #[t, t] ty cs #[.slice (some ⟨g, 0, none⟩) n c, .slice a2 m c2] K w := by
  cases a2 with
  | none =>
    obtain ⟨rfl, rfl⟩ := hy.nil_ rfl
    have : ys = [] := List.eq_nil_of_length_eq_zero hy.len
    subst this
    refine blt_of (v := .slice (some ⟨g, 0, none⟩) (n + 0) c) (w' := w) ?_ (h w (by simpa using hg) (fun _ _ => rfl) rfl rfl rfl rfl)
    rw [BigFrame.builtin_append]
    simp [Builtin.append_, run_underlying ht, sizeOf, typeInfo, hi, Builtin.lenOf, Builtin.firstCells, show n ≤ c by omega, storeCells]
  | some ad =>
    have hn : ∀ j u, ys[j]? = some u → w.cell? (ad.add j) = some u := by
      intro j u hj
      have hlt : j < m := by rw [← hy.len]; exact (List.getElem?_eq_some_iff.1 hj).1
      obtain ⟨b, o, hbo⟩ := hy.some_ (by omega)
      have hc := hy.cell j u hj
      cases hbo
      rw [slotA_some] at hc
      have he : ((⟨b, o, none⟩ : Addr).add j) = ⟨b, o + j, none⟩ := by unfold Addr.add; split <;> simp_all
      rw [he]; exact hc
    have hr := run_append_room (P := P) w t ty e i ht hi g n c cur hg ad m c2 ys (by simp [hy.len, hsize]) hn h1 hroom (by rw [hsize, hcs, hy.len]; omega)
    rw [hsize, hy.len, Nat.mul_one] at hr
    exact blt_of (by rw [BigFrame.builtin_append]; simp only [Sem.run_bind, hr, Result.andThen_ok, Sem.run_pure]) (h _ (setRow_heap w g cur _ e _ hg) (fun k hk => setRow_other w g k _ hk) rfl rfl rfl (by simp [World.setRow]))

/-- x[:m] up to a place within the capacity. -/
theorem slc_up {e : TypeId} (ht : P.underlying t = some (.slice e)) (hs : ∀ w, (sizeOf e).run P w = .ok 1 w) {av : Option Addr} {n c m : Nat} {k : IntKind} (hm : m ≤ c) (h : K (.slice av m c) w) :
    slc P t (.slice av n c) none (some (.int k (m : Int))) none K w := by
  have hb : (Instr.sliceBounds true n c none (some (.int k (m : Int))) none).run P w = .ok (0, m, c) w := by
    have := run_sliceBound (P := P) w k (m : Int) c .sliceAcap (by omega) (by omega)
    simp [Instr.sliceBounds] at this ⊢
    rw [this]; simp
  unfold slc
  refine okV_of (w' := w) ?_ h
  simp only [Instr.sliceAt, Instr.slice, Sem.run_bind, Sem.run_pure, Result.andThen_ok, run_underlying ht, hs, hb]
  cases av <;> simp [Addr.add]
end
end Go.Proofs.YtfjafbbalohmhaaGreatDoor
/- Memory told by blocks: rules for variables, structs, arrays, rows of elements of several cells; and which blocks a call leaves as they were. Nothing of the program is named here. -/
namespace Go.Proofs.YtfjafbbalohmhaaGreatDoor
set_option maxRecDepth 100000
open Go.RowKit

/-- Block b holds the cells cs, of elements of type E. -/
def blk (w : World) (b : Nat) (E : TypeId) (cs : List Value) : Prop := w.heap[b]? = some (.cells cs.toArray E (0, 0))

theorem blk.lt {w : World} {b : Nat} {E : TypeId} {cs : List Value} (h : blk w b E cs) : b < w.heap.size := (Array.getElem?_eq_some_iff.1 h).1
theorem blk.ne {w : World} {b b' : Nat} {E E' : TypeId} {cs cs' : List Value} (h : blk w b E cs) (h' : blk w b' E' cs') (hE : E ≠ E') : b ≠ b' := by
  rintro rfl
  unfold blk at *
  rw [h] at h'
  simp only [Option.some.injEq, Obj.cells.injEq] at h'
  exact hE h'.2.1
theorem blk.cell {w : World} {b : Nat} {E : TypeId} {cs : List Value} (h : blk w b E cs) (o : Nat) : w.cell? ⟨b, o, none⟩ = cs[o]? := by
  unfold World.cell?
  rw [h]; simp
theorem blk.frozen {w : World} {b : Nat} {E : TypeId} {cs : List Value} (h : blk w b E cs) (o : Nat) : w.frozen? ⟨b, o, none⟩ = false := by
  unfold World.frozen?
  rw [h]; simp

/-- Of what was there nothing has turned, but in blocks from B on whose elements are of a type of T. -/
structure Keep (T : List TypeId) (B : Nat) (w w' : World) : Prop where
  os : w'.os = w.os
  tape : w'.tape = w.tape
  output : w'.output = w.output
  size : w.heap.size ≤ w'.heap.size
  block : ∀ (k : Nat) (o : Obj), w.heap[k]? = some o → (k < B ∨ ∀ cs E z, o = .cells cs E z → E ∉ T) → w'.heap[k]? = some o

theorem Keep.refl (T : List TypeId) (B : Nat) (w : World) : Keep T B w w := ⟨rfl, rfl, rfl, Nat.le_refl _, fun _ _ h _ => h⟩
theorem Keep.trans {T : List TypeId} {B : Nat} {a b c : World} (h : Keep T B a b) (k : Keep T B b c) : Keep T B a c :=
  ⟨k.os.trans h.os, k.tape.trans h.tape, k.output.trans h.output, Nat.le_trans h.size k.size, fun i o ho hk => k.block i o (h.block i o ho hk) hk⟩
theorem Keep.mono {T T' : List TypeId} {B B' : Nat} {w w' : World} (h : Keep T B w w') (hT : ∀ t ∈ T, t ∈ T') (hB : B' ≤ B) : Keep T' B' w w' :=
  ⟨h.os, h.tape, h.output, h.size, fun k o ho hk => h.block k o ho (hk.elim (fun h => .inl (Nat.lt_of_lt_of_le h hB)) (fun h => .inr fun cs E z e hm => h cs E z e (hT E hm)))⟩
theorem Keep.of {T : List TypeId} {B : Nat} {w w' : World} (h : Below w.heap.size w w') : Keep T B w w' :=
  ⟨h.os, h.tape, h.output, h.size, fun k o ho _ => by rw [h.block k (Array.getElem?_eq_some_iff.1 ho).1]; exact ho⟩
theorem Keep.below {T : List TypeId} {B : Nat} {w w' : World} (h : Keep T B w w') (hB : B ≤ w.heap.size) : Below B w w' :=
  ⟨h.os, h.tape, h.output, h.size, fun k hk => by
    have hk' : k < w.heap.size := by omega
    rw [h.block k _ (Array.getElem?_eq_getElem hk') (.inl hk), Array.getElem?_eq_getElem hk']⟩
theorem Keep.belowNone {B : Nat} {w w' : World} (h : Keep [] B w w') : Below w.heap.size w w' :=
  ⟨h.os, h.tape, h.output, h.size, fun k hk => by
    rw [h.block k _ (Array.getElem?_eq_getElem hk) (.inr fun _ _ _ _ hm => by cases hm), Array.getElem?_eq_getElem hk]⟩
theorem Keep.drew {T : List TypeId} {B : Nat} {a w : World} (h : Keep T B a w) : Keep T B a w.drew := ⟨h.os, h.tape, h.output, h.size, h.block⟩
theorem Keep.undrew {T : List TypeId} {B : Nat} {a w : World} (h : Keep T B a.drew w) : Keep T B a w := ⟨h.os, h.tape, h.output, h.size, h.block⟩
theorem Keep.blk {T : List TypeId} {B : Nat} {w w' : World} {b : Nat} {E : TypeId} {cs : List Value} (h : Keep T B w w') (hb : blk w b E cs) (hE : b < B ∨ E ∉ T) : blk w' b E cs :=
  h.block _ _ hb (hE.imp id fun h cs E z e => by cases e; exact h)
theorem below_blk {B : Nat} {w w' : World} {b : Nat} {E : TypeId} {cs : List Value} (h : Below B w w') (hb : blk w b E cs) (hB : b < B) : blk w' b E cs := by
  unfold Go.Proofs.YtfjafbbalohmhaaGreatDoor.blk; rw [h.block b hB]; exact hb
theorem blk.drew {w : World} {b : Nat} {E : TypeId} {cs : List Value} (h : blk w b E cs) : blk w.drew b E cs := h

/-- Only block b was written. -/
structure Oth (b : Nat) (w w' : World) : Prop where
  os : w'.os = w.os
  tape : w'.tape = w.tape
  output : w'.output = w.output
  size : w'.heap.size = w.heap.size
  other : ∀ k, k ≠ b → w'.heap[k]? = w.heap[k]?

theorem Oth.blk {b k : Nat} {w w' : World} {E : TypeId} {cs : List Value} (h : Oth b w w') (hb : blk w k E cs) (hk : k ≠ b) : blk w' k E cs := by
  unfold Go.Proofs.YtfjafbbalohmhaaGreatDoor.blk; rw [h.other k hk]; exact hb
theorem Oth.keep {T : List TypeId} {B b : Nat} {w w' : World} {E : TypeId} {cs : List Value} (h : Oth b w w') (hb : Go.Proofs.YtfjafbbalohmhaaGreatDoor.blk w b E cs) (hE : E ∈ T) (hB : B ≤ b) : Keep T B w w' :=
  ⟨h.os, h.tape, h.output, by rw [h.size]; exact Nat.le_refl _, fun k o ho hk => by
    have : k ≠ b := by
      rintro rfl
      rcases hk with hk | hk
      · omega
      · unfold Go.Proofs.YtfjafbbalohmhaaGreatDoor.blk at hb
        rw [hb] at ho
        cases ho
        exact hk _ _ _ rfl hE
    rw [h.other k this]; exact ho⟩
theorem Oth.below {b : Nat} {w w' : World} (h : Oth b w w') : Below b w w' :=
  ⟨h.os, h.tape, h.output, by rw [h.size]; exact Nat.le_refl _, fun k hk => h.other k (by omega)⟩

theorem Keep.grown {T : List TypeId} {B B2 : Nat} {w w' : World} {E : TypeId} {a : Option Addr} {n c : Nat} {xs : List Value} {s : Nat} (hg : w.grownBy w' (Value.slice a n c).ownBlock) (ho : w.ownsRow B2 E s (.slice a n c) n xs) (hE : E ∈ T) (hB : B ≤ B2) : Keep T B w w' :=
  ⟨hg.os, hg.tape, hg.output, hg.size, fun k o hk h => by
    have hlt : k < w.heap.size := (Array.getElem?_eq_some_iff.1 hk).1
    rw [hg.block k hlt ?_]; exact hk
    rcases ho.2 with ⟨hv, _⟩ | ⟨g, cap, cur, hv, hb, hh, _⟩
    · cases hv; simp [Value.ownBlock]
    · cases hv
      simp only [Value.ownBlock, ne_eq, Option.some.injEq]
      rintro rfl
      rcases h with h | h
      · omega
      · rw [hh] at hk; cases hk; exact h _ _ _ rfl hE⟩

section
variable {P : Program} {K : KV} {w : World} {t : TypeId} {b o : Nat} {E : TypeId} {cs : List Value}

theorem add_p (b o j : Nat) : (⟨b, o, none⟩ : Addr).add j = ⟨b, o + j, none⟩ := Addr.add_mid b o j

theorem nilC_p {a : Addr} (h : K (.pointer (some a)) w) : nilC (.pointer (some a)) K w := h
theorem nilC_f {f : FuncId} {x y : Array Value} (h : K (.func (.func f) x y) w) : nilC (.func (.func f) x y) K w := h

/-- A variable of one cell is read. -/
theorem ld1 {v : Value} (ha : ∀ w, (isAgg t).run P w = .ok false w) (hb : blk w b E cs) (ho : cs[o]? = some v) (h : K v w) : ld P t (.pointer (some ⟨b, o, none⟩)) K w :=
  ld_cell ha (by rw [hb.cell, ho]) h

theorem ld1x (v : Value) (ha : ∀ w, (isAgg t).run P w = .ok false w) (hb : blk w b E cs) (ho : cs[o]? = some v) (h : K v w) : ld P t (.pointer (some ⟨b, o, none⟩)) K w := ld1 ha hb ho h

/-- A struct or an array is read. -/
theorem ldA {n : Nat} {vs : List Value} {d : TypeDesc} (hu : P.underlying t = some d) (hd : d.isRow = true) (hi : (P.info? t).map (·.size) = some n) (hb : blk w b E cs) (hv : (cs.drop o).take n = vs) (hn : vs.length = n)
    (h : K (.agg vs.toArray) w) : ld P t (.pointer (some ⟨b, o, none⟩)) K w := by
  refine ld_of (run_loadVar_mid w b o t vs d ?_ hu hd (by rw [hn]; exact hi)) h
  intro j v hj
  rw [hb.cell]
  subst hv
  have hlt := (List.getElem?_eq_some_iff.1 hj).1
  rw [List.getElem?_take] at hj
  split at hj
  · rw [List.getElem?_drop] at hj; exact hj
  · cases hj

/-- A variable of one cell is written. -/
theorem sto1 {v : Value} (hs : ∀ w, (sizeOf t).run P w = .ok 1 w) (hb : blk w b E cs) (ho : o < cs.length) (hv : v.oneCell' = true)
    (h : ∀ w', blk w' b E (cs.set o v) → Oth b w w' → K undef w') : sto P t (.pointer (some ⟨b, o, none⟩)) v K w := by
  have hc : w.cell? ⟨b, o, none⟩ = some cs[o] := by rw [hb.cell, List.getElem?_eq_getElem ho]
  have hv2 : v.cells = #[v] := by cases v <;> first | rfl | simp [Value.oneCell'] at hv
  refine sto_cell hs hv hv2 hc (hb.frozen o) rfl (h _ ?_ ⟨rfl, rfl, rfl, by simp [World.setCell], fun k hk => Below.heap_setCell _ _ _ _ hk⟩)
  unfold blk at *
  simp only [World.setCell, Array.getElem?_modify]
  rw [if_pos trivial, hb]
  simp

theorem setCells_other (b : Nat) : ∀ (vs : List Value) (o : Nat) (w : World), Oth b w (w.setCells b o vs) := by
  intro vs
  induction vs with
  | nil => intro o w; exact ⟨rfl, rfl, rfl, rfl, fun _ _ => rfl⟩
  | cons v vs ih =>
    intro o w
    have h := ih (o + 1) (w.setCell ⟨b, o, none⟩ v)
    rw [World.setCells]
    exact ⟨h.os, h.tape, h.output, by rw [h.size]; simp [World.setCell], fun k hk => (h.other k hk).trans (Below.heap_setCell _ _ _ _ hk)⟩

theorem setCells_blk {b : Nat} {E : TypeId} : ∀ (vs : List Value) (o : Nat) (w : World) (cs : List Value), blk w b E cs → o + vs.length ≤ cs.length → blk (w.setCells b o vs) b E (cs.take o ++ vs ++ cs.drop (o + vs.length)) := by
  intro vs
  induction vs with
  | nil => intro o w cs h hl; rw [World.setCells]; simpa using h
  | cons v vs ih =>
    intro o w cs h hl
    rw [World.setCells]
    simp only [List.length_cons] at hl
    have h1 : blk (w.setCell ⟨b, o, none⟩ v) b E (cs.set o v) := by
      unfold blk at *
      simp only [World.setCell, Array.getElem?_modify]
      rw [if_pos trivial, h]
      simp
    have h2 := ih (o + 1) _ _ h1 (by simp; omega)
    have : (cs.set o v).take (o + 1) ++ vs ++ (cs.set o v).drop (o + 1 + vs.length) = cs.take o ++ (v :: vs) ++ cs.drop (o + (vs.length + 1)) := by
      have e : cs.set o v = cs.take o ++ v :: cs.drop (o + 1) := by rw [List.set_eq_take_append_cons_drop, if_pos (by omega)]
      have e2 : (cs.take o).length = o := by rw [List.length_take]; omega
      rw [e, List.take_append, List.drop_append, e2, List.take_take, List.drop_take]
      simp only [show min (o + 1) o = o by omega, show o + 1 - o = 1 by omega, List.take_succ_cons, List.take_zero, show o - (o + 1 + vs.length) = 0 by omega, List.nil_append, show o + 1 + vs.length - o = vs.length + 1 by omega, List.drop_succ_cons, List.drop_drop,
        show o + 1 + vs.length = o + (vs.length + 1) by omega, List.append_assoc, List.cons_append, List.take_zero, show o - (o + (vs.length + 1)) = 0 by omega, show o + (vs.length + 1) - o = vs.length + 1 by omega, List.nil_append, List.drop_succ_cons, List.drop_drop,
        show o + 1 + vs.length = o + (vs.length + 1) by omega]
    rw [this] at h2
    exact h2

/-- A struct or an array is written. -/
theorem stoA {vs : List Value} {n : Nat} (hi : (P.info? t).map (·.size) = some n) (hn : vs.length = n) (hb : blk w b E cs) (ho : o + n ≤ cs.length) (h1 : ∀ v ∈ vs, v.oneCell' = true)
    (h : ∀ w', blk w' b E (cs.take o ++ vs ++ cs.drop (o + n)) → Oth b w w' → K undef w') : sto P t (.pointer (some ⟨b, o, none⟩)) (.agg vs.toArray) K w := by
  subst hn
  have hr := run_storeAt_mid (P := P) w b o t vs.toArray (fun j hj => ⟨by
    rw [hb.cell, List.getElem?_eq_getElem (by simp at hj; omega)]; rfl, hb.frozen _⟩) (by simpa using hi) (by simpa using h1)
  unfold sto
  exact okU_of hr (h _ (by simpa using setCells_blk vs o w cs hb ho) (by simpa using setCells_other b vs o w))

/-- A new variable. -/
theorem box_of {v : Value} (h : ∀ w', blk w' w.heap.size t v.cells.toList → Below w.heap.size w w' → w'.heap.size = w.heap.size + 1 → K (.pointer (some ⟨w.heap.size, 0, none⟩)) w') : box P t v K w := by
  unfold box
  refine okV_of (w' := w.alloc (.cells v.cells t)) (v := .pointer (some ⟨w.heap.size, 0, none⟩)) ?_ (h _ ?_ (below_of_grown (World.grownBy_alloc _ _ none) (Nat.le_refl _) (fun k hk => by cases hk)) (by simp))
  · simp [Instr.box, newVar, newRow]
  · unfold blk; rw [heap_alloc_new]
theorem alc_of {z : Value} (hz : (P.info? t).bind (·.zero) = some z) (h : ∀ w', blk w' w.heap.size t z.cells.toList → Below w.heap.size w w' → w'.heap.size = w.heap.size + 1 → K (.pointer (some ⟨w.heap.size, 0, none⟩)) w') : alc P t K w := by
  obtain ⟨i, hi, hz⟩ := Option.bind_eq_some_iff.1 hz
  unfold alc
  refine okV_of (w' := w.alloc (.cells z.cells t)) (v := .pointer (some ⟨w.heap.size, 0, none⟩)) ?_ (h _ ?_ (below_of_grown (World.grownBy_alloc _ _ none) (Nat.le_refl _) (fun k hk => by cases hk)) (by simp))
  · simp [Instr.alloc, zeroValue, typeInfo, hi, hz, newVar, newRow]
  · unfold blk; rw [heap_alloc_new]

theorem bld_of {ps : Array (Nat × Value)} {vs : List Value} (hb : P.built t ps.toList = some vs.toArray) (h : K (.agg vs.toArray) w) : bld P t ps K w := by
  unfold bld
  exact okV_of (run_build w t ps _ hb) h

/-- Where a field of a struct stands, if it has cells. -/
def fOff (P : Program) (s : TypeId) (f : Nat) : Option Nat :=
  match P.underlying s with
  | some (.struct fs) =>
    match fs[f]? with
    | some fd => match P.info? fd.type with
      | some i => match Nat.beq i.size 0 with | true => none | false => some fd.offset
      | none => none
    | none => none
  | _ => none

theorem fldA_of {f off : Nat} (hf : fOff P t f = some off) (h : K (.pointer (some ⟨b, o + off, none⟩)) w) : fldA P t (.pointer (some ⟨b, o, none⟩)) f K w := by
  unfold fOff at hf
  split at hf
  · rename_i fs hu
    split at hf
    · rename_i fd hfd
      split at hf
      · rename_i i hi
        split at hf
        · cases hf
        · rename_i h0
          cases hf
          have hs : (sizeOf fd.type).run P w = .ok i.size w := by simp [sizeOf, typeInfo, hi]
          have h0' : ¬ i.size = 0 := fun e => by rw [e] at h0; exact absurd h0 (by decide)
          unfold fldA
          refine okV_of (w' := w) ?_ h
          simp only [Instr.fieldAt, Sem.run_bind, run_underlying hu, Result.andThen_ok, hfd, Instr.sureAddr, Sem.run_pure, fieldPlace, hs, h0', if_false, add_p]
      · cases hf
    · cases hf
  · cases hf

/-- A field of a struct value. -/
def fldOf (P : Program) (s : TypeId) (f : Nat) : Option (Nat × Nat × Bool) :=
  match P.underlying s with
  | some (.struct fs) =>
    match fs[f]? with
    | some fd => match P.info? fd.type, P.underlying fd.type with
      | some i, some d => some (fd.offset, i.size, d.isRow)
      | _, _ => none
    | none => none
  | _ => none

theorem fld1 {f off n : Nat} {v : Value} (hf : fldOf P t f = some (off, n, false)) (hv : cs[off]? = some v) (h : K v w) : fld P t (.agg cs.toArray) f K w := by
  unfold fldOf at hf
  split at hf
  · rename_i fs hu
    split at hf
    · rename_i fd hfd
      split at hf
      · rename_i i d hi hd
        simp only [Option.some.injEq, Prod.mk.injEq] at hf
        obtain ⟨rfl, rfl, hr⟩ := hf
        have ha : (isAgg fd.type).run P w = .ok false w := by
          unfold isAgg
          rw [Sem.run_bind, run_underlying hd w]
          cases d <;> simp_all [TypeDesc.isRow]
        unfold fld
        refine okV_of (w' := w) ?_ h
        simp only [Instr.field, Sem.run_bind, run_underlying hu, Result.andThen_ok, hfd, asAgg, Sem.run_pure, part, ha]
        simp [hv]
      · cases hf
    · cases hf
  · cases hf

theorem fldG {f off n : Nat} {vs : List Value} (hf : fldOf P t f = some (off, n, true)) (hv : (cs.drop off).take n = vs) (h : K (.agg vs.toArray) w) : fld P t (.agg cs.toArray) f K w := by
  unfold fldOf at hf
  split at hf
  · rename_i fs hu
    split at hf
    · rename_i fd hfd
      split at hf
      · rename_i i d hi hd
        simp only [Option.some.injEq, Prod.mk.injEq] at hf
        obtain ⟨rfl, rfl, hr⟩ := hf
        have ha : (isAgg fd.type).run P w = .ok true w := by
          unfold isAgg
          rw [Sem.run_bind, run_underlying hd w]
          cases d <;> simp_all [TypeDesc.isRow]
        have hs : (sizeOf fd.type).run P w = .ok i.size w := by simp [sizeOf, typeInfo, hi]
        unfold fld
        refine okV_of (w' := w) ?_ h
        subst hv
        simp only [Instr.field, Sem.run_bind, run_underlying hu, Result.andThen_ok, hfd, asAgg, Sem.run_pure, part, ha, if_true, hs]
        congr 3
        rw [List.extract_toArray]
        simp [List.extract_eq_take_drop]
      · cases hf
    · cases hf
  · cases hf

/-- The address of an array's element. -/
theorem idxArr {e : TypeId} {n s : Nat} {k : IntKind} {i : Int} (ht : P.underlying t = some (.array n e)) (hs : ∀ w, (sizeOf e).run P w = .ok s w) (h0 : 0 ≤ i) (h1 : i < n)
    (h : K (.pointer (some ⟨b, o + i.toNat * s, none⟩)) w) : idxA P t (.pointer (some ⟨b, o, none⟩)) (.int k i) K w := by
  unfold idxA
  refine okV_of (w' := w) ?_ h
  simp only [Instr.indexAt, asIntOf, Instr.sureAddr, Sem.run_bind, Sem.run_pure, Result.andThen_ok, run_underlying ht, hs, h0, h1, and_self, if_true, add_p]

/-- The address of a row's element, of several cells. -/
theorem idxRow {e : TypeId} {n c s : Nat} {k : IntKind} {i : Int} (ht : P.underlying t = some (.slice e)) (hs : ∀ w, (sizeOf e).run P w = .ok s w) (h0 : 0 ≤ i) (h1 : i < n)
    (h : K (.pointer (some ⟨b, o + i.toNat * s, none⟩)) w) : idxA P t (.slice (some ⟨b, o, none⟩) n c) (.int k i) K w := by
  unfold idxA
  refine okV_of (w' := w) ?_ h
  simp only [Instr.indexAt, asIntOf, Instr.sureAddr, Sem.run_bind, Sem.run_pure, Result.andThen_ok, run_underlying ht, hs, h0, h1, and_self, if_true, add_p]

/-- x[:m], of whatever elements. -/
theorem slcTo {e : TypeId} {s : Nat} (ht : P.underlying t = some (.slice e)) (hs : ∀ w, (sizeOf e).run P w = .ok s w) {av : Option Addr} {n c m : Nat} {k : IntKind} (hm : m ≤ c) (h : K (.slice av m c) w) :
    slc P t (.slice av n c) none (some (.int k (m : Int))) none K w := by
  have hb : (Instr.sliceBounds true n c none (some (.int k (m : Int))) none).run P w = .ok (0, m, c) w := by
    have := run_sliceBound (P := P) w k (m : Int) c .sliceAcap (by omega) (by omega)
    simp [Instr.sliceBounds] at this ⊢
    rw [this]; simp
  unfold slc
  refine okV_of (w' := w) ?_ h
  simp only [Instr.sliceAt, Instr.slice, Sem.run_bind, Sem.run_pure, Result.andThen_ok, run_underlying ht, hs, hb]
  cases av <;> simp [Addr.add]

/-- x[:m:q]. -/
theorem slc3 {e : TypeId} {s : Nat} (ht : P.underlying t = some (.slice e)) (hs : ∀ w, (sizeOf e).run P w = .ok s w) {av : Option Addr} {n c m q : Nat} {k k' : IntKind} (hm : m ≤ q) (hq : q ≤ c) (h : K (.slice av m q) w) :
    slc P t (.slice av n c) none (some (.int k (m : Int))) (some (.int k' (q : Int))) K w := by
  have hb : (Instr.sliceBounds true n c none (some (.int k (m : Int))) (some (.int k' (q : Int)))).run P w = .ok (0, m, q) w := by
    have h1 := run_sliceBound (P := P) w k' (q : Int) c .slice3Acap (by omega) (by omega)
    have h2 := run_sliceBound (P := P) w k (m : Int) q .slice3B (by omega) (by omega)
    simp [Instr.sliceBounds] at h1 h2 ⊢
    rw [h1]; simp [h2]
  unfold slc
  refine okV_of (w' := w) ?_ h
  simp only [Instr.sliceAt, Instr.slice, Sem.run_bind, Sem.run_pure, Result.andThen_ok, run_underlying ht, hs, hb]
  cases av <;> simp [Addr.add]

/-- A slice literal, elements of several cells. -/
theorem bldSG {e : TypeId} {n s : Nat} {ps : Array (Nat × Value)} (vs : List Value) (ht : P.underlying t = some (.slice e)) (hi : (P.info? e).map (·.size) = some s) (hz : ((P.info? e).bind (·.zero)).isSome = true) (hs : 0 < s) (hn : n = vs.length) (h0 : vs.length ≠ 0)
    (h24 : n * s ≤ 16777216) (hps : ps.toList = (vs.zipIdx 0).map fun x => (x.2, x.1)) (hv : ∀ v ∈ vs, v.cells.size = s)
    (h : ∀ w', blk w' w.heap.size e (vs.flatMap fun v => v.cells.toList) → Below w.heap.size w w' → w'.heap.size = w.heap.size + 1 → K (.slice (some ⟨w.heap.size, 0, none⟩) n n) w') : bldS P t n ps K w := by
  subst hn
  obtain ⟨ie, hie, hsz⟩ : ∃ ie, P.info? e = some ie ∧ ie.size = s := by
    cases hq : P.info? e with
    | none => rw [hq] at hi; cases hi
    | some ie => rw [hq] at hi; exact ⟨ie, rfl, by simpa using hi⟩
  obtain ⟨z, hz'⟩ := Option.isSome_iff_exists.1 hz
  rw [hie] at hz'
  have hz' : ie.zero = some z := hz'
  subst hsz
  have hf := Go.Great.fill_whole hs vs ((Array.range (vs.length * ie.size)).map (z.cells[· % z.cells.size]!)) hv (by simp)
  unfold bldS
  refine okV_of (run_buildSlice (P := P) w t e vs.length ps _ ie z ht hie hz' (by omega) (by intro h; rcases Nat.mul_eq_zero.1 h with h | h <;> omega) (by rw [hps]; exact hf)) (h _ ?_ (below_of_grown (World.grownBy_alloc _ _ none) (Nat.le_refl _) (fun k hk => by cases hk)) (by simp))
  unfold blk; rw [heap_alloc_new]

/-- A function value is called. -/
theorem callV_of {f : FuncId} {first args cap all : Array Value} (he : first ++ args ++ cap = all) (h : call P f all K w) : callV P (.func (.func f) first cap) args K w := ⟨f, first, cap, rfl, by rw [he]; exact h⟩

/-- append to a row of the call's own, elements of several cells. -/
theorem app_own {e ty : TypeId} {cs : Array Bool} {base : Nat} {i : TypeInfo} {z : Value} {bytes s : Nat} (ht : P.underlying t = some (.slice e)) (hi : P.info? e = some i) (hz : i.zero = some z)
    (hsize : i.size = s) (hby : i.bytes = bytes) (hzs : z.cells.size = s) (hs0 : 0 < s)
    {av : Option Addr} {n c : Nat} {xs : List Value} (hown : w.ownsRow base e s (.slice av n c) n xs) {g q : Nat} {m c2 : Nat} {ys zs : List Value} (hy : blk w g E zs) (hyl : ys.length = m * s) (hyz : (zs.drop q).take (m * s) = ys) (h1 : ∀ u ∈ ys, u.oneCell' = true)
    (hbytes : (n + m) * bytes ≤ 140737488355328) (h63 : n + m ≤ 9223372036854775807) (hbase : base ≤ w.heap.size)
    (h : ∀ a' c' w', w'.ownsRow base e s (.slice a' (n + m) c') (n + m) (xs ++ ys) → w.grownBy w' (Value.slice av n c).ownBlock → K (.slice a' (n + m) c') w') :
    blt P .append #[t, t] ty cs #[.slice av n c, .slice (some ⟨g, q, none⟩) m c2] K w := by
  have hn : ∀ j u, ys[j]? = some u → w.cell? ((⟨g, q, none⟩ : Addr).add j) = some u := by
    intro j u hj
    rw [add_p, hy.cell]
    subst hyz
    rw [List.getElem?_take] at hj
    split at hj
    · rw [List.getElem?_drop] at hj; exact hj
    · cases hj
  obtain ⟨v', w', hr, h2, h3, _⟩ := run_append_own (P := P) w base t ty e i z s bytes ht hi hz hsize hby hzs hs0 _ n xs hown ⟨g, q, none⟩ m c2 ys hyl hn h1 (by simp only [maxLen]; omega) hbytes hbase
  obtain ⟨a', c', rfl⟩ : ∃ a' c', v' = .slice a' (n + m) c' := by
    rcases h2.2 with ⟨hv, hn⟩ | ⟨g, cap, cur, hv, _⟩
    · exact ⟨none, 0, by rw [hv, hn]⟩
    · exact ⟨_, cap, hv⟩
  exact blt_of (by rw [BigFrame.builtin_append]; simp only [Sem.run_bind, hr, Result.andThen_ok, Sem.run_pure]) (h a' c' w' h2 h3)

/-- append to a row that is full: it stays, and what comes out is a new one, or the same if nothing was put behind. -/
theorem app_full {e ty : TypeId} {bs : Array Bool} {i : TypeInfo} {z : Value} {bytes : Nat} (ht : P.underlying t = some (.slice e)) (hi : P.info? e = some i) (hz : i.zero = some z)
    (hsize : i.size = 1) (hby : i.bytes = bytes) (hzs : z.cells.size = 1)
    {av : Option Addr} {n : Nat} {xs : List Value} (hx : RV w av n n xs) {a2 : Option Addr} {m c2 : Nat} {ys : List Value} (hy : RV w a2 m c2 ys) (hbytes : (n + m) * bytes ≤ 140737488355328) (h63 : n + m ≤ 9223372036854775807)
    (h : ∀ a' c' w', ((a' = av ∧ c' = n ∧ m = 0) ∨ ∃ zs, blk w' w.heap.size e (xs ++ ys ++ zs) ∧ (n + m) + zs.length = c' ∧ a' = some ⟨w.heap.size, 0, none⟩) → Below w.heap.size w w' → K (.slice a' (n + m) c') w') :
    blt P .append #[t, t] ty bs #[.slice av n n, .slice a2 m c2] K w := by
  by_cases hm : m = 0
  · subst hm
    refine blt_of (v := .slice av (n + 0) n) (w' := w) ?_ (h av n w (.inl ⟨rfl, rfl, rfl⟩) (Below.refl _ _))
    rw [BigFrame.builtin_append]
    have hys : ys = [] := List.eq_nil_of_length_eq_zero hy.len
    cases a2 with
    | none => cases av <;> simp [Builtin.append_, run_underlying ht, sizeOf, typeInfo, hi, Builtin.lenOf, Builtin.firstCells, storeCells]
    | some ad => cases av <;> simp [Builtin.append_, run_underlying ht, sizeOf, typeInfo, hi, Builtin.lenOf, Builtin.firstCells, storeCells, loadCells, loadCellsFrom]
  obtain ⟨b2, o2, rfl⟩ := hy.some_ (by omega)
  have hnews : ∀ j u, ys[j]? = some u → w.cell? ((⟨b2, o2, none⟩ : Addr).add j) = some u := by
    intro j u hj
    have := hy.cell j u hj
    rw [add_p]; exact this
  have hnext : ∀ k c : Nat, k * bytes ≤ 140737488355328 → c < k → Builtin.nextslicecap k c * i.bytes ≤ 281474976710656 := by
    intro k c hk hc
    have h2 : Builtin.nextslicecap k c ≤ 2 * k := by
      have := nextslicecap_le (need := k) (old := c) (by omega)
      omega
    calc _ ≤ 2 * k * i.bytes := Nat.mul_le_mul_right _ h2
      _ ≤ _ := by rw [hby, Nat.mul_assoc]; omega
  have fin : ∀ (old : Nat), blk (w.drew.alloc (.cells (xs.toArray ++ ys.toArray ++ Builtin.zeroCells z.cells (grownCap w (n + m) old e - (n + m))) e)) w.heap.size e (xs ++ ys ++ (Builtin.zeroCells z.cells (grownCap w (n + m) old e - (n + m))).toList) := by
    intro old
    unfold blk
    have := heap_alloc_new w.drew (.cells (xs.toArray ++ ys.toArray ++ Builtin.zeroCells z.cells (grownCap w (n + m) old e - (n + m))) e)
    rw [show w.drew.heap.size = w.heap.size from rfl] at this
    rw [this]
    simp
  have hz2 : ∀ k, (Builtin.zeroCells z.cells k).toList.length = k := by intro k; rw [Array.length_toList, size_zeroCells, hzs]; omega
  have hbel : ∀ ob, Below w.heap.size w (w.drew.alloc ob) := fun ob => ⟨rfl, rfl, rfl, by simp, fun k hk => Below.heap_alloc w.drew _ _ hk⟩
  cases av with
  | none =>
    obtain ⟨rfl, -⟩ := hx.nil_ rfl
    have hxs : xs = [] := List.eq_nil_of_length_eq_zero hx.len
    subst hxs
    have hr := run_append_nil (P := P) w t ty e i z ht hi hz ⟨b2, o2, none⟩ m c2 ys (by rw [hsize, hy.len]; omega) hnews (by omega) (by omega) (by rw [hby]; rw [Nat.zero_add] at hbytes; omega)
    have hge := grownCap_ge w m 0 e
    have hf := fin 0
    simp only [Nat.zero_add, List.nil_append] at hf h ⊢
    have key := h (some ⟨w.heap.size, 0, none⟩) (grownCap w m 0 e) (w.drew.alloc (.cells (ys.toArray ++ Builtin.zeroCells z.cells (grownCap w m 0 e - m)) e))
      (.inr ⟨_, by simpa using hf, by rw [hz2]; omega, rfl⟩) (hbel _)
    exact blt_of (by rw [BigFrame.builtin_append]; simp only [Sem.run_bind, hr, Result.andThen_ok, Sem.run_pure]) key
  | some ad =>
    have hxc : ∀ j v, xs[j]? = some v → w.cell? (ad.add j) = some v := by
      intro j v hj
      have hlt := (List.getElem?_eq_some_iff.1 hj).1
      obtain ⟨b1, o1, hb1⟩ := hx.some_ (by have := hx.len; omega)
      cases hb1
      rw [add_p]; exact hx.cell j v hj
    have hr := run_append_grow (P := P) w t ty e i z ht hi hz ad n n xs (by rw [hsize, hx.len]; omega) hxc ⟨b2, o2, none⟩ m c2 ys (by rw [hsize, hy.len]; omega) hnews (by omega) (by omega) (hnext _ _ hbytes (by omega))
    have hge := grownCap_ge w (n + m) n e
    have key := h (some ⟨w.heap.size, 0, none⟩) (grownCap w (n + m) n e) _ (.inr ⟨_, fin n, by rw [hz2]; omega, rfl⟩) (hbel _)
    exact blt_of (by rw [BigFrame.builtin_append]; simp only [Sem.run_bind, hr, Result.andThen_ok, Sem.run_pure]) key

/-! ## In a region that draws -/
theorem hld_of {S : World → Prop} {s : KV → World → Prop} {k : Value → Prop} {v : Value} (h : ∀ w, S w → ∀ K : KV, K v w → s K w) (hk : k v) : hld S s k := ⟨v, fun w hw => h w hw _ ⟨rfl, rfl⟩, hk⟩
theorem hReg_of {b : (World → Prop) → World → Prop} (S : World → Prop) (hS : S w) (h : b S w) : hReg b w := ⟨S, hS, h⟩
end
theorem hG_t {v : Value} {want : Bool} {S : World → Prop} {s : KV → World → Prop} {k : Value → Prop} {x : Value} (hv : asB v = some want) (h : ∀ w, S w → ∀ K : KV, K x w → s K w) (hk : k x) : hG v want S s k :=
  ⟨x, fun _ w hw => h w hw _ ⟨rfl, rfl⟩, fun hh => absurd hv hh, hk⟩
theorem xG_t {v : Value} {want : Bool} {s : KV → World → Prop} {K : KV} {w : World} (hv : asB v = some want) (h : s K w) : xG v want s K w := ⟨fun _ => h, fun hh => absurd hv hh⟩
theorem asB_t {p : Prop} [Decidable p] (hp : p) : asB (.bool (decide p)) = some true := by show some (decide p) = some true; rw [decide_eq_true hp]
theorem asB_f {p : Prop} [Decidable p] (hp : ¬ p) : asB (.bool (decide p)) = some false := by show some (decide p) = some false; rw [decide_eq_false hp]
end Go.Proofs.YtfjafbbalohmhaaGreatDoor
/- An example that is known to yield true, as a law's walk wants it. Nothing of the program is named here. -/
namespace Go.Proofs.YtfjafbbalohmhaaGreatDoor
set_option maxRecDepth 100000
open Go.RowKit
/-- Called in any world behind W it yields true, and turns nothing that was there. -/
def WkOK (P : Program) (f : FuncId) (W : World) : Prop := ∀ (w : World) (K : KV), Below W.heap.size W w → (∀ w', Below w.heap.size w w' → K (.bool true) w') → call P f #[] K w
theorem WkOK.use {P : Program} {f : FuncId} {W w : World} {K : KV} (hk : WkOK P f W) (hb : Below W.heap.size W w) (h : ∀ w', Below W.heap.size W w' → K (.bool true) w') : call P f #[] K w :=
  hk w K hb fun w' b => h w' (hb.trans (b.mono hb.size))
theorem RV.pre {w : World} {a : Option Addr} {n c m : Nat} {xs : List Value} (h : RV w a n c xs) (hm : m ≤ n) : RV w a m c (xs.take m) :=
  ⟨by rw [List.length_take, h.len]; omega, Nat.le_trans hm h.cap, fun h0 => h.some_ (by omega), fun ha => by have := h.nil_ ha; omega, fun i v hv => by
    rw [List.getElem?_take] at hv
    split at hv
    · exact h.cell i v hv
    · cases hv⟩
end Go.Proofs.YtfjafbbalohmhaaGreatDoor
/- Rows of the call's own: as the heap turns, made of a literal, appended to with their block told. Nothing of the program is named here. -/
namespace Go.Proofs.YtfjafbbalohmhaaGreatDoor
set_option maxRecDepth 100000
open Go.RowKit
section
variable {P : Program} {w w' : World} {t : TypeId} {K : KV}
theorem ownS {B : Nat} {E : TypeId} {s : Nat} {v : Value} {n : Nat} {xs : List Value} (h : w.ownsRow B E s v n xs) (hk : ∀ k, v.ownBlock = some k → w'.heap[k]? = w.heap[k]?) : w'.ownsRow B E s v n xs := by
  refine ⟨h.1, ?_⟩
  rcases h.2 with h2 | ⟨g, cap, cur, hv, hb, hh, r⟩
  · exact .inl h2
  · refine .inr ⟨g, cap, cur, hv, hb, ?_, r⟩
    rw [hk g (by rw [hv]; rfl)]; exact hh
theorem ownLit {B g n s : Nat} {E : TypeId} {xs : List Value} (hb : blk w g E xs) (hn : xs.length = n * s) (hB : B ≤ g) (hm : n ≤ maxLen) : w.ownsRow B E s (.slice (some ⟨g, 0, none⟩) n n) n xs := by
  refine ⟨hn, .inr ⟨g, n, xs.toArray, rfl, hB, hb, Nat.le_refl _, hm, by simpa using hn, ?_⟩⟩
  rw [← hn]; simp
theorem appA {e ty : TypeId} {cs : Array Bool} {base : Nat} {i : TypeInfo} {z : Value} {bytes s : Nat} (ht : P.underlying t = some (.slice e)) (hi : P.info? e = some i) (hz : i.zero = some z)
    (hsize : i.size = s) (hby : i.bytes = bytes) (hzs : z.cells.size = s) (hs0 : 0 < s)
    {av : Option Addr} {n c : Nat} {xs : List Value} (hown : w.ownsRow base e s (.slice av n c) n xs) {g : Nat} {m c2 : Nat} {ys : List Value} (hy : blk w g e ys) (hyl : ys.length = m * s) (h1 : ∀ u ∈ ys, u.oneCell' = true)
    (hbytes : (n + m) * bytes ≤ 140737488355328) (h63 : n + m ≤ 9223372036854775807) (hbase : base ≤ w.heap.size)
    (h : ∀ a' c' w', w'.ownsRow base e s (.slice a' (n + m) c') (n + m) (xs ++ ys) → w.grownBy w' (Value.slice av n c).ownBlock → ((Value.slice a' (n + m) c').ownBlock = (Value.slice av n c).ownBlock ∨ (Value.slice a' (n + m) c').ownBlock = some w.heap.size) → K (.slice a' (n + m) c') w') :
    blt P .append #[t, t] ty cs #[.slice av n c, .slice (some ⟨g, 0, none⟩) m c2] K w := by
  have hn : ∀ j u, ys[j]? = some u → w.cell? ((⟨g, 0, none⟩ : Addr).add j) = some u := by
    intro j u hj
    rw [show ((⟨g, 0, none⟩ : Addr).add j) = ⟨g, 0 + j, none⟩ from by unfold Addr.add; split <;> simp_all, hy.cell, Nat.zero_add]
    exact hj
  obtain ⟨v', w', hr, h2, h3, _, h5⟩ := run_append_own_at (P := P) w base t ty e i z s bytes ht hi hz hsize hby hzs hs0 _ n xs hown ⟨g, 0, none⟩ m c2 ys hyl hn h1 (by simp only [maxLen]; omega) hbytes hbase
  obtain ⟨a', c', rfl⟩ : ∃ a' c', v' = .slice a' (n + m) c' := by
    rcases h2.2 with ⟨hv, hn⟩ | ⟨g, cap, cur, hv, _⟩
    · exact ⟨none, 0, by rw [hv, hn]⟩
    · exact ⟨_, cap, hv⟩
  exact blt_of (by rw [BigFrame.builtin_append]; simp only [Sem.run_bind, hr, Result.andThen_ok, Sem.run_pure]) (h a' c' w' h2 h3 h5)
end
end Go.Proofs.YtfjafbbalohmhaaGreatDoor
/- Written by program (gen.py): what the code of some functions asks, part by part; each text is checked by the kernel against the translation. -/
namespace Go.Proofs.YtfjafbbalohmhaaGreatDoor
open Go.RowKit
set_option maxRecDepth 100000

def octet_width_P1 (K : KV) : KE := cCode Tryz.prog (cd Tryz.f60 [1, 1, 1]) (retK Tryz.prog Tryz.f60.results.toList K) (fun _ _ _ => False) (retK Tryz.prog Tryz.f60.results.toList K)
def octet_width_A1 (K : KV) : KE := cCode Tryz.prog (cd Tryz.f60 [1, 1, 0, 1]) (octet_width_P1 K) (fun _ _ _ => False) (retK Tryz.prog Tryz.f60.results.toList K)
def octet_width_P2 (K : KV) : KE := cCode Tryz.prog (cd Tryz.f60 [1, 1, 0, 1, 0, 1]) (octet_width_P1 K) (fun i => @Bool.rec (fun _ => KE) ((fun _ _ _ => False) i) (octet_width_P1 K) (Nat.beq i 0)) (retK Tryz.prog Tryz.f60.results.toList K)
def octet_width_A2 (K : KV) : KE := cCode Tryz.prog (cd Tryz.f60 [1, 1, 0, 1, 0, 0]) (octet_width_P2 K) (fun i => @Bool.rec (fun _ => KE) ((fun _ _ _ => False) i) (octet_width_P1 K) (Nat.beq i 0)) (retK Tryz.prog Tryz.f60.results.toList K)
def octet_width_P3 (K : KV) : KE := cCode Tryz.prog (cd Tryz.f60 [1, 1, 0, 1, 0, 0, 0, 1]) (octet_width_P2 K) (fun i => @Bool.rec (fun _ => KE) ((fun i => @Bool.rec (fun _ => KE) ((fun _ _ _ => False) i) (octet_width_P1 K) (Nat.beq i 0)) i) (octet_width_P2 K) (Nat.beq i 4)) (retK Tryz.prog Tryz.f60.results.toList K)
def octet_width_A3 (K : KV) : KE := cCode Tryz.prog (cd Tryz.f60 [1, 1, 0, 1, 0, 0, 0, 0]) (octet_width_P3 K) (fun i => @Bool.rec (fun _ => KE) ((fun i => @Bool.rec (fun _ => KE) ((fun _ _ _ => False) i) (octet_width_P1 K) (Nat.beq i 0)) i) (octet_width_P2 K) (Nat.beq i 4)) (retK Tryz.prog Tryz.f60.results.toList K)
def octet_width_P4 (K : KV) : KE := cCode Tryz.prog (cd Tryz.f60 [1, 1, 0, 1, 0, 0, 0, 0, 0, 1]) (octet_width_P3 K) (fun i => @Bool.rec (fun _ => KE) ((fun i => @Bool.rec (fun _ => KE) ((fun i => @Bool.rec (fun _ => KE) ((fun _ _ _ => False) i) (octet_width_P1 K) (Nat.beq i 0)) i) (octet_width_P2 K) (Nat.beq i 4)) i) (octet_width_P3 K) (Nat.beq i 3)) (retK Tryz.prog Tryz.f60.results.toList K)
def octet_width_A4 (K : KV) : KE := cCode Tryz.prog (cd Tryz.f60 [1, 1, 0, 1, 0, 0, 0, 0, 0, 0]) (octet_width_P4 K) (fun i => @Bool.rec (fun _ => KE) ((fun i => @Bool.rec (fun _ => KE) ((fun i => @Bool.rec (fun _ => KE) ((fun _ _ _ => False) i) (octet_width_P1 K) (Nat.beq i 0)) i) (octet_width_P2 K) (Nat.beq i 4)) i) (octet_width_P3 K) (Nat.beq i 3)) (retK Tryz.prog Tryz.f60.results.toList K)
theorem octet_width_k {K : KV} (xc0 : Code) {size0 : Value} {w : World}
    (h : (cCode Tryz.prog xc0 (cCode Tryz.prog (cd Tryz.f60 [1, 1, 1]) (retK Tryz.prog Tryz.f60.results.toList K) (fun _ _ _ => False) (retK Tryz.prog Tryz.f60.results.toList K)) (fun _ _ _ => False) (retK Tryz.prog Tryz.f60.results.toList K)) [size0, undef, (Value.int IntKind.i64 0), (Value.int IntKind.i64 0), size0, undef, undef, undef, undef, undef, undef, undef, undef, undef, undef, undef, undef, undef, undef, undef, undef, undef] w) :
    cCode Tryz.prog (rep [1, 1, 0, 1] xc0 (cd Tryz.f60 [])) (retK Tryz.prog Tryz.f60.results.toList K) (fun _ _ _ => False) (retK Tryz.prog Tryz.f60.results.toList K) [size0, undef, undef, undef, undef, undef, undef, undef, undef, undef, undef, undef, undef, undef, undef, undef, undef, undef, undef, undef, undef, undef] w := Eq.mp (by kernel_rfl) h

theorem octet_width_in {K : KV} {size0 : Value} {w : World}
    (h : (octet_width_A1 K) [size0, undef, (Value.int IntKind.i64 0), (Value.int IntKind.i64 0), size0, undef, undef, undef, undef, undef, undef, undef, undef, undef, undef, undef, undef, undef, undef, undef, undef, undef] w) :
    Gives Tryz.prog 60 #[size0] w K := enter' Tryz.func60 (by kernel_rfl) (Eq.mp (congrArg (fun c => cCode Tryz.prog c (retK Tryz.prog Tryz.f60.results.toList K) (fun _ _ _ => False) (retK Tryz.prog Tryz.f60.results.toList K) [size0, undef, undef, undef, undef, undef, undef, undef, undef, undef, undef, undef, undef, undef, undef, undef, undef, undef, undef, undef, undef, undef] w) (by kernel_rfl : (rep [1, 1, 0, 1] (cd Tryz.f60 [1, 1, 0, 1]) (cd Tryz.f60 [])) = (cd Tryz.f60 []))) (octet_width_k (cd Tryz.f60 [1, 1, 0, 1]) h))
theorem octet_width_go : isGo Tryz.prog 60 := ⟨_, Tryz.func60, by kernel_rfl, by kernel_rfl⟩

theorem octet_width_A1_k {K : KV} (qc0 : KE) (xc0 : Code) {size0 size1 A0 bits3 A1 A2 A3 A4 A5 A6 A7 A8 A9 C0 C1 C2 C3 C4 C5 C6 C7 C8 : Value} {w : World}
    (h : (cCode Tryz.prog xc0 (cCode Tryz.prog (cd Tryz.f60 [1, 1, 0, 1, 0, 1]) qc0 (fun i => @Bool.rec (fun _ => KE) ((fun _ _ _ => False) i) qc0 (Nat.beq i 0)) (retK Tryz.prog Tryz.f60.results.toList K)) (fun i => @Bool.rec (fun _ => KE) ((fun _ _ _ => False) i) qc0 (Nat.beq i 0)) (retK Tryz.prog Tryz.f60.results.toList K)) [size0, size1, A0, bits3, A1, A2, A3, A4, A5, A6, A7, A8, A9, C0, C1, C2, C3, C4, C5, C6, C7, C8] w) :
    cCode Tryz.prog (rep [0, 0] xc0 (cd Tryz.f60 [1, 1, 0, 1])) qc0 (fun _ _ _ => False) (retK Tryz.prog Tryz.f60.results.toList K) [size0, size1, A0, bits3, A1, A2, A3, A4, A5, A6, A7, A8, A9, C0, C1, C2, C3, C4, C5, C6, C7, C8] w := Eq.mp (by kernel_rfl) h

theorem octet_width_A1_r {K : KV} {size0 size1 A0 bits3 A1 A2 A3 A4 A5 A6 A7 A8 A9 C0 C1 C2 C3 C4 C5 C6 C7 C8 : Value} {w : World}
    (h : (octet_width_A2 K) [size0, size1, A0, bits3, A1, A2, A3, A4, A5, A6, A7, A8, A9, C0, C1, C2, C3, C4, C5, C6, C7, C8] w) :
    octet_width_A1 K [size0, size1, A0, bits3, A1, A2, A3, A4, A5, A6, A7, A8, A9, C0, C1, C2, C3, C4, C5, C6, C7, C8] w := by
  delta octet_width_A1
  exact Eq.mp (congrArg (fun c => cCode Tryz.prog c (octet_width_P1 K) (fun _ _ _ => False) (retK Tryz.prog Tryz.f60.results.toList K) [size0, size1, A0, bits3, A1, A2, A3, A4, A5, A6, A7, A8, A9, C0, C1, C2, C3, C4, C5, C6, C7, C8] w) (by kernel_rfl : (rep [0, 0] (cd Tryz.f60 [1, 1, 0, 1, 0, 0]) (cd Tryz.f60 [1, 1, 0, 1])) = (cd Tryz.f60 [1, 1, 0, 1]))) (octet_width_A1_k (octet_width_P1 K) (cd Tryz.f60 [1, 1, 0, 1, 0, 0]) h)

theorem octet_width_A2_k {K : KV} (qc0 : KE) (qc1 : KE) (xc0 : Code) {size0 size1 A0 bits3 A1 A2 A3 A4 A5 A6 A7 A8 A9 C0 C1 C2 C3 C4 C5 C6 C7 C8 : Value} {w : World}
    (h : (cCode Tryz.prog xc0 (cCode Tryz.prog (cd Tryz.f60 [1, 1, 0, 1, 0, 0, 0, 1]) qc0 (fun i => @Bool.rec (fun _ => KE) ((fun i => @Bool.rec (fun _ => KE) ((fun _ _ _ => False) i) qc1 (Nat.beq i 0)) i) qc0 (Nat.beq i 4)) (retK Tryz.prog Tryz.f60.results.toList K)) (fun i => @Bool.rec (fun _ => KE) ((fun i => @Bool.rec (fun _ => KE) ((fun _ _ _ => False) i) qc1 (Nat.beq i 0)) i) qc0 (Nat.beq i 4)) (retK Tryz.prog Tryz.f60.results.toList K)) [size0, size1, A0, bits3, A1, A2, A3, A4, A5, A6, A7, A8, A9, C0, C1, C2, C3, C4, C5, C6, C7, C8] w) :
    cCode Tryz.prog (rep [0, 0] xc0 (cd Tryz.f60 [1, 1, 0, 1, 0, 0])) qc0 (fun i => @Bool.rec (fun _ => KE) ((fun _ _ _ => False) i) qc1 (Nat.beq i 0)) (retK Tryz.prog Tryz.f60.results.toList K) [size0, size1, A0, bits3, A1, A2, A3, A4, A5, A6, A7, A8, A9, C0, C1, C2, C3, C4, C5, C6, C7, C8] w := Eq.mp (by kernel_rfl) h

theorem octet_width_A2_r {K : KV} {size0 size1 A0 bits3 A1 A2 A3 A4 A5 A6 A7 A8 A9 C0 C1 C2 C3 C4 C5 C6 C7 C8 : Value} {w : World}
    (h : (octet_width_A3 K) [size0, size1, A0, bits3, A1, A2, A3, A4, A5, A6, A7, A8, A9, C0, C1, C2, C3, C4, C5, C6, C7, C8] w) :
    octet_width_A2 K [size0, size1, A0, bits3, A1, A2, A3, A4, A5, A6, A7, A8, A9, C0, C1, C2, C3, C4, C5, C6, C7, C8] w := by
  delta octet_width_A2
  exact Eq.mp (congrArg (fun c => cCode Tryz.prog c (octet_width_P2 K) (fun i => @Bool.rec (fun _ => KE) ((fun _ _ _ => False) i) (octet_width_P1 K) (Nat.beq i 0)) (retK Tryz.prog Tryz.f60.results.toList K) [size0, size1, A0, bits3, A1, A2, A3, A4, A5, A6, A7, A8, A9, C0, C1, C2, C3, C4, C5, C6, C7, C8] w) (by kernel_rfl : (rep [0, 0] (cd Tryz.f60 [1, 1, 0, 1, 0, 0, 0, 0]) (cd Tryz.f60 [1, 1, 0, 1, 0, 0])) = (cd Tryz.f60 [1, 1, 0, 1, 0, 0]))) (octet_width_A2_k (octet_width_P2 K) (octet_width_P1 K) (cd Tryz.f60 [1, 1, 0, 1, 0, 0, 0, 0]) h)

theorem octet_width_A3_k {K : KV} (qc0 : KE) (qc1 : KE) (qc2 : KE) (xc0 : Code) {size0 size1 A0 bits3 A1 A2 A3 A4 A5 A6 A7 A8 A9 C0 C1 C2 C3 C4 C5 C6 C7 C8 : Value} {w : World}
    (h : (cCode Tryz.prog xc0 (cCode Tryz.prog (cd Tryz.f60 [1, 1, 0, 1, 0, 0, 0, 0, 0, 1]) qc0 (fun i => @Bool.rec (fun _ => KE) ((fun i => @Bool.rec (fun _ => KE) ((fun i => @Bool.rec (fun _ => KE) ((fun _ _ _ => False) i) qc1 (Nat.beq i 0)) i) qc2 (Nat.beq i 4)) i) qc0 (Nat.beq i 3)) (retK Tryz.prog Tryz.f60.results.toList K)) (fun i => @Bool.rec (fun _ => KE) ((fun i => @Bool.rec (fun _ => KE) ((fun i => @Bool.rec (fun _ => KE) ((fun _ _ _ => False) i) qc1 (Nat.beq i 0)) i) qc2 (Nat.beq i 4)) i) qc0 (Nat.beq i 3)) (retK Tryz.prog Tryz.f60.results.toList K)) [size0, size1, A0, bits3, A1, A2, A3, A4, A5, A6, A7, A8, A9, C0, C1, C2, C3, C4, C5, C6, C7, C8] w) :
    cCode Tryz.prog (rep [0, 0] xc0 (cd Tryz.f60 [1, 1, 0, 1, 0, 0, 0, 0])) qc0 (fun i => @Bool.rec (fun _ => KE) ((fun i => @Bool.rec (fun _ => KE) ((fun _ _ _ => False) i) qc1 (Nat.beq i 0)) i) qc2 (Nat.beq i 4)) (retK Tryz.prog Tryz.f60.results.toList K) [size0, size1, A0, bits3, A1, A2, A3, A4, A5, A6, A7, A8, A9, C0, C1, C2, C3, C4, C5, C6, C7, C8] w := Eq.mp (by kernel_rfl) h

theorem octet_width_A3_r {K : KV} {size0 size1 A0 bits3 A1 A2 A3 A4 A5 A6 A7 A8 A9 C0 C1 C2 C3 C4 C5 C6 C7 C8 : Value} {w : World}
    (h : (octet_width_A4 K) [size0, size1, A0, bits3, A1, A2, A3, A4, A5, A6, A7, A8, A9, C0, C1, C2, C3, C4, C5, C6, C7, C8] w) :
    octet_width_A3 K [size0, size1, A0, bits3, A1, A2, A3, A4, A5, A6, A7, A8, A9, C0, C1, C2, C3, C4, C5, C6, C7, C8] w := by
  delta octet_width_A3
  exact Eq.mp (congrArg (fun c => cCode Tryz.prog c (octet_width_P3 K) (fun i => @Bool.rec (fun _ => KE) ((fun i => @Bool.rec (fun _ => KE) ((fun _ _ _ => False) i) (octet_width_P1 K) (Nat.beq i 0)) i) (octet_width_P2 K) (Nat.beq i 4)) (retK Tryz.prog Tryz.f60.results.toList K) [size0, size1, A0, bits3, A1, A2, A3, A4, A5, A6, A7, A8, A9, C0, C1, C2, C3, C4, C5, C6, C7, C8] w) (by kernel_rfl : (rep [0, 0] (cd Tryz.f60 [1, 1, 0, 1, 0, 0, 0, 0, 0, 0]) (cd Tryz.f60 [1, 1, 0, 1, 0, 0, 0, 0])) = (cd Tryz.f60 [1, 1, 0, 1, 0, 0, 0, 0]))) (octet_width_A3_k (octet_width_P3 K) (octet_width_P1 K) (octet_width_P2 K) (cd Tryz.f60 [1, 1, 0, 1, 0, 0, 0, 0, 0, 0]) h)

theorem octet_width_A4_k {K : KV} (qc0 : KE) (qc1 : KE) (qc2 : KE) (qc3 : KE) {size0 size1 A0 bits3 A1 A2 A3 A4 A5 A6 A7 A8 A9 C0 C1 C2 C3 C4 C5 C6 C7 C8 : Value} {w : World}
    (h : bin Tryz.prog BinOp.eql 3 false true A1 (Value.int IntKind.i64 8) (fun A3 w =>
    cond A3
      (bin Tryz.prog BinOp.add 3 false true bits3 (Value.int IntKind.i64 32) (fun C1 w =>
    qc0 [size0, size1, A0, C1, A1, A3, A3, A4, A5, A6, A7, A8, A9, bits3, C1, C2, C3, C4, C5, C6, C7, C8] w) w)
      (bin Tryz.prog BinOp.eql 3 false true A1 (Value.int IntKind.i64 4) (fun A5 w =>
    cond A5
      (qc0 [size0, size1, A0, bits3, A1, A3, A3, A5, A5, A6, A7, A8, A9, C0, C1, C2, C3, C4, C5, C6, C7, C8] w)
      (bin Tryz.prog BinOp.eql 3 false true A1 (Value.int IntKind.i64 2) (fun A7 w =>
    cond A7
      (qc3 [size0, size1, A0, bits3, A1, A3, A3, A5, A5, A7, A7, A8, A9, C0, C1, C2, C3, C4, C5, C6, C7, C8] w)
      (bin Tryz.prog BinOp.eql 3 false true A1 (Value.int IntKind.i64 1) (fun A9 w =>
    cond A9
      (qc2 [size0, size1, A0, bits3, A1, A3, A3, A5, A5, A7, A7, A9, A9, C0, C1, C2, C3, C4, C5, C6, C7, C8] w)
      (qc1 [size0, size1, A0, bits3, A1, A3, A3, A5, A5, A7, A7, A9, A9, C0, C1, C2, C3, C4, C5, C6, C7, C8] w)) w)) w)) w)) w) :
    cCode Tryz.prog (cd Tryz.f60 [1, 1, 0, 1, 0, 0, 0, 0, 0, 0]) qc0 (fun i => @Bool.rec (fun _ => KE) ((fun i => @Bool.rec (fun _ => KE) ((fun i => @Bool.rec (fun _ => KE) ((fun _ _ _ => False) i) qc1 (Nat.beq i 0)) i) qc2 (Nat.beq i 4)) i) qc3 (Nat.beq i 3)) (retK Tryz.prog Tryz.f60.results.toList K) [size0, size1, A0, bits3, A1, A2, A3, A4, A5, A6, A7, A8, A9, C0, C1, C2, C3, C4, C5, C6, C7, C8] w := Eq.mp (by kernel_rfl) h

theorem octet_width_A4_r {K : KV} {size0 size1 A0 bits3 A1 A2 A3 A4 A5 A6 A7 A8 A9 C0 C1 C2 C3 C4 C5 C6 C7 C8 : Value} {w : World}
    (h : bin Tryz.prog BinOp.eql 3 false true A1 (Value.int IntKind.i64 8) (fun A3 w =>
    cond A3
      (bin Tryz.prog BinOp.add 3 false true bits3 (Value.int IntKind.i64 32) (fun C1 w =>
    (octet_width_P4 K) [size0, size1, A0, C1, A1, A3, A3, A4, A5, A6, A7, A8, A9, bits3, C1, C2, C3, C4, C5, C6, C7, C8] w) w)
      (bin Tryz.prog BinOp.eql 3 false true A1 (Value.int IntKind.i64 4) (fun A5 w =>
    cond A5
      ((octet_width_P4 K) [size0, size1, A0, bits3, A1, A3, A3, A5, A5, A6, A7, A8, A9, C0, C1, C2, C3, C4, C5, C6, C7, C8] w)
      (bin Tryz.prog BinOp.eql 3 false true A1 (Value.int IntKind.i64 2) (fun A7 w =>
    cond A7
      ((octet_width_P3 K) [size0, size1, A0, bits3, A1, A3, A3, A5, A5, A7, A7, A8, A9, C0, C1, C2, C3, C4, C5, C6, C7, C8] w)
      (bin Tryz.prog BinOp.eql 3 false true A1 (Value.int IntKind.i64 1) (fun A9 w =>
    cond A9
      ((octet_width_P2 K) [size0, size1, A0, bits3, A1, A3, A3, A5, A5, A7, A7, A9, A9, C0, C1, C2, C3, C4, C5, C6, C7, C8] w)
      ((octet_width_P1 K) [size0, size1, A0, bits3, A1, A3, A3, A5, A5, A7, A7, A9, A9, C0, C1, C2, C3, C4, C5, C6, C7, C8] w)) w)) w)) w)) w) :
    octet_width_A4 K [size0, size1, A0, bits3, A1, A2, A3, A4, A5, A6, A7, A8, A9, C0, C1, C2, C3, C4, C5, C6, C7, C8] w := by
  delta octet_width_A4
  exact Eq.mp (congrArg (fun c => cCode Tryz.prog c (octet_width_P4 K) (fun i => @Bool.rec (fun _ => KE) ((fun i => @Bool.rec (fun _ => KE) ((fun i => @Bool.rec (fun _ => KE) ((fun _ _ _ => False) i) (octet_width_P1 K) (Nat.beq i 0)) i) (octet_width_P2 K) (Nat.beq i 4)) i) (octet_width_P3 K) (Nat.beq i 3)) (retK Tryz.prog Tryz.f60.results.toList K) [size0, size1, A0, bits3, A1, A2, A3, A4, A5, A6, A7, A8, A9, C0, C1, C2, C3, C4, C5, C6, C7, C8] w) (by kernel_rfl : (cd Tryz.f60 [1, 1, 0, 1, 0, 0, 0, 0, 0, 0]) = (cd Tryz.f60 [1, 1, 0, 1, 0, 0, 0, 0, 0, 0]))) (octet_width_A4_k (octet_width_P4 K) (octet_width_P1 K) (octet_width_P2 K) (octet_width_P3 K) h)

theorem octet_width_P4_k {K : KV} (qc0 : KE) (qc1 : KE) (qc2 : KE) {size0 size1 A0 bits3 A1 A2 A3 A4 A5 A6 A7 A8 A9 C0 C1 C2 C3 C4 C5 C6 C7 C8 : Value} {w : World}
    (h : bin Tryz.prog BinOp.add 3 false true bits3 (Value.int IntKind.i64 16) (fun C3 w =>
    qc0 [size0, size1, A0, C3, A1, A2, A3, A4, A5, A6, A7, A8, A9, C0, C1, bits3, C3, C4, C5, C6, C7, C8] w) w) :
    cCode Tryz.prog (cd Tryz.f60 [1, 1, 0, 1, 0, 0, 0, 0, 0, 1]) qc0 (fun i => @Bool.rec (fun _ => KE) ((fun i => @Bool.rec (fun _ => KE) ((fun i => @Bool.rec (fun _ => KE) ((fun _ _ _ => False) i) qc1 (Nat.beq i 0)) i) qc2 (Nat.beq i 4)) i) qc0 (Nat.beq i 3)) (retK Tryz.prog Tryz.f60.results.toList K) [size0, size1, A0, bits3, A1, A2, A3, A4, A5, A6, A7, A8, A9, C0, C1, C2, C3, C4, C5, C6, C7, C8] w := Eq.mp (by kernel_rfl) h

theorem octet_width_P4_r {K : KV} {size0 size1 A0 bits3 A1 A2 A3 A4 A5 A6 A7 A8 A9 C0 C1 C2 C3 C4 C5 C6 C7 C8 : Value} {w : World}
    (h : bin Tryz.prog BinOp.add 3 false true bits3 (Value.int IntKind.i64 16) (fun C3 w =>
    (octet_width_P3 K) [size0, size1, A0, C3, A1, A2, A3, A4, A5, A6, A7, A8, A9, C0, C1, bits3, C3, C4, C5, C6, C7, C8] w) w) :
    octet_width_P4 K [size0, size1, A0, bits3, A1, A2, A3, A4, A5, A6, A7, A8, A9, C0, C1, C2, C3, C4, C5, C6, C7, C8] w := by
  delta octet_width_P4
  exact Eq.mp (congrArg (fun c => cCode Tryz.prog c (octet_width_P3 K) (fun i => @Bool.rec (fun _ => KE) ((fun i => @Bool.rec (fun _ => KE) ((fun i => @Bool.rec (fun _ => KE) ((fun _ _ _ => False) i) (octet_width_P1 K) (Nat.beq i 0)) i) (octet_width_P2 K) (Nat.beq i 4)) i) (octet_width_P3 K) (Nat.beq i 3)) (retK Tryz.prog Tryz.f60.results.toList K) [size0, size1, A0, bits3, A1, A2, A3, A4, A5, A6, A7, A8, A9, C0, C1, C2, C3, C4, C5, C6, C7, C8] w) (by kernel_rfl : (cd Tryz.f60 [1, 1, 0, 1, 0, 0, 0, 0, 0, 1]) = (cd Tryz.f60 [1, 1, 0, 1, 0, 0, 0, 0, 0, 1]))) (octet_width_P4_k (octet_width_P3 K) (octet_width_P1 K) (octet_width_P2 K) h)

theorem octet_width_P3_k {K : KV} (qc0 : KE) (qc1 : KE) {size0 size1 A0 bits3 A1 A2 A3 A4 A5 A6 A7 A8 A9 C0 C1 C2 C3 C4 C5 C6 C7 C8 : Value} {w : World}
    (h : bin Tryz.prog BinOp.add 3 false true bits3 (Value.int IntKind.i64 8) (fun C5 w =>
    qc0 [size0, size1, A0, C5, A1, A2, A3, A4, A5, A6, A7, A8, A9, C0, C1, C2, C3, bits3, C5, C6, C7, C8] w) w) :
    cCode Tryz.prog (cd Tryz.f60 [1, 1, 0, 1, 0, 0, 0, 1]) qc0 (fun i => @Bool.rec (fun _ => KE) ((fun i => @Bool.rec (fun _ => KE) ((fun _ _ _ => False) i) qc1 (Nat.beq i 0)) i) qc0 (Nat.beq i 4)) (retK Tryz.prog Tryz.f60.results.toList K) [size0, size1, A0, bits3, A1, A2, A3, A4, A5, A6, A7, A8, A9, C0, C1, C2, C3, C4, C5, C6, C7, C8] w := Eq.mp (by kernel_rfl) h

theorem octet_width_P3_r {K : KV} {size0 size1 A0 bits3 A1 A2 A3 A4 A5 A6 A7 A8 A9 C0 C1 C2 C3 C4 C5 C6 C7 C8 : Value} {w : World}
    (h : bin Tryz.prog BinOp.add 3 false true bits3 (Value.int IntKind.i64 8) (fun C5 w =>
    (octet_width_P2 K) [size0, size1, A0, C5, A1, A2, A3, A4, A5, A6, A7, A8, A9, C0, C1, C2, C3, bits3, C5, C6, C7, C8] w) w) :
    octet_width_P3 K [size0, size1, A0, bits3, A1, A2, A3, A4, A5, A6, A7, A8, A9, C0, C1, C2, C3, C4, C5, C6, C7, C8] w := by
  delta octet_width_P3
  exact Eq.mp (congrArg (fun c => cCode Tryz.prog c (octet_width_P2 K) (fun i => @Bool.rec (fun _ => KE) ((fun i => @Bool.rec (fun _ => KE) ((fun _ _ _ => False) i) (octet_width_P1 K) (Nat.beq i 0)) i) (octet_width_P2 K) (Nat.beq i 4)) (retK Tryz.prog Tryz.f60.results.toList K) [size0, size1, A0, bits3, A1, A2, A3, A4, A5, A6, A7, A8, A9, C0, C1, C2, C3, C4, C5, C6, C7, C8] w) (by kernel_rfl : (cd Tryz.f60 [1, 1, 0, 1, 0, 0, 0, 1]) = (cd Tryz.f60 [1, 1, 0, 1, 0, 0, 0, 1]))) (octet_width_P3_k (octet_width_P2 K) (octet_width_P1 K) h)

theorem octet_width_P2_k {K : KV} (qc0 : KE) {size0 size1 A0 bits3 A1 A2 A3 A4 A5 A6 A7 A8 A9 C0 C1 C2 C3 C4 C5 C6 C7 C8 : Value} {w : World}
    (h : bin Tryz.prog BinOp.add 3 false true bits3 (Value.int IntKind.i64 8) (fun C7 w =>
    qc0 [size0, size1, A0, C7, A1, A2, A3, A4, A5, A6, A7, A8, A9, C0, C1, C2, C3, C4, C5, bits3, C7, C8] w) w) :
    cCode Tryz.prog (cd Tryz.f60 [1, 1, 0, 1, 0, 1]) qc0 (fun i => @Bool.rec (fun _ => KE) ((fun _ _ _ => False) i) qc0 (Nat.beq i 0)) (retK Tryz.prog Tryz.f60.results.toList K) [size0, size1, A0, bits3, A1, A2, A3, A4, A5, A6, A7, A8, A9, C0, C1, C2, C3, C4, C5, C6, C7, C8] w := Eq.mp (by kernel_rfl) h

theorem octet_width_P2_r {K : KV} {size0 size1 A0 bits3 A1 A2 A3 A4 A5 A6 A7 A8 A9 C0 C1 C2 C3 C4 C5 C6 C7 C8 : Value} {w : World}
    (h : bin Tryz.prog BinOp.add 3 false true bits3 (Value.int IntKind.i64 8) (fun C7 w =>
    (octet_width_P1 K) [size0, size1, A0, C7, A1, A2, A3, A4, A5, A6, A7, A8, A9, C0, C1, C2, C3, C4, C5, bits3, C7, C8] w) w) :
    octet_width_P2 K [size0, size1, A0, bits3, A1, A2, A3, A4, A5, A6, A7, A8, A9, C0, C1, C2, C3, C4, C5, C6, C7, C8] w := by
  delta octet_width_P2
  exact Eq.mp (congrArg (fun c => cCode Tryz.prog c (octet_width_P1 K) (fun i => @Bool.rec (fun _ => KE) ((fun _ _ _ => False) i) (octet_width_P1 K) (Nat.beq i 0)) (retK Tryz.prog Tryz.f60.results.toList K) [size0, size1, A0, bits3, A1, A2, A3, A4, A5, A6, A7, A8, A9, C0, C1, C2, C3, C4, C5, C6, C7, C8] w) (by kernel_rfl : (cd Tryz.f60 [1, 1, 0, 1, 0, 1]) = (cd Tryz.f60 [1, 1, 0, 1, 0, 1]))) (octet_width_P2_k (octet_width_P1 K) h)

theorem octet_width_P1_k {K : KV} {size0 size1 A0 bits3 A1 A2 A3 A4 A5 A6 A7 A8 A9 C0 C1 C2 C3 C4 C5 C6 C7 C8 : Value} {w : World}
    (h : K bits3 w) :
    cCode Tryz.prog (cd Tryz.f60 [1, 1, 1]) (retK Tryz.prog Tryz.f60.results.toList K) (fun _ _ _ => False) (retK Tryz.prog Tryz.f60.results.toList K) [size0, size1, A0, bits3, A1, A2, A3, A4, A5, A6, A7, A8, A9, C0, C1, C2, C3, C4, C5, C6, C7, C8] w := Eq.mp (by kernel_rfl) h

theorem octet_width_P1_r {K : KV} {size0 size1 A0 bits3 A1 A2 A3 A4 A5 A6 A7 A8 A9 C0 C1 C2 C3 C4 C5 C6 C7 C8 : Value} {w : World}
    (h : K bits3 w) :
    octet_width_P1 K [size0, size1, A0, bits3, A1, A2, A3, A4, A5, A6, A7, A8, A9, C0, C1, C2, C3, C4, C5, C6, C7, C8] w := by
  delta octet_width_P1
  exact Eq.mp (congrArg (fun c => cCode Tryz.prog c (retK Tryz.prog Tryz.f60.results.toList K) (fun _ _ _ => False) (retK Tryz.prog Tryz.f60.results.toList K) [size0, size1, A0, bits3, A1, A2, A3, A4, A5, A6, A7, A8, A9, C0, C1, C2, C3, C4, C5, C6, C7, C8] w) (by kernel_rfl : (cd Tryz.f60 [1, 1, 1]) = (cd Tryz.f60 [1, 1, 1]))) (octet_width_P1_k h)
attribute [irreducible] octet_width_P1 octet_width_A1 octet_width_P2 octet_width_A2 octet_width_P3 octet_width_A3 octet_width_P4 octet_width_A4

def octet_Put_A1 (K : KV) : KE := cCode Tryz.prog (cd Tryz.f43 [1, 1, 1, 1]) (retK Tryz.prog Tryz.f43.results.toList K) (fun _ _ _ => False) (retK Tryz.prog Tryz.f43.results.toList K)
def octet_Put_P1 (K : KV) : KE := cCode Tryz.prog (cd Tryz.f43 [1, 1, 1, 1, 1]) (retK Tryz.prog Tryz.f43.results.toList K) (fun _ _ _ => False) (retK Tryz.prog Tryz.f43.results.toList K)
def octet_Put_L1 (K : KV) : KE := cCode Tryz.prog (cd Tryz.f43 [1, 1, 1, 1, 0, 1, 0]) (octet_Put_P1 K) (fun i => @Bool.rec (fun _ => KE) ((fun _ _ _ => False) i) (octet_Put_P1 K) (Nat.beq i 1)) (retK Tryz.prog Tryz.f43.results.toList K)
theorem octet_Put_k {K : KV} (xc0 : Code) {b0 n1 size2 : Value} {w : World}
    (h : call Tryz.prog 60 #[size2] (fun A8 w =>
    bin Tryz.prog BinOp.eql 3 false true A8 (Value.int IntKind.i64 0) (fun C1 w =>
    cond C1
      (K (Value.tuple #[(Value.slice none 0 0), (Value.int IntKind.i64 1)]) w)
      (bin Tryz.prog BinOp.shr 22 false false n1 A8 (fun C5 w =>
      bin Tryz.prog BinOp.gtr 22 false true C5 (Value.int IntKind.u64 0) (fun C6 w =>
      cond C6
        (K (Value.tuple #[(Value.slice none 0 0), (Value.int IntKind.i64 6)]) w)
        (blt Tryz.prog Builtin.len #[28] 3 #[false] #[b0] (fun C8 w =>
    bin Tryz.prog BinOp.add 3 false false C8 size2 (fun D0 w =>
    mkS Tryz.prog 28 (Value.int IntKind.i64 0) D0 (fun D1 w =>
    blt Tryz.prog Builtin.append #[28, 28] 28 #[false, false] #[D1, b0] (fun D3 w =>
    (cCode Tryz.prog xc0 (retK Tryz.prog Tryz.f43.results.toList K) (fun _ _ _ => False) (retK Tryz.prog Tryz.f43.results.toList K)) [b0, n1, size2, undef, undef, undef, (Value.slice none 0 0), (Value.int IntKind.i64 0), A8, D3, size2, A8, C1, A8, C1, C6, n1, A8, C5, C6, b0, C8, size2, D0, D1, b0, D3, undef, undef, undef, undef, undef, undef, undef, undef, undef, undef, undef, undef, undef, undef] w) w) w) w) w)) w) w)) w) w) :
    cCode Tryz.prog (rep [1, 1, 1, 1] xc0 (cd Tryz.f43 [])) (retK Tryz.prog Tryz.f43.results.toList K) (fun _ _ _ => False) (retK Tryz.prog Tryz.f43.results.toList K) [b0, n1, size2, undef, undef, undef, undef, undef, undef, undef, undef, undef, undef, undef, undef, undef, undef, undef, undef, undef, undef, undef, undef, undef, undef, undef, undef, undef, undef, undef, undef, undef, undef, undef, undef, undef, undef, undef, undef, undef, undef] w := Eq.mp (by kernel_rfl) h

theorem octet_Put_in {K : KV} {b0 n1 size2 : Value} {w : World}
    (h : call Tryz.prog 60 #[size2] (fun A8 w =>
    bin Tryz.prog BinOp.eql 3 false true A8 (Value.int IntKind.i64 0) (fun C1 w =>
    cond C1
      (K (Value.tuple #[(Value.slice none 0 0), (Value.int IntKind.i64 1)]) w)
      (bin Tryz.prog BinOp.shr 22 false false n1 A8 (fun C5 w =>
      bin Tryz.prog BinOp.gtr 22 false true C5 (Value.int IntKind.u64 0) (fun C6 w =>
      cond C6
        (K (Value.tuple #[(Value.slice none 0 0), (Value.int IntKind.i64 6)]) w)
        (blt Tryz.prog Builtin.len #[28] 3 #[false] #[b0] (fun C8 w =>
    bin Tryz.prog BinOp.add 3 false false C8 size2 (fun D0 w =>
    mkS Tryz.prog 28 (Value.int IntKind.i64 0) D0 (fun D1 w =>
    blt Tryz.prog Builtin.append #[28, 28] 28 #[false, false] #[D1, b0] (fun D3 w =>
    (octet_Put_A1 K) [b0, n1, size2, undef, undef, undef, (Value.slice none 0 0), (Value.int IntKind.i64 0), A8, D3, size2, A8, C1, A8, C1, C6, n1, A8, C5, C6, b0, C8, size2, D0, D1, b0, D3, undef, undef, undef, undef, undef, undef, undef, undef, undef, undef, undef, undef, undef, undef] w) w) w) w) w)) w) w)) w) w) :
    Gives Tryz.prog 43 #[b0, n1, size2] w K := enter' Tryz.func43 (by kernel_rfl) (Eq.mp (congrArg (fun c => cCode Tryz.prog c (retK Tryz.prog Tryz.f43.results.toList K) (fun _ _ _ => False) (retK Tryz.prog Tryz.f43.results.toList K) [b0, n1, size2, undef, undef, undef, undef, undef, undef, undef, undef, undef, undef, undef, undef, undef, undef, undef, undef, undef, undef, undef, undef, undef, undef, undef, undef, undef, undef, undef, undef, undef, undef, undef, undef, undef, undef, undef, undef, undef, undef] w) (by kernel_rfl : (rep [1, 1, 1, 1] (cd Tryz.f43 [1, 1, 1, 1]) (cd Tryz.f43 [])) = (cd Tryz.f43 []))) (octet_Put_k (cd Tryz.f43 [1, 1, 1, 1]) h))
theorem octet_Put_go : isGo Tryz.prog 43 := ⟨_, Tryz.func43, by kernel_rfl, by kernel_rfl⟩

theorem octet_Put_A1_k {K : KV} {b0 n1 size2 b3 n4 size5 A3 A4 bits8 out9 A7 A8 A9 C0 C1 C2 C3 C4 C5 C6 C7 C8 C9 D0 D1 D2 D3 D4 D5 D6 D7 D8 D9 E0 E1 E2 E3 E4 E5 E6 E7 : Value} {w : World}
    (h : bin Tryz.prog BinOp.sub 3 false true bits8 (Value.int IntKind.i64 8) (fun D5 w =>
    (cCode Tryz.prog (cd Tryz.f43 [1, 1, 1, 1, 0, 1, 0]) (cCode Tryz.prog (cd Tryz.f43 [1, 1, 1, 1, 1]) (retK Tryz.prog Tryz.f43.results.toList K) (fun _ _ _ => False) (retK Tryz.prog Tryz.f43.results.toList K)) (fun i => @Bool.rec (fun _ => KE) ((fun _ _ _ => False) i) (cCode Tryz.prog (cd Tryz.f43 [1, 1, 1, 1, 1]) (retK Tryz.prog Tryz.f43.results.toList K) (fun _ _ _ => False) (retK Tryz.prog Tryz.f43.results.toList K)) (Nat.beq i 1)) (retK Tryz.prog Tryz.f43.results.toList K)) [b0, n1, size2, b3, n4, size5, A3, A4, D5, out9, A7, A8, A9, C0, C1, C2, C3, C4, C5, C6, C7, C8, C9, D0, D1, D2, D3, bits8, D5, D6, D7, D8, D9, E0, E1, E2, E3, E4, E5, E6, E7] w) w) :
    cCode Tryz.prog (cd Tryz.f43 [1, 1, 1, 1]) (retK Tryz.prog Tryz.f43.results.toList K) (fun _ _ _ => False) (retK Tryz.prog Tryz.f43.results.toList K) [b0, n1, size2, b3, n4, size5, A3, A4, bits8, out9, A7, A8, A9, C0, C1, C2, C3, C4, C5, C6, C7, C8, C9, D0, D1, D2, D3, D4, D5, D6, D7, D8, D9, E0, E1, E2, E3, E4, E5, E6, E7] w := Eq.mp (by kernel_rfl) h

theorem octet_Put_A1_r {K : KV} {b0 n1 size2 b3 n4 size5 A3 A4 bits8 out9 A7 A8 A9 C0 C1 C2 C3 C4 C5 C6 C7 C8 C9 D0 D1 D2 D3 D4 D5 D6 D7 D8 D9 E0 E1 E2 E3 E4 E5 E6 E7 : Value} {w : World}
    (h : bin Tryz.prog BinOp.sub 3 false true bits8 (Value.int IntKind.i64 8) (fun D5 w =>
    (octet_Put_L1 K) [b0, n1, size2, b3, n4, size5, A3, A4, D5, out9, A7, A8, A9, C0, C1, C2, C3, C4, C5, C6, C7, C8, C9, D0, D1, D2, D3, bits8, D5, D6, D7, D8, D9, E0, E1, E2, E3, E4, E5, E6, E7] w) w) :
    octet_Put_A1 K [b0, n1, size2, b3, n4, size5, A3, A4, bits8, out9, A7, A8, A9, C0, C1, C2, C3, C4, C5, C6, C7, C8, C9, D0, D1, D2, D3, D4, D5, D6, D7, D8, D9, E0, E1, E2, E3, E4, E5, E6, E7] w := by
  delta octet_Put_A1
  exact Eq.mp (congrArg (fun c => cCode Tryz.prog c (retK Tryz.prog Tryz.f43.results.toList K) (fun _ _ _ => False) (retK Tryz.prog Tryz.f43.results.toList K) [b0, n1, size2, b3, n4, size5, A3, A4, bits8, out9, A7, A8, A9, C0, C1, C2, C3, C4, C5, C6, C7, C8, C9, D0, D1, D2, D3, D4, D5, D6, D7, D8, D9, E0, E1, E2, E3, E4, E5, E6, E7] w) (by kernel_rfl : (cd Tryz.f43 [1, 1, 1, 1]) = (cd Tryz.f43 [1, 1, 1, 1]))) (octet_Put_A1_k h)

theorem octet_Put_L1_k {K : KV} (B1 : KE) (qc0 : KE) {b0 n1 size2 b3 n4 size5 A3 A4 bits8' out9' A7 A8 A9 C0 C1 C2 C3 C4 C5 C6 C7 C8 C9 D0 D1 D2 D3 D4 D5 E7 : Value} {dd : Nat → Value} {w : World}
    (h : bin Tryz.prog BinOp.geq 3 false true bits8' (Value.int IntKind.i64 0) (fun D7 w =>
    cond D7
      (bin Tryz.prog BinOp.shr 22 false false n1 bits8' (fun E3 w =>
    conv Tryz.prog 22 5 E3 (fun E4 w =>
    bldS Tryz.prog 28 1 #[(0, E4)] (fun E5 w =>
    blt Tryz.prog Builtin.append #[28, 28] 28 #[false, false] #[out9', E5] (fun E6 w =>
    bin Tryz.prog BinOp.sub 3 false true bits8' (Value.int IntKind.i64 8) (fun D9 w =>
    B1 [b0, n1, size2, b3, n4, size5, A3, A4, D9, E6, A7, A8, A9, C0, C1, C2, C3, C4, C5, C6, C7, C8, C9, D0, D1, D2, D3, D4, D5, bits8', D7, bits8', D9, out9', n1, bits8', E3, E4, E5, E6, E7] w) w) w) w) w) w)
      (qc0 [b0, n1, size2, b3, n4, size5, A3, A4, bits8', out9', A7, A8, A9, C0, C1, C2, C3, C4, C5, C6, C7, C8, C9, D0, D1, D2, D3, D4, D5, bits8', D7, (dd 31), (dd 32), (dd 33), (dd 34), (dd 35), (dd 36), (dd 37), (dd 38), (dd 39), E7] w)) w) :
    cCode Tryz.prog (cd Tryz.f43 [1, 1, 1, 1, 0, 1, 0, 0]) B1 (fun i => @Bool.rec (fun _ => KE) ((fun _ _ _ => False) i) qc0 (Nat.beq i 1)) (retK Tryz.prog Tryz.f43.results.toList K) [b0, n1, size2, b3, n4, size5, A3, A4, bits8', out9', A7, A8, A9, C0, C1, C2, C3, C4, C5, C6, C7, C8, C9, D0, D1, D2, D3, D4, D5, (dd 29), (dd 30), (dd 31), (dd 32), (dd 33), (dd 34), (dd 35), (dd 36), (dd 37), (dd 38), (dd 39), E7] w := Eq.mp (by kernel_rfl) h

theorem octet_Put_L1_r {K : KV} {b0 n1 size2 b3 n4 size5 A3 A4 bits8 out9 A7 A8 A9 C0 C1 C2 C3 C4 C5 C6 C7 C8 C9 D0 D1 D2 D3 D4 D5 D6 D7 D8 D9 E0 E1 E2 E3 E4 E5 E6 E7 : Value} {w : World} (Inv : Value → Value → World → Prop) (μ : Value → Value → World → Nat) (h0 : Inv bits8 out9 w)
    (hs : ∀ (bits8' out9' : Value) (dd : Nat → Value) (w : World) (m : Nat), Inv bits8' out9' w → m = μ bits8' out9' w →
    bin Tryz.prog BinOp.geq 3 false true bits8' (Value.int IntKind.i64 0) (fun D7 w =>
    cond D7
      (bin Tryz.prog BinOp.shr 22 false false n1 bits8' (fun E3 w =>
    conv Tryz.prog 22 5 E3 (fun E4 w =>
    bldS Tryz.prog 28 1 #[(0, E4)] (fun E5 w =>
    blt Tryz.prog Builtin.append #[28, 28] 28 #[false, false] #[out9', E5] (fun E6 w =>
    bin Tryz.prog BinOp.sub 3 false true bits8' (Value.int IntKind.i64 8) (fun D9 w =>
    (Inv D9 E6 w ∧ μ D9 E6 w < m)) w) w) w) w) w)
      ((octet_Put_P1 K) [b0, n1, size2, b3, n4, size5, A3, A4, bits8', out9', A7, A8, A9, C0, C1, C2, C3, C4, C5, C6, C7, C8, C9, D0, D1, D2, D3, D4, D5, bits8', D7, (dd 31), (dd 32), (dd 33), (dd 34), (dd 35), (dd 36), (dd 37), (dd 38), (dd 39), E7] w)) w) :
    octet_Put_L1 K [b0, n1, size2, b3, n4, size5, A3, A4, bits8, out9, A7, A8, A9, C0, C1, C2, C3, C4, C5, C6, C7, C8, C9, D0, D1, D2, D3, D4, D5, D6, D7, D8, D9, E0, E1, E2, E3, E4, E5, E6, E7] w := by
  refine loop_rule (cd Tryz.f43 [1, 1, 1, 1, 0, 1, 0, 0]) [8, 9, 29, 30, 31, 32, 33, 34, 35, 36, 37, 38, 39] (by kernel_rfl) (fun e2 w2 => Inv (gd e2 8) (gd e2 9) w2) (fun e2 w2 => μ (gd e2 8) (gd e2 9) w2) h0 ?_
  intro e' w' hI
  have h := hs (gd e' 8) (gd e' 9) (fun i => gd e' i) w' _ hI rfl
  have h2 : cCode Tryz.prog (cd Tryz.f43 [1, 1, 1, 1, 0, 1, 0, 0]) (fun e2 w2 => Inv (gd e2 8) (gd e2 9) w2 ∧ μ (gd e2 8) (gd e2 9) w2 < μ (gd e' 8) (gd e' 9) w') (fun i => @Bool.rec (fun _ => KE) ((fun _ _ _ => False) i) (octet_Put_P1 K) (Nat.beq i 1)) (retK Tryz.prog Tryz.f43.results.toList K) [b0, n1, size2, b3, n4, size5, A3, A4, (gd e' 8), (gd e' 9), A7, A8, A9, C0, C1, C2, C3, C4, C5, C6, C7, C8, C9, D0, D1, D2, D3, D4, D5, (gd e' 29), (gd e' 30), (gd e' 31), (gd e' 32), (gd e' 33), (gd e' 34), (gd e' 35), (gd e' 36), (gd e' 37), (gd e' 38), (gd e' 39), E7] w' := octet_Put_L1_k (fun e2 w2 => Inv (gd e2 8) (gd e2 9) w2 ∧ μ (gd e2 8) (gd e2 9) w2 < μ (gd e' 8) (gd e' 9) w') (octet_Put_P1 K) (Eq.mp (by kernel_rfl) h)
  exact Eq.mp (by kernel_rfl) h2

theorem octet_Put_P1_k {K : KV} {b0 n1 size2 b3 n4 size5 A3 A4 bits8 out9 A7 A8 A9 C0 C1 C2 C3 C4 C5 C6 C7 C8 C9 D0 D1 D2 D3 D4 D5 D6 D7 D8 D9 E0 E1 E2 E3 E4 E5 E6 E7 : Value} {w : World}
    (h : K (Value.tuple #[out9, (Value.int IntKind.i64 0)]) w) :
    cCode Tryz.prog (cd Tryz.f43 [1, 1, 1, 1, 1]) (retK Tryz.prog Tryz.f43.results.toList K) (fun _ _ _ => False) (retK Tryz.prog Tryz.f43.results.toList K) [b0, n1, size2, b3, n4, size5, A3, A4, bits8, out9, A7, A8, A9, C0, C1, C2, C3, C4, C5, C6, C7, C8, C9, D0, D1, D2, D3, D4, D5, D6, D7, D8, D9, E0, E1, E2, E3, E4, E5, E6, E7] w := Eq.mp (by kernel_rfl) h

theorem octet_Put_P1_r {K : KV} {b0 n1 size2 b3 n4 size5 A3 A4 bits8 out9 A7 A8 A9 C0 C1 C2 C3 C4 C5 C6 C7 C8 C9 D0 D1 D2 D3 D4 D5 D6 D7 D8 D9 E0 E1 E2 E3 E4 E5 E6 E7 : Value} {w : World}
    (h : K (Value.tuple #[out9, (Value.int IntKind.i64 0)]) w) :
    octet_Put_P1 K [b0, n1, size2, b3, n4, size5, A3, A4, bits8, out9, A7, A8, A9, C0, C1, C2, C3, C4, C5, C6, C7, C8, C9, D0, D1, D2, D3, D4, D5, D6, D7, D8, D9, E0, E1, E2, E3, E4, E5, E6, E7] w := by
  delta octet_Put_P1
  exact Eq.mp (congrArg (fun c => cCode Tryz.prog c (retK Tryz.prog Tryz.f43.results.toList K) (fun _ _ _ => False) (retK Tryz.prog Tryz.f43.results.toList K) [b0, n1, size2, b3, n4, size5, A3, A4, bits8, out9, A7, A8, A9, C0, C1, C2, C3, C4, C5, C6, C7, C8, C9, D0, D1, D2, D3, D4, D5, D6, D7, D8, D9, E0, E1, E2, E3, E4, E5, E6, E7] w) (by kernel_rfl : (cd Tryz.f43 [1, 1, 1, 1, 1]) = (cd Tryz.f43 [1, 1, 1, 1, 1]))) (octet_Put_P1_k h)
attribute [irreducible] octet_Put_A1 octet_Put_P1 octet_Put_L1

def octet_Take_P1 (K : KV) : KE := cCode Tryz.prog (cd Tryz.f45 [1, 1]) (retK Tryz.prog Tryz.f45.results.toList K) (fun _ _ _ => False) (retK Tryz.prog Tryz.f45.results.toList K)
def octet_Take_P2 (K : KV) : KE := cCode Tryz.prog (cd Tryz.f45 [1, 0, 0, 1]) (octet_Take_P1 K) (fun i => @Bool.rec (fun _ => KE) ((fun _ _ _ => False) i) (octet_Take_P1 K) (Nat.beq i 0)) (retK Tryz.prog Tryz.f45.results.toList K)
def octet_Take_A1 (K : KV) : KE := cCode Tryz.prog (cd Tryz.f45 [1, 0, 0, 0, 1]) (octet_Take_P2 K) (fun i => @Bool.rec (fun _ => KE) ((fun _ _ _ => False) i) (octet_Take_P1 K) (Nat.beq i 0)) (retK Tryz.prog Tryz.f45.results.toList K)
def octet_Take_P3 (K : KV) : KE := cCode Tryz.prog (cd Tryz.f45 [1, 1, 1, 1]) (retK Tryz.prog Tryz.f45.results.toList K) (fun _ _ _ => False) (retK Tryz.prog Tryz.f45.results.toList K)
def octet_Take_L1 (K : KV) : KE := cCode Tryz.prog (cd Tryz.f45 [1, 1, 1, 0, 1, 0]) (octet_Take_P3 K) (fun i => @Bool.rec (fun _ => KE) ((fun _ _ _ => False) i) (octet_Take_P3 K) (Nat.beq i 1)) (retK Tryz.prog Tryz.f45.results.toList K)
theorem octet_Take_k {K : KV} (xc0 : Code) {b0 at1 size2 : Value} {w : World}
    (h : call Tryz.prog 60 #[size2] (fun C0 w =>
    bin Tryz.prog BinOp.eql 3 false true C0 (Value.int IntKind.i64 0) (fun C1 w =>
    (cCode Tryz.prog xc0 (cCode Tryz.prog (cd Tryz.f45 [1, 0, 0, 1]) (cCode Tryz.prog (cd Tryz.f45 [1, 1]) (retK Tryz.prog Tryz.f45.results.toList K) (fun _ _ _ => False) (retK Tryz.prog Tryz.f45.results.toList K)) (fun i => @Bool.rec (fun _ => KE) ((fun _ _ _ => False) i) (cCode Tryz.prog (cd Tryz.f45 [1, 1]) (retK Tryz.prog Tryz.f45.results.toList K) (fun _ _ _ => False) (retK Tryz.prog Tryz.f45.results.toList K)) (Nat.beq i 0)) (retK Tryz.prog Tryz.f45.results.toList K)) (fun i => @Bool.rec (fun _ => KE) ((fun _ _ _ => False) i) (cCode Tryz.prog (cd Tryz.f45 [1, 1]) (retK Tryz.prog Tryz.f45.results.toList K) (fun _ _ _ => False) (retK Tryz.prog Tryz.f45.results.toList K)) (Nat.beq i 0)) (retK Tryz.prog Tryz.f45.results.toList K)) (b0::at1::size2::undef::undef::undef::(Value.int IntKind.u64 0)::(Value.int IntKind.i64 0)::(Value.int IntKind.i64 0)::undef::undef::C1::size2::C0::C1::undef::undef::undef::undef::undef::undef::undef::undef::undef::undef::undef::undef::undef::undef::undef::undef::undef::undef::undef::undef::undef::undef::undef::undef::undef::undef::undef::undef::undef::undef::undef::undef::undef::[]) w) w) w) :
    cCode Tryz.prog (rep [1, 0, 0, 0, 1] xc0 (cd Tryz.f45 [])) (retK Tryz.prog Tryz.f45.results.toList K) (fun _ _ _ => False) (retK Tryz.prog Tryz.f45.results.toList K) (b0::at1::size2::undef::undef::undef::undef::undef::undef::undef::undef::undef::undef::undef::undef::undef::undef::undef::undef::undef::undef::undef::undef::undef::undef::undef::undef::undef::undef::undef::undef::undef::undef::undef::undef::undef::undef::undef::undef::undef::undef::undef::undef::undef::undef::undef::undef::undef::[]) w := Eq.mp (by kernel_rfl) h

theorem octet_Take_in {K : KV} {b0 at1 size2 : Value} {w : World}
    (h : call Tryz.prog 60 #[size2] (fun C0 w =>
    bin Tryz.prog BinOp.eql 3 false true C0 (Value.int IntKind.i64 0) (fun C1 w =>
    (octet_Take_A1 K) (b0::at1::size2::undef::undef::undef::(Value.int IntKind.u64 0)::(Value.int IntKind.i64 0)::(Value.int IntKind.i64 0)::undef::undef::C1::size2::C0::C1::undef::undef::undef::undef::undef::undef::undef::undef::undef::undef::undef::undef::undef::undef::undef::undef::undef::undef::undef::undef::undef::undef::undef::undef::undef::undef::undef::undef::undef::undef::undef::undef::undef::[]) w) w) w) :
    Gives Tryz.prog 45 #[b0, at1, size2] w K := enter' Tryz.func45 (by kernel_rfl) (Eq.mp (congrArg (fun c => cCode Tryz.prog c (retK Tryz.prog Tryz.f45.results.toList K) (fun _ _ _ => False) (retK Tryz.prog Tryz.f45.results.toList K) (b0::at1::size2::undef::undef::undef::undef::undef::undef::undef::undef::undef::undef::undef::undef::undef::undef::undef::undef::undef::undef::undef::undef::undef::undef::undef::undef::undef::undef::undef::undef::undef::undef::undef::undef::undef::undef::undef::undef::undef::undef::undef::undef::undef::undef::undef::undef::undef::[]) w) (by kernel_rfl : (rep [1, 0, 0, 0, 1] (cd Tryz.f45 [1, 0, 0, 0, 1]) (cd Tryz.f45 [])) = (cd Tryz.f45 []))) (octet_Take_k (cd Tryz.f45 [1, 0, 0, 0, 1]) h))
theorem octet_Take_go : isGo Tryz.prog 45 := ⟨_, Tryz.func45, by kernel_rfl, by kernel_rfl⟩

section
variable {b0 at1 size2 b3 at4 size5 n6 next7 e8 A6 c10 A8 A9 C0 C1 C2 C3 C4 C5 C6 C7 C8 C9 D0 D1 D2 D3 D4 D5 D6 D7 D8 D9 E0 E1 E2 E3 E4 E5 E6 E7 E8 E9 F0 F1 F2 F3 F4 : Value}
theorem octet_Take_A1_k {K : KV} (qc0 : KE) (qc1 : KE) {w : World}
    (h : cond A8
      (qc0 (b0::at1::size2::b3::at4::size5::n6::next7::e8::A6::c10::A8::A9::C0::C1::C2::C3::C4::C5::C6::C7::C8::C9::D0::D1::D2::D3::D4::D5::D6::D7::D8::D9::E0::E1::E2::E3::E4::E5::E6::E7::E8::E9::F0::F1::F2::F3::F4::[]) w)
      (bin Tryz.prog BinOp.lss 3 false true at1 (Value.int IntKind.i64 0) (fun C3 w =>
      cond C3
        (qc0 (b0::at1::size2::b3::at4::size5::n6::next7::e8::A6::c10::C3::A9::C0::C1::at1::C3::C4::C5::C6::C7::C8::C9::D0::D1::D2::D3::D4::D5::D6::D7::D8::D9::E0::E1::E2::E3::E4::E5::E6::E7::E8::E9::F0::F1::F2::F3::F4::[]) w)
        (blt Tryz.prog Builtin.len #[28] 3 #[false] #[b0] (fun C6 w =>
        bin Tryz.prog BinOp.gtr 3 false false at1 C6 (fun C7 w =>
        qc0 (b0::at1::size2::b3::at4::size5::n6::next7::e8::A6::c10::C7::A9::C0::C1::at1::C3::at1::b0::C6::C7::C8::C9::D0::D1::D2::D3::D4::D5::D6::D7::D8::D9::E0::E1::E2::E3::E4::E5::E6::E7::E8::E9::F0::F1::F2::F3::F4::[]) w) w) w)) w)) :
    cCode Tryz.prog (cd Tryz.f45 [1, 0, 0, 0, 1]) qc0 (fun i => @Bool.rec (fun _ => KE) ((fun _ _ _ => False) i) qc1 (Nat.beq i 0)) (retK Tryz.prog Tryz.f45.results.toList K) (b0::at1::size2::b3::at4::size5::n6::next7::e8::A6::c10::A8::A9::C0::C1::C2::C3::C4::C5::C6::C7::C8::C9::D0::D1::D2::D3::D4::D5::D6::D7::D8::D9::E0::E1::E2::E3::E4::E5::E6::E7::E8::E9::F0::F1::F2::F3::F4::[]) w := Eq.mp (by kernel_rfl) h

theorem octet_Take_A1_r {K : KV} {w : World}
    (h : cond A8
      ((octet_Take_P2 K) (b0::at1::size2::b3::at4::size5::n6::next7::e8::A6::c10::A8::A9::C0::C1::C2::C3::C4::C5::C6::C7::C8::C9::D0::D1::D2::D3::D4::D5::D6::D7::D8::D9::E0::E1::E2::E3::E4::E5::E6::E7::E8::E9::F0::F1::F2::F3::F4::[]) w)
      (bin Tryz.prog BinOp.lss 3 false true at1 (Value.int IntKind.i64 0) (fun C3 w =>
      cond C3
        ((octet_Take_P2 K) (b0::at1::size2::b3::at4::size5::n6::next7::e8::A6::c10::C3::A9::C0::C1::at1::C3::C4::C5::C6::C7::C8::C9::D0::D1::D2::D3::D4::D5::D6::D7::D8::D9::E0::E1::E2::E3::E4::E5::E6::E7::E8::E9::F0::F1::F2::F3::F4::[]) w)
        (blt Tryz.prog Builtin.len #[28] 3 #[false] #[b0] (fun C6 w =>
        bin Tryz.prog BinOp.gtr 3 false false at1 C6 (fun C7 w =>
        (octet_Take_P2 K) (b0::at1::size2::b3::at4::size5::n6::next7::e8::A6::c10::C7::A9::C0::C1::at1::C3::at1::b0::C6::C7::C8::C9::D0::D1::D2::D3::D4::D5::D6::D7::D8::D9::E0::E1::E2::E3::E4::E5::E6::E7::E8::E9::F0::F1::F2::F3::F4::[]) w) w) w)) w)) :
    octet_Take_A1 K (b0::at1::size2::b3::at4::size5::n6::next7::e8::A6::c10::A8::A9::C0::C1::C2::C3::C4::C5::C6::C7::C8::C9::D0::D1::D2::D3::D4::D5::D6::D7::D8::D9::E0::E1::E2::E3::E4::E5::E6::E7::E8::E9::F0::F1::F2::F3::F4::[]) w := by
  delta octet_Take_A1
  exact Eq.mp (congrArg (fun c => cCode Tryz.prog c (octet_Take_P2 K) (fun i => @Bool.rec (fun _ => KE) ((fun _ _ _ => False) i) (octet_Take_P1 K) (Nat.beq i 0)) (retK Tryz.prog Tryz.f45.results.toList K) (b0::at1::size2::b3::at4::size5::n6::next7::e8::A6::c10::A8::A9::C0::C1::C2::C3::C4::C5::C6::C7::C8::C9::D0::D1::D2::D3::D4::D5::D6::D7::D8::D9::E0::E1::E2::E3::E4::E5::E6::E7::E8::E9::F0::F1::F2::F3::F4::[]) w) (by kernel_rfl : (cd Tryz.f45 [1, 0, 0, 0, 1]) = (cd Tryz.f45 [1, 0, 0, 0, 1]))) (octet_Take_A1_k (octet_Take_P2 K) (octet_Take_P1 K) h)

theorem octet_Take_P2_k {K : KV} (qc0 : KE) {w : World}
    (h : cond A8
      (K (Value.tuple #[(Value.int IntKind.u64 0), (Value.int IntKind.i64 0), (Value.int IntKind.i64 1)]) w)
      (blt Tryz.prog Builtin.len #[28] 3 #[false] #[b0] (fun D0 w =>
      bin Tryz.prog BinOp.sub 3 false false D0 at1 (fun D2 w =>
      bin Tryz.prog BinOp.lss 3 false false D2 size2 (fun D4 w =>
      cond D4
        (K (Value.tuple #[(Value.int IntKind.u64 0), (Value.int IntKind.i64 0), (Value.int IntKind.i64 5)]) w)
        (qc0 (b0::at1::size2::b3::at4::size5::n6::next7::e8::A6::c10::A8::A9::C0::C1::C2::C3::C4::C5::C6::C7::D4::b0::D0::at1::D2::size2::D4::D5::D6::D7::D8::D9::E0::E1::E2::E3::E4::E5::E6::E7::E8::E9::F0::F1::F2::F3::F4::[]) w)) w) w) w)) :
    cCode Tryz.prog (cd Tryz.f45 [1, 0, 0, 1]) qc0 (fun i => @Bool.rec (fun _ => KE) ((fun _ _ _ => False) i) qc0 (Nat.beq i 0)) (retK Tryz.prog Tryz.f45.results.toList K) (b0::at1::size2::b3::at4::size5::n6::next7::e8::A6::c10::A8::A9::C0::C1::C2::C3::C4::C5::C6::C7::C8::C9::D0::D1::D2::D3::D4::D5::D6::D7::D8::D9::E0::E1::E2::E3::E4::E5::E6::E7::E8::E9::F0::F1::F2::F3::F4::[]) w := Eq.mp (by kernel_rfl) h

theorem octet_Take_P2_r {K : KV} {w : World}
    (h : cond A8
      (K (Value.tuple #[(Value.int IntKind.u64 0), (Value.int IntKind.i64 0), (Value.int IntKind.i64 1)]) w)
      (blt Tryz.prog Builtin.len #[28] 3 #[false] #[b0] (fun D0 w =>
      bin Tryz.prog BinOp.sub 3 false false D0 at1 (fun D2 w =>
      bin Tryz.prog BinOp.lss 3 false false D2 size2 (fun D4 w =>
      cond D4
        (K (Value.tuple #[(Value.int IntKind.u64 0), (Value.int IntKind.i64 0), (Value.int IntKind.i64 5)]) w)
        ((octet_Take_P1 K) (b0::at1::size2::b3::at4::size5::n6::next7::e8::A6::c10::A8::A9::C0::C1::C2::C3::C4::C5::C6::C7::D4::b0::D0::at1::D2::size2::D4::D5::D6::D7::D8::D9::E0::E1::E2::E3::E4::E5::E6::E7::E8::E9::F0::F1::F2::F3::F4::[]) w)) w) w) w)) :
    octet_Take_P2 K (b0::at1::size2::b3::at4::size5::n6::next7::e8::A6::c10::A8::A9::C0::C1::C2::C3::C4::C5::C6::C7::C8::C9::D0::D1::D2::D3::D4::D5::D6::D7::D8::D9::E0::E1::E2::E3::E4::E5::E6::E7::E8::E9::F0::F1::F2::F3::F4::[]) w := by
  delta octet_Take_P2
  exact Eq.mp (congrArg (fun c => cCode Tryz.prog c (octet_Take_P1 K) (fun i => @Bool.rec (fun _ => KE) ((fun _ _ _ => False) i) (octet_Take_P1 K) (Nat.beq i 0)) (retK Tryz.prog Tryz.f45.results.toList K) (b0::at1::size2::b3::at4::size5::n6::next7::e8::A6::c10::A8::A9::C0::C1::C2::C3::C4::C5::C6::C7::C8::C9::D0::D1::D2::D3::D4::D5::D6::D7::D8::D9::E0::E1::E2::E3::E4::E5::E6::E7::E8::E9::F0::F1::F2::F3::F4::[]) w) (by kernel_rfl : (cd Tryz.f45 [1, 0, 0, 1]) = (cd Tryz.f45 [1, 0, 0, 1]))) (octet_Take_P2_k (octet_Take_P1 K) h)

theorem octet_Take_P1_k {K : KV} {w : World}
    (h : bin Tryz.prog BinOp.add 3 false false at1 size2 (fun D7 w =>
    slc Tryz.prog 28 b0 (some at1) (some D7) none (fun E1 w =>
    blt Tryz.prog Builtin.len #[28] 3 #[false] #[E1] (fun E2 w =>
    (cCode Tryz.prog (cd Tryz.f45 [1, 1, 1, 0, 1, 0]) (cCode Tryz.prog (cd Tryz.f45 [1, 1, 1, 1]) (retK Tryz.prog Tryz.f45.results.toList K) (fun _ _ _ => False) (retK Tryz.prog Tryz.f45.results.toList K)) (fun i => @Bool.rec (fun _ => KE) ((fun _ _ _ => False) i) (cCode Tryz.prog (cd Tryz.f45 [1, 1, 1, 1]) (retK Tryz.prog Tryz.f45.results.toList K) (fun _ _ _ => False) (retK Tryz.prog Tryz.f45.results.toList K)) (Nat.beq i 1)) (retK Tryz.prog Tryz.f45.results.toList K)) (b0::at1::size2::b3::at4::size5::n6::D7::e8::A6::c10::A8::A9::C0::C1::C2::C3::C4::C5::C6::C7::C8::C9::D0::D1::D2::D3::D4::at1::size2::D7::b0::at1::D7::E1::E2::(Value.int IntKind.i64 0)::E4::E5::E6::E7::E8::E9::F0::F1::F2::F3::F4::[]) w) w) w) w) :
    cCode Tryz.prog (cd Tryz.f45 [1, 1]) (retK Tryz.prog Tryz.f45.results.toList K) (fun _ _ _ => False) (retK Tryz.prog Tryz.f45.results.toList K) (b0::at1::size2::b3::at4::size5::n6::next7::e8::A6::c10::A8::A9::C0::C1::C2::C3::C4::C5::C6::C7::C8::C9::D0::D1::D2::D3::D4::D5::D6::D7::D8::D9::E0::E1::E2::E3::E4::E5::E6::E7::E8::E9::F0::F1::F2::F3::F4::[]) w := Eq.mp (by kernel_rfl) h

theorem octet_Take_P1_r {K : KV} {w : World}
    (h : bin Tryz.prog BinOp.add 3 false false at1 size2 (fun D7 w =>
    slc Tryz.prog 28 b0 (some at1) (some D7) none (fun E1 w =>
    blt Tryz.prog Builtin.len #[28] 3 #[false] #[E1] (fun E2 w =>
    (octet_Take_L1 K) (b0::at1::size2::b3::at4::size5::n6::D7::e8::A6::c10::A8::A9::C0::C1::C2::C3::C4::C5::C6::C7::C8::C9::D0::D1::D2::D3::D4::at1::size2::D7::b0::at1::D7::E1::E2::(Value.int IntKind.i64 0)::E4::E5::E6::E7::E8::E9::F0::F1::F2::F3::F4::[]) w) w) w) w) :
    octet_Take_P1 K (b0::at1::size2::b3::at4::size5::n6::next7::e8::A6::c10::A8::A9::C0::C1::C2::C3::C4::C5::C6::C7::C8::C9::D0::D1::D2::D3::D4::D5::D6::D7::D8::D9::E0::E1::E2::E3::E4::E5::E6::E7::E8::E9::F0::F1::F2::F3::F4::[]) w := by
  delta octet_Take_P1
  exact Eq.mp (congrArg (fun c => cCode Tryz.prog c (retK Tryz.prog Tryz.f45.results.toList K) (fun _ _ _ => False) (retK Tryz.prog Tryz.f45.results.toList K) (b0::at1::size2::b3::at4::size5::n6::next7::e8::A6::c10::A8::A9::C0::C1::C2::C3::C4::C5::C6::C7::C8::C9::D0::D1::D2::D3::D4::D5::D6::D7::D8::D9::E0::E1::E2::E3::E4::E5::E6::E7::E8::E9::F0::F1::F2::F3::F4::[]) w) (by kernel_rfl : (cd Tryz.f45 [1, 1]) = (cd Tryz.f45 [1, 1]))) (octet_Take_P1_k h)

end
theorem octet_Take_L1_k {K : KV} (B1 : KE) (qc0 : KE) {b0 at1 size2 b3 at4 size5 n6' next7 e8 A6 A8 A9 C0 C1 C2 C3 C4 C5 C6 C7 C8 C9 D0 D1 D2 D3 D4 D5 D6 D7 D8 D9 E0 E1 E2 E3' F3 F4 : Value} {dd : Nat → Value} {w : World}
    (h : bin Tryz.prog BinOp.lss 3 false false E3' E2 (fun E4 w =>
    cond E4
      (idxA Tryz.prog 28 E1 E3' (fun E5 w =>
    ld Tryz.prog 5 E5 (fun E6 w =>
    bin Tryz.prog BinOp.shl 22 false true n6' (Value.int IntKind.u64 8) (fun E8 w =>
    conv Tryz.prog 5 22 E6 (fun F0 w =>
    bin Tryz.prog BinOp.or 22 false false E8 F0 (fun F1 w =>
    bin Tryz.prog BinOp.add 3 false true E3' (Value.int IntKind.i64 1) (fun F2 w =>
    B1 (b0::at1::size2::b3::at4::size5::F1::next7::e8::A6::E6::A8::A9::C0::C1::C2::C3::C4::C5::C6::C7::C8::C9::D0::D1::D2::D3::D4::D5::D6::D7::D8::D9::E0::E1::E2::F2::E4::E5::E6::n6'::E8::E6::F0::F1::F2::F3::F4::[]) w) w) w) w) w) w) w)
      (qc0 (b0::at1::size2::b3::at4::size5::n6'::next7::e8::A6::(dd 10)::A8::A9::C0::C1::C2::C3::C4::C5::C6::C7::C8::C9::D0::D1::D2::D3::D4::D5::D6::D7::D8::D9::E0::E1::E2::E3'::E4::(dd 38)::(dd 39)::(dd 40)::(dd 41)::(dd 42)::(dd 43)::(dd 44)::(dd 45)::F3::F4::[]) w)) w) :
    cCode Tryz.prog (cd Tryz.f45 [1, 1, 1, 0, 1, 0, 0]) B1 (fun i => @Bool.rec (fun _ => KE) ((fun _ _ _ => False) i) qc0 (Nat.beq i 1)) (retK Tryz.prog Tryz.f45.results.toList K) (b0::at1::size2::b3::at4::size5::n6'::next7::e8::A6::(dd 10)::A8::A9::C0::C1::C2::C3::C4::C5::C6::C7::C8::C9::D0::D1::D2::D3::D4::D5::D6::D7::D8::D9::E0::E1::E2::E3'::(dd 37)::(dd 38)::(dd 39)::(dd 40)::(dd 41)::(dd 42)::(dd 43)::(dd 44)::(dd 45)::F3::F4::[]) w := Eq.mp (by kernel_rfl) h

section
variable {b0 at1 size2 b3 at4 size5 n6 next7 e8 A6 c10 A8 A9 C0 C1 C2 C3 C4 C5 C6 C7 C8 C9 D0 D1 D2 D3 D4 D5 D6 D7 D8 D9 E0 E1 E2 E3 E4 E5 E6 E7 E8 E9 F0 F1 F2 F3 F4 : Value}
theorem octet_Take_L1_r {K : KV} {w : World} (Inv : Value → Value → World → Prop) (μ : Value → Value → World → Nat) (h0 : Inv n6 E3 w)
    (hs : ∀ (n6' E3' : Value) (dd : Nat → Value) (w : World) (m : Nat), Inv n6' E3' w → m = μ n6' E3' w →
    bin Tryz.prog BinOp.lss 3 false false E3' E2 (fun E4 w =>
    cond E4
      (idxA Tryz.prog 28 E1 E3' (fun E5 w =>
    ld Tryz.prog 5 E5 (fun E6 w =>
    bin Tryz.prog BinOp.shl 22 false true n6' (Value.int IntKind.u64 8) (fun E8 w =>
    conv Tryz.prog 5 22 E6 (fun F0 w =>
    bin Tryz.prog BinOp.or 22 false false E8 F0 (fun F1 w =>
    bin Tryz.prog BinOp.add 3 false true E3' (Value.int IntKind.i64 1) (fun F2 w =>
    (Inv F1 F2 w ∧ μ F1 F2 w < m)) w) w) w) w) w) w)
      ((octet_Take_P3 K) (b0::at1::size2::b3::at4::size5::n6'::next7::e8::A6::(dd 10)::A8::A9::C0::C1::C2::C3::C4::C5::C6::C7::C8::C9::D0::D1::D2::D3::D4::D5::D6::D7::D8::D9::E0::E1::E2::E3'::E4::(dd 38)::(dd 39)::(dd 40)::(dd 41)::(dd 42)::(dd 43)::(dd 44)::(dd 45)::F3::F4::[]) w)) w) :
    octet_Take_L1 K (b0::at1::size2::b3::at4::size5::n6::next7::e8::A6::c10::A8::A9::C0::C1::C2::C3::C4::C5::C6::C7::C8::C9::D0::D1::D2::D3::D4::D5::D6::D7::D8::D9::E0::E1::E2::E3::E4::E5::E6::E7::E8::E9::F0::F1::F2::F3::F4::[]) w := by
  refine loop_rule (cd Tryz.f45 [1, 1, 1, 0, 1, 0, 0]) [6, 10, 36, 37, 38, 39, 40, 41, 42, 43, 44, 45] (by kernel_rfl) (fun e2 w2 => Inv (gd e2 6) (gd e2 36) w2) (fun e2 w2 => μ (gd e2 6) (gd e2 36) w2) h0 ?_
  intro e' w' hI
  have h := hs (gd e' 6) (gd e' 36) (fun i => gd e' i) w' _ hI rfl
  have h2 : cCode Tryz.prog (cd Tryz.f45 [1, 1, 1, 0, 1, 0, 0]) (fun e2 w2 => Inv (gd e2 6) (gd e2 36) w2 ∧ μ (gd e2 6) (gd e2 36) w2 < μ (gd e' 6) (gd e' 36) w') (fun i => @Bool.rec (fun _ => KE) ((fun _ _ _ => False) i) (octet_Take_P3 K) (Nat.beq i 1)) (retK Tryz.prog Tryz.f45.results.toList K) (b0::at1::size2::b3::at4::size5::(gd e' 6)::next7::e8::A6::(gd e' 10)::A8::A9::C0::C1::C2::C3::C4::C5::C6::C7::C8::C9::D0::D1::D2::D3::D4::D5::D6::D7::D8::D9::E0::E1::E2::(gd e' 36)::(gd e' 37)::(gd e' 38)::(gd e' 39)::(gd e' 40)::(gd e' 41)::(gd e' 42)::(gd e' 43)::(gd e' 44)::(gd e' 45)::F3::F4::[]) w' := octet_Take_L1_k (fun e2 w2 => Inv (gd e2 6) (gd e2 36) w2 ∧ μ (gd e2 6) (gd e2 36) w2 < μ (gd e' 6) (gd e' 36) w') (octet_Take_P3 K) (Eq.mp (by kernel_rfl) h)
  exact Eq.mp (by kernel_rfl) h2

theorem octet_Take_P3_k {K : KV} {w : World}
    (h : K (Value.tuple #[n6, next7, (Value.int IntKind.i64 0)]) w) :
    cCode Tryz.prog (cd Tryz.f45 [1, 1, 1, 1]) (retK Tryz.prog Tryz.f45.results.toList K) (fun _ _ _ => False) (retK Tryz.prog Tryz.f45.results.toList K) (b0::at1::size2::b3::at4::size5::n6::next7::e8::A6::c10::A8::A9::C0::C1::C2::C3::C4::C5::C6::C7::C8::C9::D0::D1::D2::D3::D4::D5::D6::D7::D8::D9::E0::E1::E2::E3::E4::E5::E6::E7::E8::E9::F0::F1::F2::F3::F4::[]) w := Eq.mp (by kernel_rfl) h

theorem octet_Take_P3_r {K : KV} {w : World}
    (h : K (Value.tuple #[n6, next7, (Value.int IntKind.i64 0)]) w) :
    octet_Take_P3 K (b0::at1::size2::b3::at4::size5::n6::next7::e8::A6::c10::A8::A9::C0::C1::C2::C3::C4::C5::C6::C7::C8::C9::D0::D1::D2::D3::D4::D5::D6::D7::D8::D9::E0::E1::E2::E3::E4::E5::E6::E7::E8::E9::F0::F1::F2::F3::F4::[]) w := by
  delta octet_Take_P3
  exact Eq.mp (congrArg (fun c => cCode Tryz.prog c (retK Tryz.prog Tryz.f45.results.toList K) (fun _ _ _ => False) (retK Tryz.prog Tryz.f45.results.toList K) (b0::at1::size2::b3::at4::size5::n6::next7::e8::A6::c10::A8::A9::C0::C1::C2::C3::C4::C5::C6::C7::C8::C9::D0::D1::D2::D3::D4::D5::D6::D7::D8::D9::E0::E1::E2::E3::E4::E5::E6::E7::E8::E9::F0::F1::F2::F3::F4::[]) w) (by kernel_rfl : (cd Tryz.f45 [1, 1, 1, 1]) = (cd Tryz.f45 [1, 1, 1, 1]))) (octet_Take_P3_k h)
attribute [irreducible] octet_Take_P1 octet_Take_P2 octet_Take_A1 octet_Take_P3 octet_Take_L1

end
end Go.Proofs.YtfjafbbalohmhaaGreatDoor
/- Written by program (gen.py): what the code of some functions asks, part by part; each text is checked by the kernel against the translation. -/
namespace Go.Proofs.YtfjafbbalohmhaaGreatDoor
open Go.RowKit
set_option maxRecDepth 100000


theorem bytes_Clone_k {K : KV} {b0 : Value} {w : World}
    (h : bin Tryz.prog BinOp.eql 28 false true b0 (Value.slice none 0 0) (fun A0 w =>
    cond A0
      (K (Value.slice none 0 0) w)
      (bldS Tryz.prog 28 0 #[] (fun A1 w =>
    blt Tryz.prog Builtin.append #[28, 28] 28 #[false, false] #[A1, b0] (fun A2 w =>
    K A2 w) w) w)) w) :
    cCode Tryz.prog (cd Tryz.f110 []) (retK Tryz.prog Tryz.f110.results.toList K) (fun _ _ _ => False) (retK Tryz.prog Tryz.f110.results.toList K) [b0, undef, undef, undef, undef, undef, undef, undef] w := Eq.mp (by kernel_rfl) h

theorem bytes_Clone_in {K : KV} {b0 : Value} {w : World}
    (h : bin Tryz.prog BinOp.eql 28 false true b0 (Value.slice none 0 0) (fun A0 w =>
    cond A0
      (K (Value.slice none 0 0) w)
      (bldS Tryz.prog 28 0 #[] (fun A1 w =>
    blt Tryz.prog Builtin.append #[28, 28] 28 #[false, false] #[A1, b0] (fun A2 w =>
    K A2 w) w) w)) w) :
    Gives Tryz.prog 110 #[b0] w K := enter' Tryz.func110 (by kernel_rfl) (Eq.mp (congrArg (fun c => cCode Tryz.prog c (retK Tryz.prog Tryz.f110.results.toList K) (fun _ _ _ => False) (retK Tryz.prog Tryz.f110.results.toList K) [b0, undef, undef, undef, undef, undef, undef, undef] w) (by kernel_rfl : (cd Tryz.f110 []) = (cd Tryz.f110 []))) (bytes_Clone_k h))
theorem bytes_Clone_go : isGo Tryz.prog 110 := ⟨_, Tryz.func110, by kernel_rfl, by kernel_rfl⟩

end Go.Proofs.YtfjafbbalohmhaaGreatDoor
