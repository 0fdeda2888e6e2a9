/- The base of this seat's proofs: predicates that tell what a slice reads as, and the rules for the operations on slices. Nothing of the program is named here. -/
import Derived.Test.YtnmjfakibhekmaaGreatDoorSh
import Derived.WalkKit
import Derived.WalkSpells
import Derived.WalkLawsBesides
import Derived.KernelRfl
import Derived.Lib.Hide
namespace Go.Proofs.YtnmjfakibhekmaaGreatDoor
set_option maxRecDepth 100000
open Go.RowKit

/-- The address of place i of a row. -/
def slotA (a : Option Addr) (i : Nat) : Addr := match a with | some ⟨b, o, _⟩ => ⟨b, o + i, none⟩ | none => default

theorem slotA_some (b o i : Nat) (s : Option Nat) : slotA (some ⟨b, o, s⟩) i = ⟨b, o + i, none⟩ := rfl

/-- The slice of address a, length n, capacity c reads as the cells xs. -/
structure RV (w : World) (a : Option Addr) (n c : Nat) (xs : List Value) : Prop where
  len : xs.length = n
  cap : n ≤ c
  some_ : 0 < n → ∃ b o, a = some ⟨b, o, none⟩
  nil_ : a = none → n = 0 ∧ c = 0
  cell : ∀ i v, xs[i]? = some v → w.cell? (slotA a i) = some v

theorem RV.blk {w : World} {a : Option Addr} {n c : Nat} {xs : List Value} (h : RV w a n c xs) (i : Nat) (hi : i < n) : (slotA a i).block < w.heap.size := by
  have hl : i < xs.length := by rw [h.len]; exact hi
  exact World.block_lt_of_cell? w _ (h.cell i xs[i] (List.getElem?_eq_getElem hl))

theorem RV.below {w w' : World} {B : Nat} {a : Option Addr} {n c : Nat} {xs : List Value} (h : RV w a n c xs) (hb : Below B w w') (hB : w.heap.size ≤ B) : RV w' a n c xs :=
  ⟨h.len, h.cap, h.some_, h.nil_, fun i v hv => by
    have hlt := World.block_lt_of_cell? w _ (h.cell i v hv)
    rw [hb.cell (p := slotA a i) (Nat.lt_of_lt_of_le hlt hB)]; exact h.cell i v hv⟩

/-- A row stays what it reads as where another block was written. -/
theorem RV.grown {w w' : World} {row : Option Nat} {a : Option Addr} {n c : Nat} {xs : List Value} (h : RV w a n c xs) (hg : w.grownBy w' row) (hne : ∀ i, i < n → row ≠ some (slotA a i).block) : RV w' a n c xs :=
  ⟨h.len, h.cap, h.some_, h.nil_, fun i v hv => by
    have hl : i < n := by rw [← h.len]; exact (List.getElem?_eq_some_iff.1 hv).1
    exact hg.cell (h.cell i v hv) (fun e => hne i hl e.symm)⟩

theorem slotA_block {b o : Nat} {s : Option Nat} (i : Nat) : (slotA (some ⟨b, o, s⟩) i).block = b := rfl

theorem RV.nil (w : World) : RV w none 0 0 [] := ⟨rfl, Nat.le_refl _, fun h => absurd h (by omega), fun _ => ⟨rfl, rfl⟩, fun i v h => by simp at h⟩

theorem slotA_add {a : Option Addr} {i : Nat} (h : a ≠ none) : ∃ ad, a = some ad ∧ ∀ j, slotA a j = ⟨ad.block, ad.off + j, none⟩ := by
  cases a with
  | none => exact absurd rfl h
  | some ad => exact ⟨ad, rfl, fun j => rfl⟩

/-- A cut of a row. -/
theorem RV.cut {w : World} {a : Option Addr} {n c : Nat} {xs : List Value} (h : RV w a n c xs) (l k m : Nat) (hlk : l ≤ k) (hkm : k ≤ m) (hkn : k ≤ n) (hm : m ≤ c) :
    RV w (if m = l then a else a.map (·.add (l * 1))) (k - l) (m - l) ((xs.take k).drop l) := by
  refine ⟨by simp [h.len]; omega, by omega, ?_, ?_, ?_⟩
  · intro hp
    obtain ⟨b, o, rfl⟩ := h.some_ (by omega)
    by_cases hml : m = l
    · omega
    · rw [if_neg hml]
      exact ⟨b, o + l, by simp [Addr.add]⟩
  · intro hn
    by_cases hml : m = l
    · omega
    · rw [if_neg hml] at hn
      cases a with
      | none => have := h.nil_ rfl; omega
      | some ad => simp at hn
  · intro i v hv
    have hi : i < k - l := by
      have := (List.getElem?_eq_some_iff.1 hv).1
      simp [h.len] at this
      omega
    obtain ⟨b, o, rfl⟩ := h.some_ (by omega)
    rw [if_neg (by omega)]
    have he : ((⟨b, o, none⟩ : Addr).add (l * 1)) = ⟨b, o + l, none⟩ := by unfold Addr.add; split <;> simp_all
    simp only [Option.map_some, he, slotA_some]
    have := h.cell (l + i) v (by rw [← hv, List.getElem?_drop, List.getElem?_take]; rw [if_pos (by omega)])
    rw [slotA_some] at this
    rw [Nat.add_assoc]; exact this

/-- Byte c as a cell. -/
def u8v (c : UInt8) : Value := .int .u8 (c.toNat : Int)

/-- .. reads as the bytes l. -/
def RB (w : World) (a : Option Addr) (n c : Nat) (l : List UInt8) : Prop := RV w a n c (l.map u8v)

theorem RB.rv {w : World} {a : Option Addr} {n c : Nat} {l : List UInt8} (h : RB w a n c l) : RV w a n c (l.map u8v) := h
theorem RB.len {w : World} {a : Option Addr} {n c : Nat} {l : List UInt8} (h : RB w a n c l) : l.length = n := by simpa using RV.len h
theorem RB.below {w w' : World} {B : Nat} {a : Option Addr} {n c : Nat} {l : List UInt8} (h : RB w a n c l) (hb : Below B w w') (hB : w.heap.size ≤ B) : RB w' a n c l := RV.below h hb hB
theorem RB.cut {w : World} {a : Option Addr} {n c : Nat} {xs : List UInt8} (h : RB w a n c xs) (l k m : Nat) (hlk : l ≤ k) (hkm : k ≤ m) (hkn : k ≤ n) (hm : m ≤ c) :
    RB w (if m = l then a else a.map (·.add (l * 1))) (k - l) (m - l) ((xs.take k).drop l) := by
  have := RV.cut h l k m hlk hkm hkn hm
  simpa [RB, List.map_drop, List.map_take] using this
theorem RB.cell {w : World} {a : Option Addr} {n c : Nat} {l : List UInt8} (h : RB w a n c l) (i : Nat) (hi : i < l.length) : w.cell? (slotA a i) = some (.int .u8 (l[i].toNat : Int)) :=
  RV.cell h i _ (by simp [List.getElem?_eq_getElem hi, u8v])

/-- A block of the call's own, from block number B on, whose first n cells (of elements of type E, one cell each) are xs. -/
def OV (w : World) (B : Nat) (E : TypeId) (a : Option Addr) (n c : Nat) (xs : List Value) : Prop := w.ownsRow B E 1 (.slice a n c) n xs

theorem OV.rv {w : World} {B : Nat} {E : TypeId} {a : Option Addr} {n c : Nat} {xs : List Value} (h : OV w B E a n c xs) : RV w a n c xs := by
  have hl : xs.length = n := by simpa using h.1
  rcases h.2 with ⟨hv, hn⟩ | ⟨g, cap, cur, hv, hB, hh, hnc, hm, hs, ht⟩
  · simp only [Value.slice.injEq] at hv
    obtain ⟨rfl, _, rfl⟩ := hv
    subst hn
    have : xs = [] := List.eq_nil_of_length_eq_zero hl
    subst this
    exact RV.nil w
  · simp only [Value.slice.injEq] at hv
    obtain ⟨rfl, _, rfl⟩ := hv
    refine ⟨hl, hnc, fun _ => ⟨g, 0, rfl⟩, fun e => by simp at e, fun i v hi => ?_⟩
    have hlt : i < xs.length := (List.getElem?_eq_some_iff.1 hi).1
    rw [slotA_some, Nat.zero_add, cell_of_row w g i cur E (0, 0) hh]
    rw [← ht] at hi
    rw [List.getElem?_take] at hi
    split at hi
    · simpa using hi
    · cases hi

theorem OV.block {w : World} {B : Nat} {E : TypeId} {a : Option Addr} {n c : Nat} {xs : List Value} (h : OV w B E a n c xs) : ∀ k, (Value.slice a n c).ownBlock = some k → B ≤ k ∧ k < w.heap.size := World.ownsRow.lt h

theorem OV.nil (w : World) (B : Nat) (E : TypeId) : OV w B E none 0 0 [] := World.ownsRow_nil w B E 1

theorem OV.mono {w : World} {B B' : Nat} {E : TypeId} {a : Option Addr} {n c : Nat} {xs : List Value} (h : OV w B E a n c xs) (hB : B' ≤ B) : OV w B' E a n c xs := by
  refine ⟨h.1, ?_⟩
  rcases h.2 with h2 | ⟨g, cap, cur, hv, hb, r⟩
  · exact .inl h2
  · exact .inr ⟨g, cap, cur, hv, Nat.le_trans hB hb, r⟩

theorem OV.below {w w' : World} {B D : Nat} {E : TypeId} {a : Option Addr} {n c : Nat} {xs : List Value} (h : OV w B E a n c xs) (hb : Below D w w') (hD : w.heap.size ≤ D) : OV w' B E a n c xs := by
  refine ⟨h.1, ?_⟩
  rcases h.2 with h2 | ⟨g, cap, cur, hv, hB, hh, r⟩
  · exact .inl h2
  · have hlt : g < w.heap.size := (Array.getElem?_eq_some_iff.1 hh).1
    exact .inr ⟨g, cap, cur, hv, hB, (hb.block g (by omega)).trans hh, r⟩

theorem below_of_grown {w w' : World} {B : Nat} {row : Option Nat} (hg : w.grownBy w' row) (hB : B ≤ w.heap.size) (hr : ∀ k, row = some k → B ≤ k) : Below B w w' :=
  (Below.refl B w).grown hg hB hr

section
variable {P : Program} (w : World)

/-- append of whatever reads as ys to a row of the call's own. -/
theorem run_append_ov (base : Nat) (t ty e : TypeId) (i : TypeInfo) (z : Value) (bytes : Nat) (ht : P.underlying t = some (.slice e)) (hi : P.info? e = some i) (hz : i.zero = some z)
    (hsize : i.size = 1) (hby : i.bytes = bytes) (hzs : z.cells.size = 1)
    {a : Option Addr} {n c : Nat} {xs : List Value} (hown : OV w base e a n c xs) {a2 : Option Addr} {m c2 : Nat} {ys : List Value} (hy : RV w a2 m c2 ys) (h1 : ∀ u ∈ ys, u.oneCell' = true)
    (hbytes : (n + m) * bytes ≤ 140737488355328) (h63 : n + m ≤ 9223372036854775807) (hbase : base ≤ w.heap.size) :
    ∃ a' c' w', (Builtin.append_ #[t, t] ty #[.slice a n c, .slice a2 m c2]).run P w = .ok (.slice a' (n + m) c') w' ∧ OV w' base e a' (n + m) c' (xs ++ ys) ∧ w.grownBy w' (Value.slice a n c).ownBlock := by
  have fin : ∀ (v' : Value) (w' : World), w'.ownsRow base e 1 v' (n + m) (xs ++ ys) → ∃ a' c', v' = .slice a' (n + m) c' := by
    intro v' w' h
    rcases h.2 with ⟨hv, hn⟩ | ⟨g, cap, cur, hv, _⟩
    · exact ⟨none, 0, by rw [hv, hn]⟩
    · exact ⟨_, cap, hv⟩
  cases a2 with
  | some ad =>
    have hn : ∀ j u, ys[j]? = some u → w.cell? (ad.add j) = some u := by
      intro j u hj
      have hlt : j < m := by rw [← hy.len]; exact (List.getElem?_eq_some_iff.1 hj).1
      obtain ⟨b, o, hbo⟩ := hy.some_ (by omega)
      have hc := hy.cell j u hj
      cases hbo
      rw [slotA_some] at hc
      have he : ((⟨b, o, none⟩ : Addr).add j) = ⟨b, o + j, none⟩ := by unfold Addr.add; split <;> simp_all
      rw [he]; exact hc
    obtain ⟨v', w', hr, h2, h3, _⟩ := run_append_own (P := P) w base t ty e i z 1 bytes ht hi hz hsize hby hzs (by omega) _ n xs hown ad m c2 ys (by simp [hy.len]) hn h1 (by simp only [maxLen]; omega) hbytes hbase
    obtain ⟨a', c', rfl⟩ := fin _ _ h2
    exact ⟨a', c', w', hr, h2, h3⟩
  | none =>
    obtain ⟨rfl, rfl⟩ := hy.nil_ rfl
    have : ys = [] := List.eq_nil_of_length_eq_zero hy.len
    subst this
    refine ⟨a, c, w, run_append_owned_none (P := P) w base t ty e i 1 ht hi _ n xs hown, by simpa using hown, World.grownBy.refl _ _⟩

variable {ops : Array Oper} {rest : List Oper} {a : Act} {Q : Exit → Act → World → Prop} {dst : Option Tmp} {ty : TypeId} {pos : String} {after : Array Edge}

theorem at_append (s x : Operand) (t : TypeId) (base : Nat) (e : TypeId) (i : TypeInfo) (z : Value) (bytes : Nat) (ht : P.underlying t = some (.slice e)) (hi : P.info? e = some i) (hz : i.zero = some z)
    (hsize : i.size = 1) (hby : i.bytes = bytes) (hzs : z.cells.size = 1)
    {av : Option Addr} {n c : Nat} {xs : List Value} (hs : a.eval s = .slice av n c) {a2 : Option Addr} {m c2 : Nat} {ys : List Value} (hx : a.eval x = .slice a2 m c2)
    (hown : OV w base e av n c xs) (hy : RV w a2 m c2 ys) (h1 : ∀ u ∈ ys, u.oneCell' = true)
    (hbytes : (n + m) * bytes ≤ 140737488355328) (h63 : n + m ≤ 9223372036854775807) (hbase : base ≤ w.heap.size)
    (h : ∀ a' c' w', OV w' base e a' (n + m) c' (xs ++ ys) → w.grownBy w' (Value.slice av n c).ownBlock → wpList P ops Q rest (a.put dst (.slice a' (n + m) c')) w') :
    wpList P ops Q (⟨dst, .call { callee := .builtin .append, args := #[s, x], argTypes := #[t, t] }, ty, pos, after, none⟩ :: rest) a w := by
  obtain ⟨a', c', w', hr, h2, h3⟩ := run_append_ov (P := P) w base t ty e i z bytes ht hi hz hsize hby hzs hown hy h1 hbytes h63 hbase
  refine wpList_plain rfl fun K hK => ?_
  unfold Oper.wp execOp
  simp only [resolve, invoke, builtin, Sem.run_bind, Sem.run_pure, Result.andThen_ok, List.map_toArray, List.map_cons, List.map_nil, hs, hx, hr]
  exact hK _ _ (h a' c' w' h2 h3)

theorem at_index (t e : TypeId) (x ix : Operand) (ht : P.underlying t = some (.slice e)) (hs : ∀ w, (sizeOf e).run P w = .ok 1 w) {av : Option Addr} {n c : Nat} {k : IntKind} {iv : Int}
    (hx : a.eval x = .slice av n c) (hi : a.eval ix = .int k iv) (h0 : 0 ≤ iv) (h1 : iv < n) (hsome : 0 < n → ∃ b o, av = some ⟨b, o, none⟩)
    (h : wpList P ops Q rest (a.put dst (.pointer (some (slotA av iv.toNat)))) w) :
    wpList P ops Q (⟨dst, .indexAddr t x ix, ty, pos, after, none⟩ :: rest) a w := by
  obtain ⟨b, o, rfl⟩ := hsome (by omega)
  refine wpList_plain rfl fun K hK => ?_
  unfold Oper.wp execOp
  have he : ((⟨b, o, none⟩ : Addr).add iv.toNat) = ⟨b, o + iv.toNat, none⟩ := by unfold Addr.add; split <;> simp_all
  simp only [hx, hi, Instr.indexAt, asIntOf, Sem.run_bind, Sem.run_pure, Result.andThen_ok, run_underlying ht, hs, h0, h1, and_self, if_true, Nat.mul_one, he]
  exact hK _ _ h

/-- A cell is loaded. -/
theorem at_load (t : TypeId) (p : Operand) (ht : ∀ w' (ad : Addr) v, w'.cell? ad = some v → (loadVar t ad).run P w' = .ok v w') {ad : Addr} {v : Value}
    (hp : a.eval p = .pointer (some ad)) (hc : w.cell? ad = some v) (h : wpList P ops Q rest (a.put dst v) w) :
    wpList P ops Q (⟨dst, .load t p, ty, pos, after, none⟩ :: rest) a w := by
  refine wpList_plain rfl fun K hK => ?_
  unfold Oper.wp execOp
  simp only [hp, Instr.loadAt, Instr.sureAddr, Sem.run_bind, Sem.run_pure, Result.andThen_ok, ht w ad v hc]
  exact hK _ _ h

/-- 'x[lo:hi]' of a slice; where there is no bound its place holds none. -/
theorem at_slice (t e : TypeId) (x : Operand) (lo hi : Option Operand) (ht : P.underlying t = some (.slice e)) (hs : ∀ w, (sizeOf e).run P w = .ok 1 w) {av : Option Addr} {n c : Nat} {l h : Nat} {xs : List Value}
    (hx : a.eval x = .slice av n c) (hr : RV w av n c xs)
    (hlo : (lo = none ∧ l = 0) ∨ ∃ o k, lo = some o ∧ a.eval o = .int k (l : Int)) (hhi : (hi = none ∧ h = n) ∨ ∃ o k, hi = some o ∧ a.eval o = .int k (h : Int)) (hlh : l ≤ h) (hhn : h ≤ n)
    (hk : ∀ a', RV w a' (h - l) (c - l) ((xs.take h).drop l) → wpList P ops Q rest (a.put dst (.slice a' (h - l) (c - l))) w) :
    wpList P ops Q (⟨dst, .slice t x lo hi none, ty, pos, after, none⟩ :: rest) a w := by
  refine wpList_plain rfl fun K hK => ?_
  have hnc := hr.cap
  have hb : (Instr.sliceBounds true n c (lo.map a.eval) (hi.map a.eval) none).run P w = .ok (l, h, c) w := by
    have e1 : (Instr.sliceBounds true n c (lo.map a.eval) (hi.map a.eval) none) = (Instr.sliceBounds true n c (lo.map a.eval) (hi.map a.eval) none) := rfl
    have sb : ∀ (k : IntKind) (i y : Nat) (code : BoundsCode), i ≤ y → (Instr.sliceBound (.int k (i : Int)) y code).run P w = .ok i w := by
      intro k i y code hi
      have := run_sliceBound (P := P) w k (i : Int) y code (by omega) (by omega)
      simpa using this
    rcases hlo with ⟨rfl, rfl⟩ | ⟨ol, kl, rfl, hl⟩ <;> rcases hhi with ⟨rfl, rfl⟩ | ⟨oh, kh, rfl, hh⟩
    · simp [Instr.sliceBounds]
    · simp [Instr.sliceBounds, hh, sb kh h c _ (by omega)]
    · simp [Instr.sliceBounds, hl, sb kl l h _ hlh]
    · simp [Instr.sliceBounds, hl, hh, sb kh h c _ (by omega), sb kl l h _ hlh]
  unfold Oper.wp execOp
  simp only [hx, Instr.sliceAt, Instr.slice, Sem.run_bind, Sem.run_pure, Result.andThen_ok, run_underlying ht, hs, Option.map_none, hb]
  exact hK _ _ (hk _ (hr.cut l h c hlh (by omega) hhn (Nat.le_refl _)))

/-- A slice of one new element. -/
theorem run_build1 (t e : TypeId) (i : TypeInfo) (z : Value) (ht : P.underlying t = some (.slice e)) (hi : P.info? e = some i) (hz : i.zero = some z) (hsize : i.size = 1) (hzs : z.cells.size = 1)
    (v : Value) (hv : v.cells = #[v]) :
    (Instr.buildSlice t 1 #[(0, v)]).run P w = .ok (.slice (some ⟨w.heap.size, 0, none⟩) 1 1) (w.alloc (.cells #[v] e)) := by
  obtain ⟨z0, hz0⟩ : ∃ z0, z.cells = #[z0] := by
    match hc : z.cells, hzs with
    | ⟨[z0]⟩, _ => exact ⟨z0, rfl⟩
  have hr : (Array.range 1).map (fun k => z.cells[k % z.cells.size]!) = #[z0] := by
    rw [hz0]
    apply Array.ext
    · simp
    · intro j h1 h2
      have : j = 0 := by simpa using h2
      subst this
      simp
  simp [Instr.buildSlice, Instr.fill, run_underlying ht, sizeOf, typeInfo, hi, hsize, zeroValue, hz, hv, newRow, hr]

theorem at_build1 (t e : TypeId) (x : Operand) (i : TypeInfo) (z : Value) (ht : P.underlying t = some (.slice e)) (hi : P.info? e = some i) (hz : i.zero = some z) (hsize : i.size = 1) (hzs : z.cells.size = 1)
    {v : Value} (hx : a.eval x = v) (hv : v.cells = #[v])
    (hk : RV (w.alloc (.cells #[v] e)) (some ⟨w.heap.size, 0, none⟩) 1 1 [v] → wpList P ops Q rest (a.put dst (.slice (some ⟨w.heap.size, 0, none⟩) 1 1)) (w.alloc (.cells #[v] e))) :
    wpList P ops Q (⟨dst, .buildSlice t 1 #[(0, x)], ty, pos, after, none⟩ :: rest) a w := by
  refine wpList_plain rfl fun K hK => ?_
  unfold Oper.wp execOp
  have hm : (#[(0, x)] : Array (Nat × Operand)).map (fun (i, x) => (i, a.eval x)) = #[(0, v)] := by simp [hx]
  simp only [hm, Sem.run_bind, Sem.run_pure, Result.andThen_ok, run_build1 w t e i z ht hi hz hsize hzs v hv]
  refine hK _ _ (hk ⟨rfl, Nat.le_refl _, fun _ => ⟨_, _, rfl⟩, (fun h => by simp at h), fun j u hu => ?_⟩)
  have : j = 0 := by
    have := (List.getElem?_eq_some_iff.1 hu).1
    simpa using this
  subst this
  simp at hu
  subst hu
  rw [slotA_some, World.cell?_alloc_at _ _ _ _ rfl]; rfl

end


theorem bstr_inj {l m : List UInt8} : bstr l = bstr m ↔ l = m := by
  constructor
  · intro h
    have := congrArg (fun s => s.data.toList) h
    simpa [bstr] using this
  · intro h; rw [h]

theorem bstr_toList (l : List UInt8) : (bstr l).toList = l := by
  simp [bstr]

@[go_sem ↓] theorem binOp_bstr_eql (t : TypeId) (l m : List UInt8) : binOp .eql t (.string (bstr l)) (.string (bstr m)) = pure (.bool (l == m)) := by
  rw [binOp_string_eql, bstr_toList, bstr_toList]
@[go_sem ↓] theorem binOp_bstr_neq (t : TypeId) (l m : List UInt8) : binOp .neq t (.string (bstr l)) (.string (bstr m)) = pure (.bool (!(l == m))) := by
  rw [binOp_string_neq, bstr_toList, bstr_toList]
@[go_sem ↓] theorem binOp_bstr_lss (t : TypeId) (l m : List UInt8) : binOp .lss t (.string (bstr l)) (.string (bstr m)) = pure (.bool (Op.bytesLess l m)) := by
  rw [binOp_string_lss, bstr_toList, bstr_toList]

section
variable {P : Program} (w : World)
variable {ops : Array Oper} {rest : List Oper} {a : Act} {Q : Exit → Act → World → Prop} {dst : Option Tmp} {ty : TypeId} {pos : String} {after : Array Edge}

theorem strOfNums_u8 (l : List UInt8) : strOfNums (l.map fun c => (c.toNat : Int)) = bstr l := by
  simp only [strOfNums, bstr, List.map_map]
  congr 1
  have : ((fun n : Int => UInt8.ofNat n.toNat) ∘ fun c : UInt8 => (c.toNat : Int)) = id := by
    funext c; simp
  rw [this]; simp

theorem run_bytes_str (src e dst : TypeId) (hs : P.underlying src = some (.slice e)) (he : P.underlying e = some (.int .u8)) (hd : P.underlying dst = some .string) {av : Option Addr} {n c : Nat} {l : List UInt8} (h : RB w av n c l) :
    (convert src dst (.slice av n c)).run P w = .ok (.string (bstr l)) w := by
  cases av with
  | none =>
    obtain ⟨rfl, rfl⟩ := RV.nil_ h rfl
    have : l = [] := List.eq_nil_of_length_eq_zero h.len
    subst this
    rw [run_convert_bytes_nil (P := P) w src e hs he 0 0 dst hd]
    rfl
  | some ad =>
    rw [run_convert_bytes_string w src dst e _ n c hs he hd]
    by_cases h0 : n = 0
    · subst h0
      have : l = [] := List.eq_nil_of_length_eq_zero h.len
      subst this
      have hl : (loadCells ad 0).run P w = .ok (([] : List Int).map (Value.int .u8)).toArray w := by simp [loadCells, loadCellsFrom]
      rw [run_bytesToString w _ 0 c [] hl]
      rfl
    · obtain ⟨b, o, hbo⟩ := RV.some_ h (by omega)
      cases hbo
      rw [← run_convert_bytes_string w src dst e _ n c hs he hd]
      rw [run_convert_bytes_arg w src e hs he b o n c (l.map fun c => (c.toNat : Int)) (by simpa using h.len) ?_ dst hd]
      · rw [strOfNums_u8]
      · intro i hi
        have hl : i < l.length := by rw [h.len]; exact hi
        have := h.cell i hl
        rw [slotA_some] at this
        rw [this]
        simp [List.getD, hl]

theorem at_str (src e dt : TypeId) (x : Operand) (hs : P.underlying src = some (.slice e)) (he : P.underlying e = some (.int .u8)) (hd : P.underlying dt = some .string) {av : Option Addr} {n c : Nat} {l : List UInt8}
    (hx : a.eval x = .slice av n c) (hr : RB w av n c l) (h : wpList P ops Q rest (a.put dst (.string (bstr l))) w) :
    wpList P ops Q (⟨dst, .convert src dt x, ty, pos, after, none⟩ :: rest) a w := by
  refine wpList_plain rfl fun K hK => ?_
  unfold Oper.wp execOp
  simp only [hx, Sem.run_bind, Sem.run_pure, Result.andThen_ok, run_bytes_str w src e dt hs he hd hr]
  exact hK _ _ h

end
end Go.Proofs.YtnmjfakibhekmaaGreatDoor
