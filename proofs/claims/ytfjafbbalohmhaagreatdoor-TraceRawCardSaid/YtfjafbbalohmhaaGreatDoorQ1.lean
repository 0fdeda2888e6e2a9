/- Laid together: Base Rules Mem Own SOct SClone Types Clone Oct. -/
import Derived.Test.YtfjafbbalohmhaaGreatDoorSh
import Derived.WalkKit
import Derived.WalkSpells
import Derived.WalkLawsBesides
import Derived.KernelRfl
import Derived.Lib.Hide
import Derived.Lib.SlBytesConst
import Derived.Deep.MidRow
import Derived.Great.BuildSlice
import Derived.Maps.AppendAt
import Derived.Test.YtfjafbbalohmhaaGreatDoorChecked
namespace Go.Proofs.YtfjafbbalohmhaaGreatDoor
set_option maxRecDepth 100000
open Go.RowKit

def slotA (a : Option Addr) (i : Nat) : Addr := match a with | some ⟨b, o, _⟩ => ⟨b, o + i, none⟩ | none => default

theorem slotA_some (b o i : Nat) (s : Option Nat) : slotA (some ⟨b, o, s⟩) i = ⟨b, o + i, none⟩ := rfl

structure RV (w : World) (a : Option Addr) (n c : Nat) (xs : List Value) : Prop where
  len : xs.length = n
  cap : n ≤ c
  some_ : 0 < n → ∃ b o, a = some ⟨b, o, none⟩
  nil_ : a = none → n = 0 ∧ c = 0
  cell : ∀ i v, xs[i]? = some v → w.cell? (slotA a i) = some v

theorem RV.blk {w : World} {a : Option Addr} {n c : Nat} {xs : List Value} (h : RV w a n c xs) (i : Nat) (hi : i < n) : (slotA a i).block < w.heap.size := by
  have hl : i < xs.length := by rw [h.len]; exact hi
  exact World.block_lt_of_cell? w _ (h.cell i xs[i] (List.getElem?_eq_getElem hl))

theorem RV.below {w w' : World} {B : Nat} {a : Option Addr} {n c : Nat} {xs : List Value} (h : RV w a n c xs) (hb : Below B w w') (hB : w.heap.size ≤ B) : RV w' a n c xs :=
  ⟨h.len, h.cap, h.some_, h.nil_, fun i v hv => by
    have hlt := World.block_lt_of_cell? w _ (h.cell i v hv)
    rw [hb.cell (p := slotA a i) (Nat.lt_of_lt_of_le hlt hB)]; exact h.cell i v hv⟩

theorem RV.grown {w w' : World} {row : Option Nat} {a : Option Addr} {n c : Nat} {xs : List Value} (h : RV w a n c xs) (hg : w.grownBy w' row) (hne : ∀ i, i < n → row ≠ some (slotA a i).block) : RV w' a n c xs :=
  ⟨h.len, h.cap, h.some_, h.nil_, fun i v hv => by
    have hl : i < n := by rw [← h.len]; exact (List.getElem?_eq_some_iff.1 hv).1
    exact hg.cell (h.cell i v hv) (fun e => hne i hl e.symm)⟩

theorem RV.nil (w : World) : RV w none 0 0 [] := ⟨rfl, Nat.le_refl _, fun h => absurd h (by omega), fun _ => ⟨rfl, rfl⟩, fun i v h => by simp at h⟩

theorem RV.cut {w : World} {a : Option Addr} {n c : Nat} {xs : List Value} (h : RV w a n c xs) (l k m : Nat) (hlk : l ≤ k) (hkm : k ≤ m) (hkn : k ≤ n) (hm : m ≤ c) :
    RV w (if m = l then a else a.map (·.add (l * 1))) (k - l) (m - l) ((xs.take k).drop l) := by
  refine ⟨by simp [h.len]; omega, by omega, ?_, ?_, ?_⟩
  · intro hp
    obtain ⟨b, o, rfl⟩ := h.some_ (by omega)
    by_cases hml : m = l
    · omega
    · rw [if_neg hml]
      exact ⟨b, o + l, by simp [Addr.add]⟩
  · intro hn
    by_cases hml : m = l
    · omega
    · rw [if_neg hml] at hn
      cases a with
      | none => have := h.nil_ rfl; omega
      | some ad => simp at hn
  · intro i v hv
    have hi : i < k - l := by
      have := (List.getElem?_eq_some_iff.1 hv).1
      simp [h.len] at this
      omega
    obtain ⟨b, o, rfl⟩ := h.some_ (by omega)
    rw [if_neg (by omega)]
    have he : ((⟨b, o, none⟩ : Addr).add (l * 1)) = ⟨b, o + l, none⟩ := by unfold Addr.add; split <;> simp_all
    simp only [Option.map_some, he, slotA_some]
    have := h.cell (l + i) v (by rw [← hv, List.getElem?_drop, List.getElem?_take]; rw [if_pos (by omega)])
    rw [slotA_some] at this
    rw [Nat.add_assoc]; exact this

def u8v (c : UInt8) : Value := .int .u8 (c.toNat : Int)

def RB (w : World) (a : Option Addr) (n c : Nat) (l : List UInt8) : Prop := RV w a n c (l.map u8v)

theorem RB.rv {w : World} {a : Option Addr} {n c : Nat} {l : List UInt8} (h : RB w a n c l) : RV w a n c (l.map u8v) := h
theorem RB.len {w : World} {a : Option Addr} {n c : Nat} {l : List UInt8} (h : RB w a n c l) : l.length = n := by simpa using RV.len h
theorem RB.below {w w' : World} {B : Nat} {a : Option Addr} {n c : Nat} {l : List UInt8} (h : RB w a n c l) (hb : Below B w w') (hB : w.heap.size ≤ B) : RB w' a n c l := RV.below h hb hB
theorem RB.cut {w : World} {a : Option Addr} {n c : Nat} {xs : List UInt8} (h : RB w a n c xs) (l k m : Nat) (hlk : l ≤ k) (hkm : k ≤ m) (hkn : k ≤ n) (hm : m ≤ c) :
    RB w (if m = l then a else a.map (·.add (l * 1))) (k - l) (m - l) ((xs.take k).drop l) := by
  have := RV.cut h l k m hlk hkm hkn hm
  simpa [RB, List.map_drop, List.map_take] using this
theorem RB.cell {w : World} {a : Option Addr} {n c : Nat} {l : List UInt8} (h : RB w a n c l) (i : Nat) (hi : i < l.length) : w.cell? (slotA a i) = some (.int .u8 (l[i].toNat : Int)) :=
  RV.cell h i _ (by simp [List.getElem?_eq_getElem hi, u8v])

def OV (w : World) (B : Nat) (E : TypeId) (a : Option Addr) (n c : Nat) (xs : List Value) : Prop := w.ownsRow B E 1 (.slice a n c) n xs

theorem OV.rv {w : World} {B : Nat} {E : TypeId} {a : Option Addr} {n c : Nat} {xs : List Value} (h : OV w B E a n c xs) : RV w a n c xs := by
  have hl : xs.length = n := by simpa using h.1
  rcases h.2 with ⟨hv, hn⟩ | ⟨g, cap, cur, hv, hB, hh, hnc, hm, hs, ht⟩
  · simp only [Value.slice.injEq] at hv
    obtain ⟨rfl, _, rfl⟩ := hv
    subst hn
    have : xs = [] := List.eq_nil_of_length_eq_zero hl
    subst this
    exact RV.nil w
  · simp only [Value.slice.injEq] at hv
    obtain ⟨rfl, _, rfl⟩ := hv
    refine ⟨hl, hnc, fun _ => ⟨g, 0, rfl⟩, fun e => by simp at e, fun i v hi => ?_⟩
    have hlt : i < xs.length := (List.getElem?_eq_some_iff.1 hi).1
    rw [slotA_some, Nat.zero_add, cell_of_row w g i cur E (0, 0) hh]
    rw [← ht] at hi
    rw [List.getElem?_take] at hi
    split at hi
    · simpa using hi
    · cases hi

theorem OV.block {w : World} {B : Nat} {E : TypeId} {a : Option Addr} {n c : Nat} {xs : List Value} (h : OV w B E a n c xs) : ∀ k, (Value.slice a n c).ownBlock = some k → B ≤ k ∧ k < w.heap.size := World.ownsRow.lt h

theorem OV.nil (w : World) (B : Nat) (E : TypeId) : OV w B E none 0 0 [] := World.ownsRow_nil w B E 1

theorem OV.mono {w : World} {B B' : Nat} {E : TypeId} {a : Option Addr} {n c : Nat} {xs : List Value} (h : OV w B E a n c xs) (hB : B' ≤ B) : OV w B' E a n c xs := by
  refine ⟨h.1, ?_⟩
  rcases h.2 with h2 | ⟨g, cap, cur, hv, hb, r⟩
  · exact .inl h2
  · exact .inr ⟨g, cap, cur, hv, Nat.le_trans hB hb, r⟩

theorem OV.below {w w' : World} {B D : Nat} {E : TypeId} {a : Option Addr} {n c : Nat} {xs : List Value} (h : OV w B E a n c xs) (hb : Below D w w') (hD : w.heap.size ≤ D) : OV w' B E a n c xs := by
  refine ⟨h.1, ?_⟩
  rcases h.2 with h2 | ⟨g, cap, cur, hv, hB, hh, r⟩
  · exact .inl h2
  · have hlt : g < w.heap.size := (Array.getElem?_eq_some_iff.1 hh).1
    exact .inr ⟨g, cap, cur, hv, hB, (hb.block g (by omega)).trans hh, r⟩

theorem below_of_grown {w w' : World} {B : Nat} {row : Option Nat} (hg : w.grownBy w' row) (hB : B ≤ w.heap.size) (hr : ∀ k, row = some k → B ≤ k) : Below B w w' :=
  (Below.refl B w).grown hg hB hr

section
variable {P : Program} (w : World)

theorem run_append_ov (base : Nat) (t ty e : TypeId) (i : TypeInfo) (z : Value) (bytes : Nat) (ht : P.underlying t = some (.slice e)) (hi : P.info? e = some i) (hz : i.zero = some z)
    (hsize : i.size = 1) (hby : i.bytes = bytes) (hzs : z.cells.size = 1)
    {a : Option Addr} {n c : Nat} {xs : List Value} (hown : OV w base e a n c xs) {a2 : Option Addr} {m c2 : Nat} {ys : List Value} (hy : RV w a2 m c2 ys) (h1 : ∀ u ∈ ys, u.oneCell' = true)
    (hbytes : (n + m) * bytes ≤ 140737488355328) (h63 : n + m ≤ 9223372036854775807) (hbase : base ≤ w.heap.size) :
    ∃ a' c' w', (Builtin.append_ #[t, t] ty #[.slice a n c, .slice a2 m c2]).run P w = .ok (.slice a' (n + m) c') w' ∧ OV w' base e a' (n + m) c' (xs ++ ys) ∧ w.grownBy w' (Value.slice a n c).ownBlock := by
  have fin : ∀ (v' : Value) (w' : World), w'.ownsRow base e 1 v' (n + m) (xs ++ ys) → ∃ a' c', v' = .slice a' (n + m) c' := by
    intro v' w' h
    rcases h.2 with ⟨hv, hn⟩ | ⟨g, cap, cur, hv, _⟩
    · exact ⟨none, 0, by rw [hv, hn]⟩
    · exact ⟨_, cap, hv⟩
  cases a2 with
  | some ad =>
    have hn : ∀ j u, ys[j]? = some u → w.cell? (ad.add j) = some u := by
      intro j u hj
      have hlt : j < m := by rw [← hy.len]; exact (List.getElem?_eq_some_iff.1 hj).1
      obtain ⟨b, o, hbo⟩ := hy.some_ (by omega)
      have hc := hy.cell j u hj
      cases hbo
      rw [slotA_some] at hc
      have he : ((⟨b, o, none⟩ : Addr).add j) = ⟨b, o + j, none⟩ := by unfold Addr.add; split <;> simp_all
      rw [he]; exact hc
    obtain ⟨v', w', hr, h2, h3, _⟩ := run_append_own (P := P) w base t ty e i z 1 bytes ht hi hz hsize hby hzs (by omega) _ n xs hown ad m c2 ys (by simp [hy.len]) hn h1 (by simp only [maxLen]; omega) hbytes hbase
    obtain ⟨a', c', rfl⟩ := fin _ _ h2
    exact ⟨a', c', w', hr, h2, h3⟩
  | none =>
    obtain ⟨rfl, rfl⟩ := hy.nil_ rfl
    have : ys = [] := List.eq_nil_of_length_eq_zero hy.len
    subst this
    refine ⟨a, c, w, run_append_owned_none (P := P) w base t ty e i 1 ht hi _ n xs hown, by simpa using hown, World.grownBy.refl _ _⟩

variable {ops : Array Oper} {rest : List Oper} {a : Act} {Q : Exit → Act → World → Prop} {dst : Option Tmp} {ty : TypeId} {pos : String} {after : Array Edge}

theorem run_build1 (t e : TypeId) (i : TypeInfo) (z : Value) (ht : P.underlying t = some (.slice e)) (hi : P.info? e = some i) (hz : i.zero = some z) (hsize : i.size = 1) (hzs : z.cells.size = 1)
    (v : Value) (hv : v.cells = #[v]) :
    (Instr.buildSlice t 1 #[(0, v)]).run P w = .ok (.slice (some ⟨w.heap.size, 0, none⟩) 1 1) (w.alloc (.cells #[v] e)) := by
  obtain ⟨z0, hz0⟩ : ∃ z0, z.cells = #[z0] := by
    match hc : z.cells, hzs with
    | ⟨[z0]⟩, _ => exact ⟨z0, rfl⟩
  have hr : (Array.range 1).map (fun k => z.cells[k % z.cells.size]!) = #[z0] := by
    rw [hz0]
    apply Array.ext
    · simp
    · intro j h1 h2
      have : j = 0 := by simpa using h2
      subst this
      simp
  simp [Instr.buildSlice, Instr.fill, run_underlying ht, sizeOf, typeInfo, hi, hsize, zeroValue, hz, hv, newRow, hr]

end


theorem bstr_toList (l : List UInt8) : (bstr l).toList = l := by
  simp [bstr]

@[go_sem ↓] theorem binOp_bstr_eql (t : TypeId) (l m : List UInt8) : binOp .eql t (.string (bstr l)) (.string (bstr m)) = pure (.bool (l == m)) := by
  rw [binOp_string_eql, bstr_toList, bstr_toList]
@[go_sem ↓] theorem binOp_bstr_neq (t : TypeId) (l m : List UInt8) : binOp .neq t (.string (bstr l)) (.string (bstr m)) = pure (.bool (!(l == m))) := by
  rw [binOp_string_neq, bstr_toList, bstr_toList]
@[go_sem ↓] theorem binOp_bstr_lss (t : TypeId) (l m : List UInt8) : binOp .lss t (.string (bstr l)) (.string (bstr m)) = pure (.bool (Op.bytesLess l m)) := by
  rw [binOp_string_lss, bstr_toList, bstr_toList]

section
variable {P : Program} (w : World)
variable {ops : Array Oper} {rest : List Oper} {a : Act} {Q : Exit → Act → World → Prop} {dst : Option Tmp} {ty : TypeId} {pos : String} {after : Array Edge}

theorem strOfNums_u8 (l : List UInt8) : strOfNums (l.map fun c => (c.toNat : Int)) = bstr l := by
  simp only [strOfNums, bstr, List.map_map]
  congr 1
  have : ((fun n : Int => UInt8.ofNat n.toNat) ∘ fun c : UInt8 => (c.toNat : Int)) = id := by
    funext c; simp
  rw [this]; simp

theorem run_bytes_str (src e dst : TypeId) (hs : P.underlying src = some (.slice e)) (he : P.underlying e = some (.int .u8)) (hd : P.underlying dst = some .string) {av : Option Addr} {n c : Nat} {l : List UInt8} (h : RB w av n c l) :
    (convert src dst (.slice av n c)).run P w = .ok (.string (bstr l)) w := by
  cases av with
  | none =>
    obtain ⟨rfl, rfl⟩ := RV.nil_ h rfl
    have : l = [] := List.eq_nil_of_length_eq_zero h.len
    subst this
    rw [run_convert_bytes_nil (P := P) w src e hs he 0 0 dst hd]
    rfl
  | some ad =>
    rw [run_convert_bytes_string w src dst e _ n c hs he hd]
    by_cases h0 : n = 0
    · subst h0
      have : l = [] := List.eq_nil_of_length_eq_zero h.len
      subst this
      have hl : (loadCells ad 0).run P w = .ok (([] : List Int).map (Value.int .u8)).toArray w := by simp [loadCells, loadCellsFrom]
      rw [run_bytesToString w _ 0 c [] hl]
      rfl
    · obtain ⟨b, o, hbo⟩ := RV.some_ h (by omega)
      cases hbo
      rw [← run_convert_bytes_string w src dst e _ n c hs he hd]
      rw [run_convert_bytes_arg w src e hs he b o n c (l.map fun c => (c.toNat : Int)) (by simpa using h.len) ?_ dst hd]
      · rw [strOfNums_u8]
      · intro i hi
        have hl : i < l.length := by rw [h.len]; exact hi
        have := h.cell i hl
        rw [slotA_some] at this
        rw [this]
        simp [List.getD, hl]

end
end Go.Proofs.YtfjafbbalohmhaaGreatDoor
namespace Go.Proofs.YtfjafbbalohmhaaGreatDoor
set_option maxRecDepth 100000
open Go.RowKit

theorem wrap_i64 {n : Int} (h1 : -9223372036854775808 ≤ n) (h2 : n ≤ 9223372036854775807) : IntKind.i64.wrap n = n := IntWalk.i64_in n ⟨h1, h2⟩
theorem wrap_u64 (n : Int) : IntKind.u64.wrap n = n % 18446744073709551616 := by simp [IntKind.wrap, IntKind.signed, IntKind.bits]
theorem wrap_u32 (n : Int) : IntKind.u32.wrap n = n % 4294967296 := by simp [IntKind.wrap, IntKind.signed, IntKind.bits]
theorem wrap_u8 (n : Int) : IntKind.u8.wrap n = n % 256 := by simp [IntKind.wrap, IntKind.signed, IntKind.bits]

section
variable {P : Program} {K : KV} {w : World} {t : TypeId} {cx cy : Bool}

theorem bin_of {op : BinOp} {x y v : Value} (hg : (eqG op t cx cy x y).run P w = .ok () w) (hb : (binOp op t x y).run P w = .ok v w) (h : K v w) : bin P op t cx cy x y K w := by
  unfold bin
  refine okV_of (w' := w) (v := v) ?_ h
  simp only [Sem.run_bind, hg, Result.andThen_ok, hb]

theorem eqG_int (op : BinOp) (k k' : IntKind) (a b : Int) : (eqG op t cx cy (.int k a) (.int k' b)).run P w = .ok () w := by
  unfold eqG eqGuard; cases op <;> simp [Sem.run_pure]
theorem eqG_string (op : BinOp) (a b : ByteArray) : (eqG op t cx cy (.string a) (.string b)).run P w = .ok () w := by
  unfold eqG eqGuard; cases op <;> simp [Sem.run_pure]

variable {k : IntKind} {a b : Int}
theorem bin_eql (h : K (.bool (decide (a = b))) w) : bin P .eql t cx cy (.int k a) (.int k b) K w := by
  refine bin_of (eqG_int ..) ?_ h
  have : (a == b) = decide (a = b) := by by_cases hh : a = b <;> simp [hh]
  simp [binOp, Op.intCmp, Sem.run_pure, this]
theorem bin_neq (h : K (.bool (decide (a ≠ b))) w) : bin P .neq t cx cy (.int k a) (.int k b) K w := by
  refine bin_of (eqG_int ..) ?_ h
  have : (a != b) = decide (a ≠ b) := by by_cases hh : a = b <;> simp [hh]
  simp only [binOp, Op.intCmp, ne_eq, not_true_eq_false, if_false, Sem.run_pure, this]
theorem bin_lss (h : K (.bool (decide (a < b))) w) : bin P .lss t cx cy (.int k a) (.int k b) K w := by
  refine bin_of (eqG_int ..) ?_ h
  simp [binOp, Op.intCmp, Sem.run_pure]
theorem bin_leq (h : K (.bool (decide (a ≤ b))) w) : bin P .leq t cx cy (.int k a) (.int k b) K w := by
  refine bin_of (eqG_int ..) ?_ h
  simp [binOp, Op.intCmp, Sem.run_pure]
theorem bin_gtr (h : K (.bool (decide (b < a))) w) : bin P .gtr t cx cy (.int k a) (.int k b) K w := by
  refine bin_of (eqG_int ..) ?_ h
  simp [binOp, Op.intCmp, Sem.run_pure]
theorem bin_geq (h : K (.bool (decide (b ≤ a))) w) : bin P .geq t cx cy (.int k a) (.int k b) K w := by
  refine bin_of (eqG_int ..) ?_ h
  simp [binOp, Op.intCmp, Sem.run_pure]
theorem bin_add (h : K (.int k (k.wrap (a + b))) w) : bin P .add t cx cy (.int k a) (.int k b) K w := by
  refine bin_of (eqG_int ..) ?_ h
  simp [binOp, Op.intArith, Sem.run_pure]
theorem bin_sub (h : K (.int k (k.wrap (a - b))) w) : bin P .sub t cx cy (.int k a) (.int k b) K w := by
  refine bin_of (eqG_int ..) ?_ h
  simp [binOp, Op.intArith, Sem.run_pure]
theorem bin_mul (h : K (.int k (k.wrap (a * b))) w) : bin P .mul t cx cy (.int k a) (.int k b) K w := by
  refine bin_of (eqG_int ..) ?_ h
  simp [binOp, Op.intArith, Sem.run_pure]
theorem add64 (h1 : -9223372036854775808 ≤ a + b) (h2 : a + b ≤ 9223372036854775807) (h : K (.int .i64 (a + b)) w) : bin P .add t cx cy (.int .i64 a) (.int .i64 b) K w :=
  bin_add (by rw [wrap_i64 h1 h2]; exact h)
theorem sub64 (h1 : -9223372036854775808 ≤ a - b) (h2 : a - b ≤ 9223372036854775807) (h : K (.int .i64 (a - b)) w) : bin P .sub t cx cy (.int .i64 a) (.int .i64 b) K w :=
  bin_sub (by rw [wrap_i64 h1 h2]; exact h)
theorem mul64 (h1 : -9223372036854775808 ≤ a * b) (h2 : a * b ≤ 9223372036854775807) (h : K (.int .i64 (a * b)) w) : bin P .mul t cx cy (.int .i64 a) (.int .i64 b) K w :=
  bin_mul (by rw [wrap_i64 h1 h2]; exact h)
theorem bin_rem (hb : b ≠ 0) (h : K (.int k (a.tmod b)) w) : bin P .rem t cx cy (.int k a) (.int k b) K w := by
  refine bin_of (eqG_int ..) ?_ h
  simp [binOp, Op.intDiv, Sem.run_pure, hb]
theorem rem_nn (ha : 0 ≤ a) (hb : 0 < b) (h : K (.int k (a % b)) w) : bin P .rem t cx cy (.int k a) (.int k b) K w :=
  bin_rem (by omega) (by rw [Int.tmod_eq_emod_of_nonneg ha]; exact h)
theorem bin_shl {k' : IntKind} (hb : 0 ≤ b) (h : K (.int k (k.wrap (a * 2 ^ (min b.toNat k.bits)))) w) : bin P .shl t cx cy (.int k a) (.int k' b) K w := by
  refine bin_of (eqG_int ..) ?_ h
  have : ¬ b < 0 := by omega
  simp [binOp, Op.shift, Sem.run_pure, this]
theorem bin_shr {k' : IntKind} (hb : 0 ≤ b) (h : K (.int k (a.fdiv (2 ^ (min b.toNat k.bits)))) w) : bin P .shr t cx cy (.int k a) (.int k' b) K w := by
  refine bin_of (eqG_int ..) ?_ h
  have : ¬ b < 0 := by omega
  simp [binOp, Op.shift, Sem.run_pure, this]
def bitsOp (op : BinOp) (k : IntKind) (x y : Int) : Int :=
  let a := BitVec.ofInt k.bits x
  let b := BitVec.ofInt k.bits y
  match op with
  | .and => k.wrap (a &&& b).toNat
  | .or => k.wrap (a ||| b).toNat
  | .xor => k.wrap (a ^^^ b).toNat
  | _ => k.wrap (a &&& ~~~b).toNat
theorem bin_and (h : K (.int k (bitsOp .and k a b)) w) : bin P .and t cx cy (.int k a) (.int k b) K w := by
  refine bin_of (eqG_int ..) ?_ h
  simp [binOp, Op.intBits, Sem.run_pure, bitsOp]
theorem bin_or (h : K (.int k (bitsOp .or k a b)) w) : bin P .or t cx cy (.int k a) (.int k b) K w := by
  refine bin_of (eqG_int ..) ?_ h
  simp [binOp, Op.intBits, Sem.run_pure, bitsOp]
theorem bin_xor (h : K (.int k (bitsOp .xor k a b)) w) : bin P .xor t cx cy (.int k a) (.int k b) K w := by
  refine bin_of (eqG_int ..) ?_ h
  simp [binOp, Op.intBits, Sem.run_pure, bitsOp]
theorem bin_eqlS {x y : List UInt8} (h : K (.bool (decide (x = y))) w) : bin P .eql t cx cy (.string (bstr x)) (.string (bstr y)) K w := by
  refine bin_of (eqG_string ..) ?_ h
  rw [binOp_bstr_eql, Sem.run_pure]
  by_cases hh : x = y <;> simp [hh]
theorem bin_neqS {x y : List UInt8} (h : K (.bool (decide (x ≠ y))) w) : bin P .neq t cx cy (.string (bstr x)) (.string (bstr y)) K w := by
  refine bin_of (eqG_string ..) ?_ h
  rw [binOp_bstr_neq, Sem.run_pure]
  by_cases hh : x = y <;> simp [hh]
theorem un_not {x : Bool} (h : K (.bool (!x)) w) : un P .not (.bool x) K w := by
  unfold un; exact okV_of (by simp [Op.unary, Sem.run_pure]) h
theorem un_notD {p : Prop} [Decidable p] (h : K (.bool (decide (¬ p))) w) : un P .not (.bool (decide p)) K w :=
  un_not (by rw [← decide_not]; exact h)
theorem un_com (h : K (.int k (bitsOp .xor k (if k.signed then -1 else k.max) a)) w) : un P .xor (.int k a) K w := by
  unfold un; exact okV_of (by simp only [Op.unary, Op.intBits, Sem.run_pure]; rfl) h

theorem conv_int {s d : TypeId} {k' : IntKind} {ts : TypeDesc} (hs : P.underlying s = some ts) (hd : P.underlying d = some (.int k')) (h : K (.int k' (k'.wrap a)) w) : conv P s d (.int k a) K w := by
  unfold conv
  refine okV_of (w' := w) ?_ h
  cases ts <;> simp [convert, run_underlying hs, run_underlying hd, Conv.intToInt, Sem.run_pure]

theorem conv_str {s d e : TypeId} (hs : P.underlying s = some (.slice e)) (he : P.underlying e = some (.int .u8)) (hd : P.underlying d = some .string) {av : Option Addr} {n c : Nat} {l : List UInt8} (hr : RB w av n c l)
    (h : K (.string (bstr l)) w) : conv P s d (.slice av n c) K w := by
  unfold conv
  exact okV_of (run_bytes_str w s e d hs he hd hr) h

theorem ext_of {vs : Array Value} {i : Nat} {v : Value} (hv : vs[i]? = some v) (h : K v w) : ext P (.tuple vs) i K w := by
  unfold ext
  exact okV_of (by simp [Instr.extract, hv, Sem.run_pure]) h

theorem ext_a {a b : Value} (h : K a w) : ext P (.tuple #[a, b]) 0 K w := ext_of rfl h
theorem ext_b {a b : Value} (h : K b w) : ext P (.tuple #[a, b]) 1 K w := ext_of rfl h
theorem ext3_a {a b c : Value} (h : K a w) : ext P (.tuple #[a, b, c]) 0 K w := ext_of rfl h
theorem ext3_b {a b c : Value} (h : K b w) : ext P (.tuple #[a, b, c]) 1 K w := ext_of rfl h
theorem ext3_c {a b c : Value} (h : K c w) : ext P (.tuple #[a, b, c]) 2 K w := ext_of rfl h
theorem pick_t {x y : Value} {p : Prop} [Decidable p] (hp : p) (h : K x w) : pick (.bool (decide p)) x y K w := ⟨_, rfl, by simp [hp, h]⟩
theorem pick_f {x y : Value} {p : Prop} [Decidable p] (hp : ¬ p) (h : K y w) : pick (.bool (decide p)) x y K w := ⟨_, rfl, by simp [hp, h]⟩
theorem pick_T {x y : Value} (h : K x w) : pick (.bool true) x y K w := ⟨_, rfl, h⟩
theorem pick_F {x y : Value} (h : K y w) : pick (.bool false) x y K w := ⟨_, rfl, h⟩

theorem cond_t {p : Prop} [Decidable p] {A B : Prop} (hp : p) (h : A) : cond (.bool (decide p)) A B := ⟨_, rfl, fun _ => h, fun hh => absurd hp (by simpa using hh)⟩
theorem cond_f {p : Prop} [Decidable p] {A B : Prop} (hp : ¬ p) (h : B) : cond (.bool (decide p)) A B := ⟨_, rfl, fun hh => absurd (by simpa using hh) hp, fun _ => h⟩
theorem cond_T {A B : Prop} (h : A) : cond (.bool true) A B := ⟨_, rfl, fun _ => h, (fun hh => by cases hh)⟩
theorem cond_F {A B : Prop} (h : B) : cond (.bool false) A B := ⟨_, rfl, (fun hh => by cases hh), fun _ => h⟩
variable {A B : (List Value → World → Prop) → Prop} {KL : List Value → World → Prop}
theorem gsel_t {v : Value} {want : Bool} (hv : v = .bool want) (h : A KL) : gsel v want A B KL := ⟨fun _ => h, fun hh => absurd (by rw [hv]; rfl) hh⟩
theorem gsel_f {v : Value} {want : Bool} (hv : asB v ≠ some want) (h : B KL) : gsel v want A B KL := ⟨fun hh => absurd hh hv, fun _ => h⟩
theorem gsel_pt {p : Prop} [Decidable p] (hp : p) (h1 : A KL) : gsel (.bool (decide p)) true A B KL := gsel_t (by simp [hp]) h1
theorem gsel_pf {p : Prop} [Decidable p] (hp : ¬ p) (h1 : B KL) : gsel (.bool (decide p)) true A B KL := gsel_f (by simp [asB, hp]) h1
theorem gsel_nt {p : Prop} [Decidable p] (hp : p) (h1 : B KL) : gsel (.bool (decide p)) false A B KL := gsel_f (by simp [asB, hp]) h1
theorem gsel_nf {p : Prop} [Decidable p] (hp : ¬ p) (h1 : A KL) : gsel (.bool (decide p)) false A B KL := gsel_t (by simp [hp]) h1
theorem gsel_T (h1 : A KL) : gsel (.bool true) true A B KL := gsel_t rfl h1
theorem gsel_Tn (h1 : B KL) : gsel (.bool true) false A B KL := gsel_f (by simp [asB]) h1
theorem gsel_Fn (h1 : A KL) : gsel (.bool false) false A B KL := gsel_t rfl h1
theorem gsel_F (h1 : B KL) : gsel (.bool false) true A B KL := gsel_f (by simp [asB]) h1

theorem call_of {f : FuncId} {args : Array Value} (hg : isGo P f) (h : Gives P f args w K) : call P f args K w := ⟨hg, h⟩

theorem blt_of {bi : Builtin} {ats : Array TypeId} {ty : TypeId} {cs : Array Bool} {args : Array Value} {v : Value} {w' : World} (hr : (builtin bi ats ty cs args).run P w = .ok (.value v) w') (h : K v w') : blt P bi ats ty cs args K w := by
  unfold blt; rw [hr]; exact h

theorem len_slc {e ty : TypeId} {cs : Array Bool} {av : Option Addr} {n c : Nat} (ht : P.underlying t = some (.slice e)) (h : K (.int .i64 (n : Int)) w) : blt P .len #[t] ty cs #[.slice av n c] K w :=
  blt_of (by rw [BigFrame.builtin_len]; simp [Builtin.len_, run_underlying ht, Sem.run_pure, goInt]) h
theorem app_slc {e ty : TypeId} {cs : Array Bool} {base : Nat} {i : TypeInfo} {z : Value} {bytes : Nat} (ht : P.underlying t = some (.slice e)) (hi : P.info? e = some i) (hz : i.zero = some z)
    (hsize : i.size = 1) (hby : i.bytes = bytes) (hzs : z.cells.size = 1)
    {av : Option Addr} {n c : Nat} {xs : List Value} (hown : OV w base e av n c xs) {a2 : Option Addr} {m c2 : Nat} {ys : List Value} (hy : RV w a2 m c2 ys) (h1 : ∀ u ∈ ys, u.oneCell' = true)
    (hbytes : (n + m) * bytes ≤ 140737488355328) (h63 : n + m ≤ 9223372036854775807) (hbase : base ≤ w.heap.size)
    (h : ∀ a' c' w', OV w' base e a' (n + m) c' (xs ++ ys) → w.grownBy w' (Value.slice av n c).ownBlock → K (.slice a' (n + m) c') w') :
    blt P .append #[t, t] ty cs #[.slice av n c, .slice a2 m c2] K w := by
  obtain ⟨a', c', w', hr, h2, h3⟩ := run_append_ov (P := P) w base t ty e i z bytes ht hi hz hsize hby hzs hown hy h1 hbytes h63 hbase
  exact blt_of (by rw [BigFrame.builtin_append]; simp only [Sem.run_bind, hr, Result.andThen_ok, Sem.run_pure]) (h a' c' w' h2 h3)

theorem idx_slc {e : TypeId} (ht : P.underlying t = some (.slice e)) (hs : ∀ w, (sizeOf e).run P w = .ok 1 w) {av : Option Addr} {n c : Nat} {iv : Int}
    (h0 : 0 ≤ iv) (h1 : iv < n) (hsome : 0 < n → ∃ b o, av = some ⟨b, o, none⟩) (h : K (.pointer (some (slotA av iv.toNat))) w) : idxA P t (.slice av n c) (.int k iv) K w := by
  obtain ⟨b, o, rfl⟩ := hsome (by omega)
  have he : ((⟨b, o, none⟩ : Addr).add iv.toNat) = ⟨b, o + iv.toNat, none⟩ := by unfold Addr.add; split <;> simp_all
  unfold idxA
  refine okV_of (w' := w) ?_ h
  simp only [Instr.indexAt, asIntOf, Sem.run_bind, Sem.run_pure, Result.andThen_ok, run_underlying ht, hs, h0, h1, and_self, if_true, Nat.mul_one, he]
  rfl

theorem ld_of {ad : Addr} {v : Value} (hr : (loadVar t ad).run P w = .ok v w) (h : K v w) : ld P t (.pointer (some ad)) K w := by
  unfold ld
  exact okV_of (by simp only [Instr.loadAt, Instr.sureAddr, Sem.run_bind, Sem.run_pure, Result.andThen_ok, hr]) h

theorem ld_cell {ad : Addr} {v : Value} (ha : ∀ w, (isAgg t).run P w = .ok false w) (hc : w.cell? ad = some v) (h : K v w) : ld P t (.pointer (some ad)) K w := by
  refine ld_of ?_ h
  simp [loadVar, Sem.run_bind, ha, load, hc, Sem.run]

theorem sto_cell {ad : Addr} {v u : Value} (hs : ∀ w, (sizeOf t).run P w = .ok 1 w) (hv : v.oneCell' = true) (hv2 : v.cells = #[v]) (hc : w.cell? ad = some u) (hf : w.frozen? ad = false) (hsp : ad.spot = none)
    (h : K undef (w.setCell ad v)) : sto P t (.pointer (some ad)) v K w := by
  unfold sto
  have e0 : ad.add 0 = ad := rfl
  refine okU_of (w' := w.setCell ad v) (u := ()) ?_ h
  simp [Instr.storeAt, Instr.sureAddr, storeVar, Sem.run_bind, hs, hv2, storeCells, store, e0, hc, hf]
  cases v <;> simp_all [Value.oneCell', Sem.run]

theorem slc_of {e : TypeId} (ht : P.underlying t = some (.slice e)) (hs : ∀ w, (sizeOf e).run P w = .ok 1 w) {av : Option Addr} {n c : Nat} {l m : Nat} {xs : List Value} (hr : RV w av n c xs)
    {lo hi : Option Value} (hlo : (lo = none ∧ l = 0) ∨ ∃ k, lo = some (.int k (l : Int))) (hhi : (hi = none ∧ m = n) ∨ ∃ k, hi = some (.int k (m : Int))) (hlm : l ≤ m) (hmn : m ≤ n)
    (h : ∀ a', RV w a' (m - l) (c - l) ((xs.take m).drop l) → K (.slice a' (m - l) (c - l)) w) : slc P t (.slice av n c) lo hi none K w := by
  have hnc := hr.cap
  have sb : ∀ (k : IntKind) (i y : Nat) (code : BoundsCode), i ≤ y → (Instr.sliceBound (.int k (i : Int)) y code).run P w = .ok i w := by
    intro k i y code hi
    have := run_sliceBound (P := P) w k (i : Int) y code (by omega) (by omega)
    simpa using this
  have hb : (Instr.sliceBounds true n c lo hi none).run P w = .ok (l, m, c) w := by
    rcases hlo with ⟨rfl, rfl⟩ | ⟨kl, rfl⟩ <;> rcases hhi with ⟨rfl, rfl⟩ | ⟨kh, rfl⟩
    · simp [Instr.sliceBounds]
    · simp [Instr.sliceBounds, sb kh m c _ (by omega)]
    · simp [Instr.sliceBounds, sb kl l m _ hlm]
    · simp [Instr.sliceBounds, sb kh m c _ (by omega), sb kl l m _ hlm]
  unfold slc
  refine okV_of (w' := w) ?_ (h _ (hr.cut l m c hlm (by omega) hmn (Nat.le_refl _)))
  simp only [Instr.sliceAt, Instr.slice, Sem.run_bind, Sem.run_pure, Result.andThen_ok, run_underlying ht, hs, hb]

theorem bldS1 {e : TypeId} {i : TypeInfo} {z : Value} (ht : P.underlying t = some (.slice e)) (hi : P.info? e = some i) (hz : i.zero = some z) (hsize : i.size = 1) (hzs : z.cells.size = 1)
    {v : Value} (hv : v.cells = #[v])
    (h : RV (w.alloc (.cells #[v] e)) (some ⟨w.heap.size, 0, none⟩) 1 1 [v] → K (.slice (some ⟨w.heap.size, 0, none⟩) 1 1) (w.alloc (.cells #[v] e))) : bldS P t 1 #[(0, v)] K w := by
  unfold bldS
  refine okV_of (run_build1 w t e i z ht hi hz hsize hzs v hv) (h ⟨rfl, Nat.le_refl _, fun _ => ⟨_, _, rfl⟩, (fun h => by simp at h), fun j u hu => ?_⟩)
  have : j = 0 := by
    have := (List.getElem?_eq_some_iff.1 hu).1
    simpa using this
  subst this
  simp at hu
  subst hu
  rw [slotA_some, World.cell?_alloc_at _ _ _ _ rfl]; rfl

theorem bldS0 {e : TypeId} {i : TypeInfo} {base : Nat} (ht : P.underlying t = some (.slice e)) (hi : P.info? e = some i) (hsize : i.size = 1) (hbase : base ≤ w.heap.size)
    (h : ∀ a' w', OV w' base e a' 0 0 [] → Below w.heap.size w w' → K (.slice a' 0 0) w') : bldS P t 0 #[] K w := by
  unfold bldS
  refine okV_of (w' := w.alloc (.cells #[] e)) (v := .slice (some ⟨w.heap.size, 0, none⟩) 0 0) ?_ (h _ _ (World.ownsRow_made w #[] 0 hbase (Nat.zero_le _) rfl) (below_of_grown (World.grownBy_alloc _ _ none) (Nat.le_refl _) (fun k hk => by cases hk)))
  have e0 : ∀ f : Nat → Value, (Array.range 0).map f = #[] := fun f => by apply Array.ext <;> simp
  simp [Instr.buildSlice, Instr.fill, run_underlying ht, sizeOf, typeInfo, hi, hsize, newRow, e0]

theorem or_byte {n c : Nat} (hn : n < 72057594037927936) (hc : c < 256) : bitsOp .or .u64 (IntKind.u64.wrap ((n : Int) * 2 ^ (min (8 : Int).toNat IntKind.u64.bits))) (c : Int) = ((n * 256 + c : Nat) : Int) := by
  have h8 : (2 : Int) ^ (min (8 : Int).toNat IntKind.u64.bits) = 256 := rfl
  rw [h8, wrap_u64]
  have e1 : ((n : Int) * 256) % 18446744073709551616 = ((n * 256 : Nat) : Int) := by omega
  rw [e1]
  unfold bitsOp
  have hb : IntKind.u64.bits = 64 := rfl
  simp only [hb, wrap_u64]
  have : (BitVec.ofInt 64 ((n * 256 : Nat) : Int) ||| BitVec.ofInt 64 ((c : Nat) : Int)).toNat = n * 256 + c := by
    rw [BitVec.toNat_or, BitVec.ofInt_natCast, BitVec.ofInt_natCast, BitVec.toNat_ofNat, BitVec.toNat_ofNat]
    rw [Nat.mod_eq_of_lt (by omega), Nat.mod_eq_of_lt (by omega)]
    have h2 := Nat.shiftLeft_add_eq_or_of_lt (i := 8) (b := c) (by omega) n
    rw [Nat.shiftLeft_eq] at h2
    rw [← h2]
  show ((BitVec.ofInt 64 ((n * 256 : Nat) : Int) ||| BitVec.ofInt 64 ((c : Nat) : Int)).toNat : Int) % 18446744073709551616 = _
  rw [this]
  omega
end
end Go.Proofs.YtfjafbbalohmhaaGreatDoor
namespace Go.Proofs.YtfjafbbalohmhaaGreatDoor
set_option maxRecDepth 100000
open Go.RowKit

def blk (w : World) (b : Nat) (E : TypeId) (cs : List Value) : Prop := w.heap[b]? = some (.cells cs.toArray E (0, 0))

theorem blk.lt {w : World} {b : Nat} {E : TypeId} {cs : List Value} (h : blk w b E cs) : b < w.heap.size := (Array.getElem?_eq_some_iff.1 h).1
theorem blk.ne {w : World} {b b' : Nat} {E E' : TypeId} {cs cs' : List Value} (h : blk w b E cs) (h' : blk w b' E' cs') (hE : E ≠ E') : b ≠ b' := by
  rintro rfl
  unfold blk at *
  rw [h] at h'
  simp only [Option.some.injEq, Obj.cells.injEq] at h'
  exact hE h'.2.1
theorem blk.cell {w : World} {b : Nat} {E : TypeId} {cs : List Value} (h : blk w b E cs) (o : Nat) : w.cell? ⟨b, o, none⟩ = cs[o]? := by
  unfold World.cell?
  rw [h]; simp
theorem blk.frozen {w : World} {b : Nat} {E : TypeId} {cs : List Value} (h : blk w b E cs) (o : Nat) : w.frozen? ⟨b, o, none⟩ = false := by
  unfold World.frozen?
  rw [h]; simp

structure Keep (T : List TypeId) (B : Nat) (w w' : World) : Prop where
  os : w'.os = w.os
  tape : w'.tape = w.tape
  output : w'.output = w.output
  size : w.heap.size ≤ w'.heap.size
  block : ∀ (k : Nat) (o : Obj), w.heap[k]? = some o → (k < B ∨ ∀ cs E z, o = .cells cs E z → E ∉ T) → w'.heap[k]? = some o

theorem Keep.refl (T : List TypeId) (B : Nat) (w : World) : Keep T B w w := ⟨rfl, rfl, rfl, Nat.le_refl _, fun _ _ h _ => h⟩
theorem Keep.trans {T : List TypeId} {B : Nat} {a b c : World} (h : Keep T B a b) (k : Keep T B b c) : Keep T B a c :=
  ⟨k.os.trans h.os, k.tape.trans h.tape, k.output.trans h.output, Nat.le_trans h.size k.size, fun i o ho hk => k.block i o (h.block i o ho hk) hk⟩
theorem Keep.mono {T T' : List TypeId} {B B' : Nat} {w w' : World} (h : Keep T B w w') (hT : ∀ t ∈ T, t ∈ T') (hB : B' ≤ B) : Keep T' B' w w' :=
  ⟨h.os, h.tape, h.output, h.size, fun k o ho hk => h.block k o ho (hk.elim (fun h => .inl (Nat.lt_of_lt_of_le h hB)) (fun h => .inr fun cs E z e hm => h cs E z e (hT E hm)))⟩
theorem Keep.of {T : List TypeId} {B : Nat} {w w' : World} (h : Below w.heap.size w w') : Keep T B w w' :=
  ⟨h.os, h.tape, h.output, h.size, fun k o ho _ => by rw [h.block k (Array.getElem?_eq_some_iff.1 ho).1]; exact ho⟩
theorem Keep.below {T : List TypeId} {B : Nat} {w w' : World} (h : Keep T B w w') (hB : B ≤ w.heap.size) : Below B w w' :=
  ⟨h.os, h.tape, h.output, h.size, fun k hk => by
    have hk' : k < w.heap.size := by omega
    rw [h.block k _ (Array.getElem?_eq_getElem hk') (.inl hk), Array.getElem?_eq_getElem hk']⟩
theorem Keep.drew {T : List TypeId} {B : Nat} {a w : World} (h : Keep T B a w) : Keep T B a w.drew := ⟨h.os, h.tape, h.output, h.size, h.block⟩
theorem Keep.blk {T : List TypeId} {B : Nat} {w w' : World} {b : Nat} {E : TypeId} {cs : List Value} (h : Keep T B w w') (hb : blk w b E cs) (hE : b < B ∨ E ∉ T) : blk w' b E cs :=
  h.block _ _ hb (hE.imp id fun h cs E z e => by cases e; exact h)
theorem below_blk {B : Nat} {w w' : World} {b : Nat} {E : TypeId} {cs : List Value} (h : Below B w w') (hb : blk w b E cs) (hB : b < B) : blk w' b E cs := by
  unfold Go.Proofs.YtfjafbbalohmhaaGreatDoor.blk; rw [h.block b hB]; exact hb
theorem blk.drew {w : World} {b : Nat} {E : TypeId} {cs : List Value} (h : blk w b E cs) : blk w.drew b E cs := h

structure Oth (b : Nat) (w w' : World) : Prop where
  os : w'.os = w.os
  tape : w'.tape = w.tape
  output : w'.output = w.output
  size : w'.heap.size = w.heap.size
  other : ∀ k, k ≠ b → w'.heap[k]? = w.heap[k]?

theorem Oth.blk {b k : Nat} {w w' : World} {E : TypeId} {cs : List Value} (h : Oth b w w') (hb : blk w k E cs) (hk : k ≠ b) : blk w' k E cs := by
  unfold Go.Proofs.YtfjafbbalohmhaaGreatDoor.blk; rw [h.other k hk]; exact hb
theorem Oth.keep {T : List TypeId} {B b : Nat} {w w' : World} {E : TypeId} {cs : List Value} (h : Oth b w w') (hb : Go.Proofs.YtfjafbbalohmhaaGreatDoor.blk w b E cs) (hE : E ∈ T) (hB : B ≤ b) : Keep T B w w' :=
  ⟨h.os, h.tape, h.output, by rw [h.size]; exact Nat.le_refl _, fun k o ho hk => by
    have : k ≠ b := by
      rintro rfl
      rcases hk with hk | hk
      · omega
      · unfold Go.Proofs.YtfjafbbalohmhaaGreatDoor.blk at hb
        rw [hb] at ho
        cases ho
        exact hk _ _ _ rfl hE
    rw [h.other k this]; exact ho⟩
theorem Oth.below {b : Nat} {w w' : World} (h : Oth b w w') : Below b w w' :=
  ⟨h.os, h.tape, h.output, by rw [h.size]; exact Nat.le_refl _, fun k hk => h.other k (by omega)⟩

theorem Keep.grown {T : List TypeId} {B B2 : Nat} {w w' : World} {E : TypeId} {a : Option Addr} {n c : Nat} {xs : List Value} {s : Nat} (hg : w.grownBy w' (Value.slice a n c).ownBlock) (ho : w.ownsRow B2 E s (.slice a n c) n xs) (hE : E ∈ T) (hB : B ≤ B2) : Keep T B w w' :=
  ⟨hg.os, hg.tape, hg.output, hg.size, fun k o hk h => by
    have hlt : k < w.heap.size := (Array.getElem?_eq_some_iff.1 hk).1
    rw [hg.block k hlt ?_]; exact hk
    rcases ho.2 with ⟨hv, _⟩ | ⟨g, cap, cur, hv, hb, hh, _⟩
    · cases hv; simp [Value.ownBlock]
    · cases hv
      simp only [Value.ownBlock, ne_eq, Option.some.injEq]
      rintro rfl
      rcases h with h | h
      · omega
      · rw [hh] at hk; cases hk; exact h _ _ _ rfl hE⟩

section
variable {P : Program} {K : KV} {w : World} {t : TypeId} {b o : Nat} {E : TypeId} {cs : List Value}

theorem add_p (b o j : Nat) : (⟨b, o, none⟩ : Addr).add j = ⟨b, o + j, none⟩ := Addr.add_mid b o j

theorem nilC_p {a : Addr} (h : K (.pointer (some a)) w) : nilC (.pointer (some a)) K w := h
theorem ld1 {v : Value} (ha : ∀ w, (isAgg t).run P w = .ok false w) (hb : blk w b E cs) (ho : cs[o]? = some v) (h : K v w) : ld P t (.pointer (some ⟨b, o, none⟩)) K w :=
  ld_cell ha (by rw [hb.cell, ho]) h

theorem ldA {n : Nat} {vs : List Value} {d : TypeDesc} (hu : P.underlying t = some d) (hd : d.isRow = true) (hi : (P.info? t).map (·.size) = some n) (hb : blk w b E cs) (hv : (cs.drop o).take n = vs) (hn : vs.length = n)
    (h : K (.agg vs.toArray) w) : ld P t (.pointer (some ⟨b, o, none⟩)) K w := by
  refine ld_of (run_loadVar_mid w b o t vs d ?_ hu hd (by rw [hn]; exact hi)) h
  intro j v hj
  rw [hb.cell]
  subst hv
  have hlt := (List.getElem?_eq_some_iff.1 hj).1
  rw [List.getElem?_take] at hj
  split at hj
  · rw [List.getElem?_drop] at hj; exact hj
  · cases hj

theorem sto1 {v : Value} (hs : ∀ w, (sizeOf t).run P w = .ok 1 w) (hb : blk w b E cs) (ho : o < cs.length) (hv : v.oneCell' = true)
    (h : ∀ w', blk w' b E (cs.set o v) → Oth b w w' → K undef w') : sto P t (.pointer (some ⟨b, o, none⟩)) v K w := by
  have hc : w.cell? ⟨b, o, none⟩ = some cs[o] := by rw [hb.cell, List.getElem?_eq_getElem ho]
  have hv2 : v.cells = #[v] := by cases v <;> first | rfl | simp [Value.oneCell'] at hv
  refine sto_cell hs hv hv2 hc (hb.frozen o) rfl (h _ ?_ ⟨rfl, rfl, rfl, by simp [World.setCell], fun k hk => Below.heap_setCell _ _ _ _ hk⟩)
  unfold blk at *
  simp only [World.setCell, Array.getElem?_modify]
  rw [if_pos trivial, hb]
  simp

theorem setCells_other (b : Nat) : ∀ (vs : List Value) (o : Nat) (w : World), Oth b w (w.setCells b o vs) := by
  intro vs
  induction vs with
  | nil => intro o w; exact ⟨rfl, rfl, rfl, rfl, fun _ _ => rfl⟩
  | cons v vs ih =>
    intro o w
    have h := ih (o + 1) (w.setCell ⟨b, o, none⟩ v)
    rw [World.setCells]
    exact ⟨h.os, h.tape, h.output, by rw [h.size]; simp [World.setCell], fun k hk => (h.other k hk).trans (Below.heap_setCell _ _ _ _ hk)⟩

theorem setCells_blk {b : Nat} {E : TypeId} : ∀ (vs : List Value) (o : Nat) (w : World) (cs : List Value), blk w b E cs → o + vs.length ≤ cs.length → blk (w.setCells b o vs) b E (cs.take o ++ vs ++ cs.drop (o + vs.length)) := by
  intro vs
  induction vs with
  | nil => intro o w cs h hl; rw [World.setCells]; simpa using h
  | cons v vs ih =>
    intro o w cs h hl
    rw [World.setCells]
    simp only [List.length_cons] at hl
    have h1 : blk (w.setCell ⟨b, o, none⟩ v) b E (cs.set o v) := by
      unfold blk at *
      simp only [World.setCell, Array.getElem?_modify]
      rw [if_pos trivial, h]
      simp
    have h2 := ih (o + 1) _ _ h1 (by simp; omega)
    have : (cs.set o v).take (o + 1) ++ vs ++ (cs.set o v).drop (o + 1 + vs.length) = cs.take o ++ (v :: vs) ++ cs.drop (o + (vs.length + 1)) := by
      have e : cs.set o v = cs.take o ++ v :: cs.drop (o + 1) := by rw [List.set_eq_take_append_cons_drop, if_pos (by omega)]
      have e2 : (cs.take o).length = o := by rw [List.length_take]; omega
      rw [e, List.take_append, List.drop_append, e2, List.take_take, List.drop_take]
      simp only [show min (o + 1) o = o by omega, show o + 1 - o = 1 by omega, List.take_succ_cons, List.take_zero, show o - (o + 1 + vs.length) = 0 by omega, List.nil_append, show o + 1 + vs.length - o = vs.length + 1 by omega, List.drop_succ_cons, List.drop_drop,
        show o + 1 + vs.length = o + (vs.length + 1) by omega, List.append_assoc, List.cons_append, List.take_zero, show o - (o + (vs.length + 1)) = 0 by omega, show o + (vs.length + 1) - o = vs.length + 1 by omega, List.nil_append, List.drop_succ_cons, List.drop_drop,
        show o + 1 + vs.length = o + (vs.length + 1) by omega]
    rw [this] at h2
    exact h2

theorem stoA {vs : List Value} {n : Nat} (hi : (P.info? t).map (·.size) = some n) (hn : vs.length = n) (hb : blk w b E cs) (ho : o + n ≤ cs.length) (h1 : ∀ v ∈ vs, v.oneCell' = true)
    (h : ∀ w', blk w' b E (cs.take o ++ vs ++ cs.drop (o + n)) → Oth b w w' → K undef w') : sto P t (.pointer (some ⟨b, o, none⟩)) (.agg vs.toArray) K w := by
  subst hn
  have hr := run_storeAt_mid (P := P) w b o t vs.toArray (fun j hj => ⟨by
    rw [hb.cell, List.getElem?_eq_getElem (by simp at hj; omega)]; rfl, hb.frozen _⟩) (by simpa using hi) (by simpa using h1)
  unfold sto
  exact okU_of hr (h _ (by simpa using setCells_blk vs o w cs hb ho) (by simpa using setCells_other b vs o w))

theorem box_of {v : Value} (h : ∀ w', blk w' w.heap.size t v.cells.toList → Below w.heap.size w w' → w'.heap.size = w.heap.size + 1 → K (.pointer (some ⟨w.heap.size, 0, none⟩)) w') : box P t v K w := by
  unfold box
  refine okV_of (w' := w.alloc (.cells v.cells t)) (v := .pointer (some ⟨w.heap.size, 0, none⟩)) ?_ (h _ ?_ (below_of_grown (World.grownBy_alloc _ _ none) (Nat.le_refl _) (fun k hk => by cases hk)) (by simp))
  · simp [Instr.box, newVar, newRow]
  · unfold blk; rw [heap_alloc_new]
theorem alc_of {z : Value} (hz : (P.info? t).bind (·.zero) = some z) (h : ∀ w', blk w' w.heap.size t z.cells.toList → Below w.heap.size w w' → w'.heap.size = w.heap.size + 1 → K (.pointer (some ⟨w.heap.size, 0, none⟩)) w') : alc P t K w := by
  obtain ⟨i, hi, hz⟩ := Option.bind_eq_some_iff.1 hz
  unfold alc
  refine okV_of (w' := w.alloc (.cells z.cells t)) (v := .pointer (some ⟨w.heap.size, 0, none⟩)) ?_ (h _ ?_ (below_of_grown (World.grownBy_alloc _ _ none) (Nat.le_refl _) (fun k hk => by cases hk)) (by simp))
  · simp [Instr.alloc, zeroValue, typeInfo, hi, hz, newVar, newRow]
  · unfold blk; rw [heap_alloc_new]

theorem bld_of {ps : Array (Nat × Value)} {vs : List Value} (hb : P.built t ps.toList = some vs.toArray) (h : K (.agg vs.toArray) w) : bld P t ps K w := by
  unfold bld
  exact okV_of (run_build w t ps _ hb) h

def fOff (P : Program) (s : TypeId) (f : Nat) : Option Nat :=
  match P.underlying s with
  | some (.struct fs) =>
    match fs[f]? with
    | some fd => match P.info? fd.type with
      | some i => match Nat.beq i.size 0 with | true => none | false => some fd.offset
      | none => none
    | none => none
  | _ => none

theorem fldA_of {f off : Nat} (hf : fOff P t f = some off) (h : K (.pointer (some ⟨b, o + off, none⟩)) w) : fldA P t (.pointer (some ⟨b, o, none⟩)) f K w := by
  unfold fOff at hf
  split at hf
  · rename_i fs hu
    split at hf
    · rename_i fd hfd
      split at hf
      · rename_i i hi
        split at hf
        · cases hf
        · rename_i h0
          cases hf
          have hs : (sizeOf fd.type).run P w = .ok i.size w := by simp [sizeOf, typeInfo, hi]
          have h0' : ¬ i.size = 0 := fun e => by rw [e] at h0; exact absurd h0 (by decide)
          unfold fldA
          refine okV_of (w' := w) ?_ h
          simp only [Instr.fieldAt, Sem.run_bind, run_underlying hu, Result.andThen_ok, hfd, Instr.sureAddr, Sem.run_pure, fieldPlace, hs, h0', if_false, add_p]
      · cases hf
    · cases hf
  · cases hf

def fldOf (P : Program) (s : TypeId) (f : Nat) : Option (Nat × Nat × Bool) :=
  match P.underlying s with
  | some (.struct fs) =>
    match fs[f]? with
    | some fd => match P.info? fd.type, P.underlying fd.type with
      | some i, some d => some (fd.offset, i.size, d.isRow)
      | _, _ => none
    | none => none
  | _ => none

theorem fld1 {f off n : Nat} {v : Value} (hf : fldOf P t f = some (off, n, false)) (hv : cs[off]? = some v) (h : K v w) : fld P t (.agg cs.toArray) f K w := by
  unfold fldOf at hf
  split at hf
  · rename_i fs hu
    split at hf
    · rename_i fd hfd
      split at hf
      · rename_i i d hi hd
        simp only [Option.some.injEq, Prod.mk.injEq] at hf
        obtain ⟨rfl, rfl, hr⟩ := hf
        have ha : (isAgg fd.type).run P w = .ok false w := by
          unfold isAgg
          rw [Sem.run_bind, run_underlying hd w]
          cases d <;> simp_all [TypeDesc.isRow]
        unfold fld
        refine okV_of (w' := w) ?_ h
        simp only [Instr.field, Sem.run_bind, run_underlying hu, Result.andThen_ok, hfd, asAgg, Sem.run_pure, part, ha]
        simp [hv]
      · cases hf
    · cases hf
  · cases hf

theorem fldG {f off n : Nat} {vs : List Value} (hf : fldOf P t f = some (off, n, true)) (hv : (cs.drop off).take n = vs) (h : K (.agg vs.toArray) w) : fld P t (.agg cs.toArray) f K w := by
  unfold fldOf at hf
  split at hf
  · rename_i fs hu
    split at hf
    · rename_i fd hfd
      split at hf
      · rename_i i d hi hd
        simp only [Option.some.injEq, Prod.mk.injEq] at hf
        obtain ⟨rfl, rfl, hr⟩ := hf
        have ha : (isAgg fd.type).run P w = .ok true w := by
          unfold isAgg
          rw [Sem.run_bind, run_underlying hd w]
          cases d <;> simp_all [TypeDesc.isRow]
        have hs : (sizeOf fd.type).run P w = .ok i.size w := by simp [sizeOf, typeInfo, hi]
        unfold fld
        refine okV_of (w' := w) ?_ h
        subst hv
        simp only [Instr.field, Sem.run_bind, run_underlying hu, Result.andThen_ok, hfd, asAgg, Sem.run_pure, part, ha, if_true, hs]
        congr 3
        rw [List.extract_toArray]
        simp [List.extract_eq_take_drop]
      · cases hf
    · cases hf
  · cases hf

theorem idxArr {e : TypeId} {n s : Nat} {k : IntKind} {i : Int} (ht : P.underlying t = some (.array n e)) (hs : ∀ w, (sizeOf e).run P w = .ok s w) (h0 : 0 ≤ i) (h1 : i < n)
    (h : K (.pointer (some ⟨b, o + i.toNat * s, none⟩)) w) : idxA P t (.pointer (some ⟨b, o, none⟩)) (.int k i) K w := by
  unfold idxA
  refine okV_of (w' := w) ?_ h
  simp only [Instr.indexAt, asIntOf, Instr.sureAddr, Sem.run_bind, Sem.run_pure, Result.andThen_ok, run_underlying ht, hs, h0, h1, and_self, if_true, add_p]

theorem idxRow {e : TypeId} {n c s : Nat} {k : IntKind} {i : Int} (ht : P.underlying t = some (.slice e)) (hs : ∀ w, (sizeOf e).run P w = .ok s w) (h0 : 0 ≤ i) (h1 : i < n)
    (h : K (.pointer (some ⟨b, o + i.toNat * s, none⟩)) w) : idxA P t (.slice (some ⟨b, o, none⟩) n c) (.int k i) K w := by
  unfold idxA
  refine okV_of (w' := w) ?_ h
  simp only [Instr.indexAt, asIntOf, Instr.sureAddr, Sem.run_bind, Sem.run_pure, Result.andThen_ok, run_underlying ht, hs, h0, h1, and_self, if_true, add_p]

theorem slcTo {e : TypeId} {s : Nat} (ht : P.underlying t = some (.slice e)) (hs : ∀ w, (sizeOf e).run P w = .ok s w) {av : Option Addr} {n c m : Nat} {k : IntKind} (hm : m ≤ c) (h : K (.slice av m c) w) :
    slc P t (.slice av n c) none (some (.int k (m : Int))) none K w := by
  have hb : (Instr.sliceBounds true n c none (some (.int k (m : Int))) none).run P w = .ok (0, m, c) w := by
    have := run_sliceBound (P := P) w k (m : Int) c .sliceAcap (by omega) (by omega)
    simp [Instr.sliceBounds] at this ⊢
    rw [this]; simp
  unfold slc
  refine okV_of (w' := w) ?_ h
  simp only [Instr.sliceAt, Instr.slice, Sem.run_bind, Sem.run_pure, Result.andThen_ok, run_underlying ht, hs, hb]
  cases av <;> simp [Addr.add]

theorem bldSG {e : TypeId} {n s : Nat} {ps : Array (Nat × Value)} (vs : List Value) (ht : P.underlying t = some (.slice e)) (hi : (P.info? e).map (·.size) = some s) (hz : ((P.info? e).bind (·.zero)).isSome = true) (hs : 0 < s) (hn : n = vs.length) (h0 : vs.length ≠ 0)
    (h24 : n * s ≤ 16777216) (hps : ps.toList = (vs.zipIdx 0).map fun x => (x.2, x.1)) (hv : ∀ v ∈ vs, v.cells.size = s)
    (h : ∀ w', blk w' w.heap.size e (vs.flatMap fun v => v.cells.toList) → Below w.heap.size w w' → w'.heap.size = w.heap.size + 1 → K (.slice (some ⟨w.heap.size, 0, none⟩) n n) w') : bldS P t n ps K w := by
  subst hn
  obtain ⟨ie, hie, hsz⟩ : ∃ ie, P.info? e = some ie ∧ ie.size = s := by
    cases hq : P.info? e with
    | none => rw [hq] at hi; cases hi
    | some ie => rw [hq] at hi; exact ⟨ie, rfl, by simpa using hi⟩
  obtain ⟨z, hz'⟩ := Option.isSome_iff_exists.1 hz
  rw [hie] at hz'
  have hz' : ie.zero = some z := hz'
  subst hsz
  have hf := Go.Great.fill_whole hs vs ((Array.range (vs.length * ie.size)).map (z.cells[· % z.cells.size]!)) hv (by simp)
  unfold bldS
  refine okV_of (run_buildSlice (P := P) w t e vs.length ps _ ie z ht hie hz' (by omega) (by intro h; rcases Nat.mul_eq_zero.1 h with h | h <;> omega) (by rw [hps]; exact hf)) (h _ ?_ (below_of_grown (World.grownBy_alloc _ _ none) (Nat.le_refl _) (fun k hk => by cases hk)) (by simp))
  unfold blk; rw [heap_alloc_new]

theorem callV_of {f : FuncId} {first args cap all : Array Value} (he : first ++ args ++ cap = all) (h : call P f all K w) : callV P (.func (.func f) first cap) args K w := ⟨f, first, cap, rfl, by rw [he]; exact h⟩

/-! ## In a region that draws -/
theorem hld_of {S : World → Prop} {s : KV → World → Prop} {k : Value → Prop} {v : Value} (h : ∀ w, S w → ∀ K : KV, K v w → s K w) (hk : k v) : hld S s k := ⟨v, fun w hw => h w hw _ ⟨rfl, rfl⟩, hk⟩
theorem hReg_of {b : (World → Prop) → World → Prop} (S : World → Prop) (hS : S w) (h : b S w) : hReg b w := ⟨S, hS, h⟩
end
theorem hG_t {v : Value} {want : Bool} {S : World → Prop} {s : KV → World → Prop} {k : Value → Prop} {x : Value} (hv : asB v = some want) (h : ∀ w, S w → ∀ K : KV, K x w → s K w) (hk : k x) : hG v want S s k :=
  ⟨x, fun _ w hw => h w hw _ ⟨rfl, rfl⟩, fun hh => absurd hv hh, hk⟩
theorem xG_t {v : Value} {want : Bool} {s : KV → World → Prop} {K : KV} {w : World} (hv : asB v = some want) (h : s K w) : xG v want s K w := ⟨fun _ => h, fun hh => absurd hv hh⟩
theorem asB_f {p : Prop} [Decidable p] (hp : ¬ p) : asB (.bool (decide p)) = some false := by show some (decide p) = some false; rw [decide_eq_false hp]
end Go.Proofs.YtfjafbbalohmhaaGreatDoor
namespace Go.Proofs.YtfjafbbalohmhaaGreatDoor
set_option maxRecDepth 100000
open Go.RowKit
section
variable {P : Program} {w w' : World} {t : TypeId} {K : KV}
theorem ownS {B : Nat} {E : TypeId} {s : Nat} {v : Value} {n : Nat} {xs : List Value} (h : w.ownsRow B E s v n xs) (hk : ∀ k, v.ownBlock = some k → w'.heap[k]? = w.heap[k]?) : w'.ownsRow B E s v n xs := by
  refine ⟨h.1, ?_⟩
  rcases h.2 with h2 | ⟨g, cap, cur, hv, hb, hh, r⟩
  · exact .inl h2
  · refine .inr ⟨g, cap, cur, hv, hb, ?_, r⟩
    rw [hk g (by rw [hv]; rfl)]; exact hh
theorem ownLit {B g n s : Nat} {E : TypeId} {xs : List Value} (hb : blk w g E xs) (hn : xs.length = n * s) (hB : B ≤ g) (hm : n ≤ maxLen) : w.ownsRow B E s (.slice (some ⟨g, 0, none⟩) n n) n xs := by
  refine ⟨hn, .inr ⟨g, n, xs.toArray, rfl, hB, hb, Nat.le_refl _, hm, by simpa using hn, ?_⟩⟩
  rw [← hn]; simp
theorem appA {e ty : TypeId} {cs : Array Bool} {base : Nat} {i : TypeInfo} {z : Value} {bytes s : Nat} (ht : P.underlying t = some (.slice e)) (hi : P.info? e = some i) (hz : i.zero = some z)
    (hsize : i.size = s) (hby : i.bytes = bytes) (hzs : z.cells.size = s) (hs0 : 0 < s)
    {av : Option Addr} {n c : Nat} {xs : List Value} (hown : w.ownsRow base e s (.slice av n c) n xs) {g : Nat} {m c2 : Nat} {ys : List Value} (hy : blk w g e ys) (hyl : ys.length = m * s) (h1 : ∀ u ∈ ys, u.oneCell' = true)
    (hbytes : (n + m) * bytes ≤ 140737488355328) (h63 : n + m ≤ 9223372036854775807) (hbase : base ≤ w.heap.size)
    (h : ∀ a' c' w', w'.ownsRow base e s (.slice a' (n + m) c') (n + m) (xs ++ ys) → w.grownBy w' (Value.slice av n c).ownBlock → ((Value.slice a' (n + m) c').ownBlock = (Value.slice av n c).ownBlock ∨ (Value.slice a' (n + m) c').ownBlock = some w.heap.size) → K (.slice a' (n + m) c') w') :
    blt P .append #[t, t] ty cs #[.slice av n c, .slice (some ⟨g, 0, none⟩) m c2] K w := by
  have hn : ∀ j u, ys[j]? = some u → w.cell? ((⟨g, 0, none⟩ : Addr).add j) = some u := by
    intro j u hj
    rw [show ((⟨g, 0, none⟩ : Addr).add j) = ⟨g, 0 + j, none⟩ from by unfold Addr.add; split <;> simp_all, hy.cell, Nat.zero_add]
    exact hj
  obtain ⟨v', w', hr, h2, h3, _, h5⟩ := run_append_own_at (P := P) w base t ty e i z s bytes ht hi hz hsize hby hzs hs0 _ n xs hown ⟨g, 0, none⟩ m c2 ys hyl hn h1 (by simp only [maxLen]; omega) hbytes hbase
  obtain ⟨a', c', rfl⟩ : ∃ a' c', v' = .slice a' (n + m) c' := by
    rcases h2.2 with ⟨hv, hn⟩ | ⟨g, cap, cur, hv, _⟩
    · exact ⟨none, 0, by rw [hv, hn]⟩
    · exact ⟨_, cap, hv⟩
  exact blt_of (by rw [BigFrame.builtin_append]; simp only [Sem.run_bind, hr, Result.andThen_ok, Sem.run_pure]) (h a' c' w' h2 h3 h5)
end
end Go.Proofs.YtfjafbbalohmhaaGreatDoor
namespace Go.Proofs.YtfjafbbalohmhaaGreatDoor
open Go.RowKit
set_option maxRecDepth 100000

def octet_width_P1 (K : KV) : KE := cCode Tryz.prog (cd Tryz.f60 [1, 1, 1]) (retK Tryz.prog Tryz.f60.results.toList K) (fun _ _ _ => False) (retK Tryz.prog Tryz.f60.results.toList K)
def octet_width_A1 (K : KV) : KE := cCode Tryz.prog (cd Tryz.f60 [1, 1, 0, 1]) (octet_width_P1 K) (fun _ _ _ => False) (retK Tryz.prog Tryz.f60.results.toList K)
def octet_width_P2 (K : KV) : KE := cCode Tryz.prog (cd Tryz.f60 [1, 1, 0, 1, 0, 1]) (octet_width_P1 K) (fun i => @Bool.rec (fun _ => KE) ((fun _ _ _ => False) i) (octet_width_P1 K) (Nat.beq i 0)) (retK Tryz.prog Tryz.f60.results.toList K)
def octet_width_A2 (K : KV) : KE := cCode Tryz.prog (cd Tryz.f60 [1, 1, 0, 1, 0, 0]) (octet_width_P2 K) (fun i => @Bool.rec (fun _ => KE) ((fun _ _ _ => False) i) (octet_width_P1 K) (Nat.beq i 0)) (retK Tryz.prog Tryz.f60.results.toList K)
def octet_width_P3 (K : KV) : KE := cCode Tryz.prog (cd Tryz.f60 [1, 1, 0, 1, 0, 0, 0, 1]) (octet_width_P2 K) (fun i => @Bool.rec (fun _ => KE) ((fun i => @Bool.rec (fun _ => KE) ((fun _ _ _ => False) i) (octet_width_P1 K) (Nat.beq i 0)) i) (octet_width_P2 K) (Nat.beq i 4)) (retK Tryz.prog Tryz.f60.results.toList K)
def octet_width_A3 (K : KV) : KE := cCode Tryz.prog (cd Tryz.f60 [1, 1, 0, 1, 0, 0, 0, 0]) (octet_width_P3 K) (fun i => @Bool.rec (fun _ => KE) ((fun i => @Bool.rec (fun _ => KE) ((fun _ _ _ => False) i) (octet_width_P1 K) (Nat.beq i 0)) i) (octet_width_P2 K) (Nat.beq i 4)) (retK Tryz.prog Tryz.f60.results.toList K)
def octet_width_P4 (K : KV) : KE := cCode Tryz.prog (cd Tryz.f60 [1, 1, 0, 1, 0, 0, 0, 0, 0, 1]) (octet_width_P3 K) (fun i => @Bool.rec (fun _ => KE) ((fun i => @Bool.rec (fun _ => KE) ((fun i => @Bool.rec (fun _ => KE) ((fun _ _ _ => False) i) (octet_width_P1 K) (Nat.beq i 0)) i) (octet_width_P2 K) (Nat.beq i 4)) i) (octet_width_P3 K) (Nat.beq i 3)) (retK Tryz.prog Tryz.f60.results.toList K)
def octet_width_A4 (K : KV) : KE := cCode Tryz.prog (cd Tryz.f60 [1, 1, 0, 1, 0, 0, 0, 0, 0, 0]) (octet_width_P4 K) (fun i => @Bool.rec (fun _ => KE) ((fun i => @Bool.rec (fun _ => KE) ((fun i => @Bool.rec (fun _ => KE) ((fun _ _ _ => False) i) (octet_width_P1 K) (Nat.beq i 0)) i) (octet_width_P2 K) (Nat.beq i 4)) i) (octet_width_P3 K) (Nat.beq i 3)) (retK Tryz.prog Tryz.f60.results.toList K)
theorem octet_width_k {K : KV} (xc0 : Code) {size0 : Value} {w : World}
    (h : (cCode Tryz.prog xc0 (cCode Tryz.prog (cd Tryz.f60 [1, 1, 1]) (retK Tryz.prog Tryz.f60.results.toList K) (fun _ _ _ => False) (retK Tryz.prog Tryz.f60.results.toList K)) (fun _ _ _ => False) (retK Tryz.prog Tryz.f60.results.toList K)) [size0, undef, (Value.int IntKind.i64 0), (Value.int IntKind.i64 0), size0, undef, undef, undef, undef, undef, undef, undef, undef, undef, undef, undef, undef, undef, undef, undef, undef, undef] w) :
    cCode Tryz.prog (rep [1, 1, 0, 1] xc0 (cd Tryz.f60 [])) (retK Tryz.prog Tryz.f60.results.toList K) (fun _ _ _ => False) (retK Tryz.prog Tryz.f60.results.toList K) [size0, undef, undef, undef, undef, undef, undef, undef, undef, undef, undef, undef, undef, undef, undef, undef, undef, undef, undef, undef, undef, undef] w := Eq.mp (by kernel_rfl) h

theorem octet_width_in {K : KV} {size0 : Value} {w : World}
    (h : (octet_width_A1 K) [size0, undef, (Value.int IntKind.i64 0), (Value.int IntKind.i64 0), size0, undef, undef, undef, undef, undef, undef, undef, undef, undef, undef, undef, undef, undef, undef, undef, undef, undef] w) :
    Gives Tryz.prog 60 #[size0] w K := enter' Tryz.func60 (by kernel_rfl) (Eq.mp (congrArg (fun c => cCode Tryz.prog c (retK Tryz.prog Tryz.f60.results.toList K) (fun _ _ _ => False) (retK Tryz.prog Tryz.f60.results.toList K) [size0, undef, undef, undef, undef, undef, undef, undef, undef, undef, undef, undef, undef, undef, undef, undef, undef, undef, undef, undef, undef, undef] w) (by kernel_rfl : (rep [1, 1, 0, 1] (cd Tryz.f60 [1, 1, 0, 1]) (cd Tryz.f60 [])) = (cd Tryz.f60 []))) (octet_width_k (cd Tryz.f60 [1, 1, 0, 1]) h))
theorem octet_width_go : isGo Tryz.prog 60 := ⟨_, Tryz.func60, by kernel_rfl, by kernel_rfl⟩

theorem octet_width_A1_k {K : KV} (qc0 : KE) (xc0 : Code) {size0 size1 A0 bits3 A1 A2 A3 A4 A5 A6 A7 A8 A9 C0 C1 C2 C3 C4 C5 C6 C7 C8 : Value} {w : World}
    (h : (cCode Tryz.prog xc0 (cCode Tryz.prog (cd Tryz.f60 [1, 1, 0, 1, 0, 1]) qc0 (fun i => @Bool.rec (fun _ => KE) ((fun _ _ _ => False) i) qc0 (Nat.beq i 0)) (retK Tryz.prog Tryz.f60.results.toList K)) (fun i => @Bool.rec (fun _ => KE) ((fun _ _ _ => False) i) qc0 (Nat.beq i 0)) (retK Tryz.prog Tryz.f60.results.toList K)) [size0, size1, A0, bits3, A1, A2, A3, A4, A5, A6, A7, A8, A9, C0, C1, C2, C3, C4, C5, C6, C7, C8] w) :
    cCode Tryz.prog (rep [0, 0] xc0 (cd Tryz.f60 [1, 1, 0, 1])) qc0 (fun _ _ _ => False) (retK Tryz.prog Tryz.f60.results.toList K) [size0, size1, A0, bits3, A1, A2, A3, A4, A5, A6, A7, A8, A9, C0, C1, C2, C3, C4, C5, C6, C7, C8] w := Eq.mp (by kernel_rfl) h

theorem octet_width_A1_r {K : KV} {size0 size1 A0 bits3 A1 A2 A3 A4 A5 A6 A7 A8 A9 C0 C1 C2 C3 C4 C5 C6 C7 C8 : Value} {w : World}
    (h : (octet_width_A2 K) [size0, size1, A0, bits3, A1, A2, A3, A4, A5, A6, A7, A8, A9, C0, C1, C2, C3, C4, C5, C6, C7, C8] w) :
    octet_width_A1 K [size0, size1, A0, bits3, A1, A2, A3, A4, A5, A6, A7, A8, A9, C0, C1, C2, C3, C4, C5, C6, C7, C8] w := by
  delta octet_width_A1
  exact Eq.mp (congrArg (fun c => cCode Tryz.prog c (octet_width_P1 K) (fun _ _ _ => False) (retK Tryz.prog Tryz.f60.results.toList K) [size0, size1, A0, bits3, A1, A2, A3, A4, A5, A6, A7, A8, A9, C0, C1, C2, C3, C4, C5, C6, C7, C8] w) (by kernel_rfl : (rep [0, 0] (cd Tryz.f60 [1, 1, 0, 1, 0, 0]) (cd Tryz.f60 [1, 1, 0, 1])) = (cd Tryz.f60 [1, 1, 0, 1]))) (octet_width_A1_k (octet_width_P1 K) (cd Tryz.f60 [1, 1, 0, 1, 0, 0]) h)

theorem octet_width_A2_k {K : KV} (qc0 : KE) (qc1 : KE) (xc0 : Code) {size0 size1 A0 bits3 A1 A2 A3 A4 A5 A6 A7 A8 A9 C0 C1 C2 C3 C4 C5 C6 C7 C8 : Value} {w : World}
    (h : (cCode Tryz.prog xc0 (cCode Tryz.prog (cd Tryz.f60 [1, 1, 0, 1, 0, 0, 0, 1]) qc0 (fun i => @Bool.rec (fun _ => KE) ((fun i => @Bool.rec (fun _ => KE) ((fun _ _ _ => False) i) qc1 (Nat.beq i 0)) i) qc0 (Nat.beq i 4)) (retK Tryz.prog Tryz.f60.results.toList K)) (fun i => @Bool.rec (fun _ => KE) ((fun i => @Bool.rec (fun _ => KE) ((fun _ _ _ => False) i) qc1 (Nat.beq i 0)) i) qc0 (Nat.beq i 4)) (retK Tryz.prog Tryz.f60.results.toList K)) [size0, size1, A0, bits3, A1, A2, A3, A4, A5, A6, A7, A8, A9, C0, C1, C2, C3, C4, C5, C6, C7, C8] w) :
    cCode Tryz.prog (rep [0, 0] xc0 (cd Tryz.f60 [1, 1, 0, 1, 0, 0])) qc0 (fun i => @Bool.rec (fun _ => KE) ((fun _ _ _ => False) i) qc1 (Nat.beq i 0)) (retK Tryz.prog Tryz.f60.results.toList K) [size0, size1, A0, bits3, A1, A2, A3, A4, A5, A6, A7, A8, A9, C0, C1, C2, C3, C4, C5, C6, C7, C8] w := Eq.mp (by kernel_rfl) h

theorem octet_width_A2_r {K : KV} {size0 size1 A0 bits3 A1 A2 A3 A4 A5 A6 A7 A8 A9 C0 C1 C2 C3 C4 C5 C6 C7 C8 : Value} {w : World}
    (h : (octet_width_A3 K) [size0, size1, A0, bits3, A1, A2, A3, A4, A5, A6, A7, A8, A9, C0, C1, C2, C3, C4, C5, C6, C7, C8] w) :
    octet_width_A2 K [size0, size1, A0, bits3, A1, A2, A3, A4, A5, A6, A7, A8, A9, C0, C1, C2, C3, C4, C5, C6, C7, C8] w := by
  delta octet_width_A2
  exact Eq.mp (congrArg (fun c => cCode Tryz.prog c (octet_width_P2 K) (fun i => @Bool.rec (fun _ => KE) ((fun _ _ _ => False) i) (octet_width_P1 K) (Nat.beq i 0)) (retK Tryz.prog Tryz.f60.results.toList K) [size0, size1, A0, bits3, A1, A2, A3, A4, A5, A6, A7, A8, A9, C0, C1, C2, C3, C4, C5, C6, C7, C8] w) (by kernel_rfl : (rep [0, 0] (cd Tryz.f60 [1, 1, 0, 1, 0, 0, 0, 0]) (cd Tryz.f60 [1, 1, 0, 1, 0, 0])) = (cd Tryz.f60 [1, 1, 0, 1, 0, 0]))) (octet_width_A2_k (octet_width_P2 K) (octet_width_P1 K) (cd Tryz.f60 [1, 1, 0, 1, 0, 0, 0, 0]) h)

theorem octet_width_A3_k {K : KV} (qc0 : KE) (qc1 : KE) (qc2 : KE) (xc0 : Code) {size0 size1 A0 bits3 A1 A2 A3 A4 A5 A6 A7 A8 A9 C0 C1 C2 C3 C4 C5 C6 C7 C8 : Value} {w : World}
    (h : (cCode Tryz.prog xc0 (cCode Tryz.prog (cd Tryz.f60 [1, 1, 0, 1, 0, 0, 0, 0, 0, 1]) qc0 (fun i => @Bool.rec (fun _ => KE) ((fun i => @Bool.rec (fun _ => KE) ((fun i => @Bool.rec (fun _ => KE) ((fun _ _ _ => False) i) qc1 (Nat.beq i 0)) i) qc2 (Nat.beq i 4)) i) qc0 (Nat.beq i 3)) (retK Tryz.prog Tryz.f60.results.toList K)) (fun i => @Bool.rec (fun _ => KE) ((fun i => @Bool.rec (fun _ => KE) ((fun i => @Bool.rec (fun _ => KE) ((fun _ _ _ => False) i) qc1 (Nat.beq i 0)) i) qc2 (Nat.beq i 4)) i) qc0 (Nat.beq i 3)) (retK Tryz.prog Tryz.f60.results.toList K)) [size0, size1, A0, bits3, A1, A2, A3, A4, A5, A6, A7, A8, A9, C0, C1, C2, C3, C4, C5, C6, C7, C8] w) :
    cCode Tryz.prog (rep [0, 0] xc0 (cd Tryz.f60 [1, 1, 0, 1, 0, 0, 0, 0])) qc0 (fun i => @Bool.rec (fun _ => KE) ((fun i => @Bool.rec (fun _ => KE) ((fun _ _ _ => False) i) qc1 (Nat.beq i 0)) i) qc2 (Nat.beq i 4)) (retK Tryz.prog Tryz.f60.results.toList K) [size0, size1, A0, bits3, A1, A2, A3, A4, A5, A6, A7, A8, A9, C0, C1, C2, C3, C4, C5, C6, C7, C8] w := Eq.mp (by kernel_rfl) h

theorem octet_width_A3_r {K : KV} {size0 size1 A0 bits3 A1 A2 A3 A4 A5 A6 A7 A8 A9 C0 C1 C2 C3 C4 C5 C6 C7 C8 : Value} {w : World}
    (h : (octet_width_A4 K) [size0, size1, A0, bits3, A1, A2, A3, A4, A5, A6, A7, A8, A9, C0, C1, C2, C3, C4, C5, C6, C7, C8] w) :
    octet_width_A3 K [size0, size1, A0, bits3, A1, A2, A3, A4, A5, A6, A7, A8, A9, C0, C1, C2, C3, C4, C5, C6, C7, C8] w := by
  delta octet_width_A3
  exact Eq.mp (congrArg (fun c => cCode Tryz.prog c (octet_width_P3 K) (fun i => @Bool.rec (fun _ => KE) ((fun i => @Bool.rec (fun _ => KE) ((fun _ _ _ => False) i) (octet_width_P1 K) (Nat.beq i 0)) i) (octet_width_P2 K) (Nat.beq i 4)) (retK Tryz.prog Tryz.f60.results.toList K) [size0, size1, A0, bits3, A1, A2, A3, A4, A5, A6, A7, A8, A9, C0, C1, C2, C3, C4, C5, C6, C7, C8] w) (by kernel_rfl : (rep [0, 0] (cd Tryz.f60 [1, 1, 0, 1, 0, 0, 0, 0, 0, 0]) (cd Tryz.f60 [1, 1, 0, 1, 0, 0, 0, 0])) = (cd Tryz.f60 [1, 1, 0, 1, 0, 0, 0, 0]))) (octet_width_A3_k (octet_width_P3 K) (octet_width_P1 K) (octet_width_P2 K) (cd Tryz.f60 [1, 1, 0, 1, 0, 0, 0, 0, 0, 0]) h)

theorem octet_width_A4_k {K : KV} (qc0 : KE) (qc1 : KE) (qc2 : KE) (qc3 : KE) {size0 size1 A0 bits3 A1 A2 A3 A4 A5 A6 A7 A8 A9 C0 C1 C2 C3 C4 C5 C6 C7 C8 : Value} {w : World}
    (h : bin Tryz.prog BinOp.eql 3 false true A1 (Value.int IntKind.i64 8) (fun A3 w =>
    cond A3
      (bin Tryz.prog BinOp.add 3 false true bits3 (Value.int IntKind.i64 32) (fun C1 w =>
    qc0 [size0, size1, A0, C1, A1, A3, A3, A4, A5, A6, A7, A8, A9, bits3, C1, C2, C3, C4, C5, C6, C7, C8] w) w)
      (bin Tryz.prog BinOp.eql 3 false true A1 (Value.int IntKind.i64 4) (fun A5 w =>
    cond A5
      (qc0 [size0, size1, A0, bits3, A1, A3, A3, A5, A5, A6, A7, A8, A9, C0, C1, C2, C3, C4, C5, C6, C7, C8] w)
      (bin Tryz.prog BinOp.eql 3 false true A1 (Value.int IntKind.i64 2) (fun A7 w =>
    cond A7
      (qc3 [size0, size1, A0, bits3, A1, A3, A3, A5, A5, A7, A7, A8, A9, C0, C1, C2, C3, C4, C5, C6, C7, C8] w)
      (bin Tryz.prog BinOp.eql 3 false true A1 (Value.int IntKind.i64 1) (fun A9 w =>
    cond A9
      (qc2 [size0, size1, A0, bits3, A1, A3, A3, A5, A5, A7, A7, A9, A9, C0, C1, C2, C3, C4, C5, C6, C7, C8] w)
      (qc1 [size0, size1, A0, bits3, A1, A3, A3, A5, A5, A7, A7, A9, A9, C0, C1, C2, C3, C4, C5, C6, C7, C8] w)) w)) w)) w)) w) :
    cCode Tryz.prog (cd Tryz.f60 [1, 1, 0, 1, 0, 0, 0, 0, 0, 0]) qc0 (fun i => @Bool.rec (fun _ => KE) ((fun i => @Bool.rec (fun _ => KE) ((fun i => @Bool.rec (fun _ => KE) ((fun _ _ _ => False) i) qc1 (Nat.beq i 0)) i) qc2 (Nat.beq i 4)) i) qc3 (Nat.beq i 3)) (retK Tryz.prog Tryz.f60.results.toList K) [size0, size1, A0, bits3, A1, A2, A3, A4, A5, A6, A7, A8, A9, C0, C1, C2, C3, C4, C5, C6, C7, C8] w := Eq.mp (by kernel_rfl) h

theorem octet_width_A4_r {K : KV} {size0 size1 A0 bits3 A1 A2 A3 A4 A5 A6 A7 A8 A9 C0 C1 C2 C3 C4 C5 C6 C7 C8 : Value} {w : World}
    (h : bin Tryz.prog BinOp.eql 3 false true A1 (Value.int IntKind.i64 8) (fun A3 w =>
    cond A3
      (bin Tryz.prog BinOp.add 3 false true bits3 (Value.int IntKind.i64 32) (fun C1 w =>
    (octet_width_P4 K) [size0, size1, A0, C1, A1, A3, A3, A4, A5, A6, A7, A8, A9, bits3, C1, C2, C3, C4, C5, C6, C7, C8] w) w)
      (bin Tryz.prog BinOp.eql 3 false true A1 (Value.int IntKind.i64 4) (fun A5 w =>
    cond A5
      ((octet_width_P4 K) [size0, size1, A0, bits3, A1, A3, A3, A5, A5, A6, A7, A8, A9, C0, C1, C2, C3, C4, C5, C6, C7, C8] w)
      (bin Tryz.prog BinOp.eql 3 false true A1 (Value.int IntKind.i64 2) (fun A7 w =>
    cond A7
      ((octet_width_P3 K) [size0, size1, A0, bits3, A1, A3, A3, A5, A5, A7, A7, A8, A9, C0, C1, C2, C3, C4, C5, C6, C7, C8] w)
      (bin Tryz.prog BinOp.eql 3 false true A1 (Value.int IntKind.i64 1) (fun A9 w =>
    cond A9
      ((octet_width_P2 K) [size0, size1, A0, bits3, A1, A3, A3, A5, A5, A7, A7, A9, A9, C0, C1, C2, C3, C4, C5, C6, C7, C8] w)
      ((octet_width_P1 K) [size0, size1, A0, bits3, A1, A3, A3, A5, A5, A7, A7, A9, A9, C0, C1, C2, C3, C4, C5, C6, C7, C8] w)) w)) w)) w)) w) :
    octet_width_A4 K [size0, size1, A0, bits3, A1, A2, A3, A4, A5, A6, A7, A8, A9, C0, C1, C2, C3, C4, C5, C6, C7, C8] w := by
  delta octet_width_A4
  exact Eq.mp (congrArg (fun c => cCode Tryz.prog c (octet_width_P4 K) (fun i => @Bool.rec (fun _ => KE) ((fun i => @Bool.rec (fun _ => KE) ((fun i => @Bool.rec (fun _ => KE) ((fun _ _ _ => False) i) (octet_width_P1 K) (Nat.beq i 0)) i) (octet_width_P2 K) (Nat.beq i 4)) i) (octet_width_P3 K) (Nat.beq i 3)) (retK Tryz.prog Tryz.f60.results.toList K) [size0, size1, A0, bits3, A1, A2, A3, A4, A5, A6, A7, A8, A9, C0, C1, C2, C3, C4, C5, C6, C7, C8] w) (by kernel_rfl : (cd Tryz.f60 [1, 1, 0, 1, 0, 0, 0, 0, 0, 0]) = (cd Tryz.f60 [1, 1, 0, 1, 0, 0, 0, 0, 0, 0]))) (octet_width_A4_k (octet_width_P4 K) (octet_width_P1 K) (octet_width_P2 K) (octet_width_P3 K) h)

theorem octet_width_P4_k {K : KV} (qc0 : KE) (qc1 : KE) (qc2 : KE) {size0 size1 A0 bits3 A1 A2 A3 A4 A5 A6 A7 A8 A9 C0 C1 C2 C3 C4 C5 C6 C7 C8 : Value} {w : World}
    (h : bin Tryz.prog BinOp.add 3 false true bits3 (Value.int IntKind.i64 16) (fun C3 w =>
    qc0 [size0, size1, A0, C3, A1, A2, A3, A4, A5, A6, A7, A8, A9, C0, C1, bits3, C3, C4, C5, C6, C7, C8] w) w) :
    cCode Tryz.prog (cd Tryz.f60 [1, 1, 0, 1, 0, 0, 0, 0, 0, 1]) qc0 (fun i => @Bool.rec (fun _ => KE) ((fun i => @Bool.rec (fun _ => KE) ((fun i => @Bool.rec (fun _ => KE) ((fun _ _ _ => False) i) qc1 (Nat.beq i 0)) i) qc2 (Nat.beq i 4)) i) qc0 (Nat.beq i 3)) (retK Tryz.prog Tryz.f60.results.toList K) [size0, size1, A0, bits3, A1, A2, A3, A4, A5, A6, A7, A8, A9, C0, C1, C2, C3, C4, C5, C6, C7, C8] w := Eq.mp (by kernel_rfl) h

theorem octet_width_P4_r {K : KV} {size0 size1 A0 bits3 A1 A2 A3 A4 A5 A6 A7 A8 A9 C0 C1 C2 C3 C4 C5 C6 C7 C8 : Value} {w : World}
    (h : bin Tryz.prog BinOp.add 3 false true bits3 (Value.int IntKind.i64 16) (fun C3 w =>
    (octet_width_P3 K) [size0, size1, A0, C3, A1, A2, A3, A4, A5, A6, A7, A8, A9, C0, C1, bits3, C3, C4, C5, C6, C7, C8] w) w) :
    octet_width_P4 K [size0, size1, A0, bits3, A1, A2, A3, A4, A5, A6, A7, A8, A9, C0, C1, C2, C3, C4, C5, C6, C7, C8] w := by
  delta octet_width_P4
  exact Eq.mp (congrArg (fun c => cCode Tryz.prog c (octet_width_P3 K) (fun i => @Bool.rec (fun _ => KE) ((fun i => @Bool.rec (fun _ => KE) ((fun i => @Bool.rec (fun _ => KE) ((fun _ _ _ => False) i) (octet_width_P1 K) (Nat.beq i 0)) i) (octet_width_P2 K) (Nat.beq i 4)) i) (octet_width_P3 K) (Nat.beq i 3)) (retK Tryz.prog Tryz.f60.results.toList K) [size0, size1, A0, bits3, A1, A2, A3, A4, A5, A6, A7, A8, A9, C0, C1, C2, C3, C4, C5, C6, C7, C8] w) (by kernel_rfl : (cd Tryz.f60 [1, 1, 0, 1, 0, 0, 0, 0, 0, 1]) = (cd Tryz.f60 [1, 1, 0, 1, 0, 0, 0, 0, 0, 1]))) (octet_width_P4_k (octet_width_P3 K) (octet_width_P1 K) (octet_width_P2 K) h)

theorem octet_width_P3_k {K : KV} (qc0 : KE) (qc1 : KE) {size0 size1 A0 bits3 A1 A2 A3 A4 A5 A6 A7 A8 A9 C0 C1 C2 C3 C4 C5 C6 C7 C8 : Value} {w : World}
    (h : bin Tryz.prog BinOp.add 3 false true bits3 (Value.int IntKind.i64 8) (fun C5 w =>
    qc0 [size0, size1, A0, C5, A1, A2, A3, A4, A5, A6, A7, A8, A9, C0, C1, C2, C3, bits3, C5, C6, C7, C8] w) w) :
    cCode Tryz.prog (cd Tryz.f60 [1, 1, 0, 1, 0, 0, 0, 1]) qc0 (fun i => @Bool.rec (fun _ => KE) ((fun i => @Bool.rec (fun _ => KE) ((fun _ _ _ => False) i) qc1 (Nat.beq i 0)) i) qc0 (Nat.beq i 4)) (retK Tryz.prog Tryz.f60.results.toList K) [size0, size1, A0, bits3, A1, A2, A3, A4, A5, A6, A7, A8, A9, C0, C1, C2, C3, C4, C5, C6, C7, C8] w := Eq.mp (by kernel_rfl) h

theorem octet_width_P3_r {K : KV} {size0 size1 A0 bits3 A1 A2 A3 A4 A5 A6 A7 A8 A9 C0 C1 C2 C3 C4 C5 C6 C7 C8 : Value} {w : World}
    (h : bin Tryz.prog BinOp.add 3 false true bits3 (Value.int IntKind.i64 8) (fun C5 w =>
    (octet_width_P2 K) [size0, size1, A0, C5, A1, A2, A3, A4, A5, A6, A7, A8, A9, C0, C1, C2, C3, bits3, C5, C6, C7, C8] w) w) :
    octet_width_P3 K [size0, size1, A0, bits3, A1, A2, A3, A4, A5, A6, A7, A8, A9, C0, C1, C2, C3, C4, C5, C6, C7, C8] w := by
  delta octet_width_P3
  exact Eq.mp (congrArg (fun c => cCode Tryz.prog c (octet_width_P2 K) (fun i => @Bool.rec (fun _ => KE) ((fun i => @Bool.rec (fun _ => KE) ((fun _ _ _ => False) i) (octet_width_P1 K) (Nat.beq i 0)) i) (octet_width_P2 K) (Nat.beq i 4)) (retK Tryz.prog Tryz.f60.results.toList K) [size0, size1, A0, bits3, A1, A2, A3, A4, A5, A6, A7, A8, A9, C0, C1, C2, C3, C4, C5, C6, C7, C8] w) (by kernel_rfl : (cd Tryz.f60 [1, 1, 0, 1, 0, 0, 0, 1]) = (cd Tryz.f60 [1, 1, 0, 1, 0, 0, 0, 1]))) (octet_width_P3_k (octet_width_P2 K) (octet_width_P1 K) h)

theorem octet_width_P2_k {K : KV} (qc0 : KE) {size0 size1 A0 bits3 A1 A2 A3 A4 A5 A6 A7 A8 A9 C0 C1 C2 C3 C4 C5 C6 C7 C8 : Value} {w : World}
    (h : bin Tryz.prog BinOp.add 3 false true bits3 (Value.int IntKind.i64 8) (fun C7 w =>
    qc0 [size0, size1, A0, C7, A1, A2, A3, A4, A5, A6, A7, A8, A9, C0, C1, C2, C3, C4, C5, bits3, C7, C8] w) w) :
    cCode Tryz.prog (cd Tryz.f60 [1, 1, 0, 1, 0, 1]) qc0 (fun i => @Bool.rec (fun _ => KE) ((fun _ _ _ => False) i) qc0 (Nat.beq i 0)) (retK Tryz.prog Tryz.f60.results.toList K) [size0, size1, A0, bits3, A1, A2, A3, A4, A5, A6, A7, A8, A9, C0, C1, C2, C3, C4, C5, C6, C7, C8] w := Eq.mp (by kernel_rfl) h

theorem octet_width_P2_r {K : KV} {size0 size1 A0 bits3 A1 A2 A3 A4 A5 A6 A7 A8 A9 C0 C1 C2 C3 C4 C5 C6 C7 C8 : Value} {w : World}
    (h : bin Tryz.prog BinOp.add 3 false true bits3 (Value.int IntKind.i64 8) (fun C7 w =>
    (octet_width_P1 K) [size0, size1, A0, C7, A1, A2, A3, A4, A5, A6, A7, A8, A9, C0, C1, C2, C3, C4, C5, bits3, C7, C8] w) w) :
    octet_width_P2 K [size0, size1, A0, bits3, A1, A2, A3, A4, A5, A6, A7, A8, A9, C0, C1, C2, C3, C4, C5, C6, C7, C8] w := by
  delta octet_width_P2
  exact Eq.mp (congrArg (fun c => cCode Tryz.prog c (octet_width_P1 K) (fun i => @Bool.rec (fun _ => KE) ((fun _ _ _ => False) i) (octet_width_P1 K) (Nat.beq i 0)) (retK Tryz.prog Tryz.f60.results.toList K) [size0, size1, A0, bits3, A1, A2, A3, A4, A5, A6, A7, A8, A9, C0, C1, C2, C3, C4, C5, C6, C7, C8] w) (by kernel_rfl : (cd Tryz.f60 [1, 1, 0, 1, 0, 1]) = (cd Tryz.f60 [1, 1, 0, 1, 0, 1]))) (octet_width_P2_k (octet_width_P1 K) h)

theorem octet_width_P1_k {K : KV} {size0 size1 A0 bits3 A1 A2 A3 A4 A5 A6 A7 A8 A9 C0 C1 C2 C3 C4 C5 C6 C7 C8 : Value} {w : World}
    (h : K bits3 w) :
    cCode Tryz.prog (cd Tryz.f60 [1, 1, 1]) (retK Tryz.prog Tryz.f60.results.toList K) (fun _ _ _ => False) (retK Tryz.prog Tryz.f60.results.toList K) [size0, size1, A0, bits3, A1, A2, A3, A4, A5, A6, A7, A8, A9, C0, C1, C2, C3, C4, C5, C6, C7, C8] w := Eq.mp (by kernel_rfl) h

theorem octet_width_P1_r {K : KV} {size0 size1 A0 bits3 A1 A2 A3 A4 A5 A6 A7 A8 A9 C0 C1 C2 C3 C4 C5 C6 C7 C8 : Value} {w : World}
    (h : K bits3 w) :
    octet_width_P1 K [size0, size1, A0, bits3, A1, A2, A3, A4, A5, A6, A7, A8, A9, C0, C1, C2, C3, C4, C5, C6, C7, C8] w := by
  delta octet_width_P1
  exact Eq.mp (congrArg (fun c => cCode Tryz.prog c (retK Tryz.prog Tryz.f60.results.toList K) (fun _ _ _ => False) (retK Tryz.prog Tryz.f60.results.toList K) [size0, size1, A0, bits3, A1, A2, A3, A4, A5, A6, A7, A8, A9, C0, C1, C2, C3, C4, C5, C6, C7, C8] w) (by kernel_rfl : (cd Tryz.f60 [1, 1, 1]) = (cd Tryz.f60 [1, 1, 1]))) (octet_width_P1_k h)
attribute [irreducible] octet_width_P1 octet_width_A1 octet_width_P2 octet_width_A2 octet_width_P3 octet_width_A3 octet_width_P4 octet_width_A4


def octet_Take_P1 (K : KV) : KE := cCode Tryz.prog (cd Tryz.f45 [1, 1]) (retK Tryz.prog Tryz.f45.results.toList K) (fun _ _ _ => False) (retK Tryz.prog Tryz.f45.results.toList K)
def octet_Take_P2 (K : KV) : KE := cCode Tryz.prog (cd Tryz.f45 [1, 0, 0, 1]) (octet_Take_P1 K) (fun i => @Bool.rec (fun _ => KE) ((fun _ _ _ => False) i) (octet_Take_P1 K) (Nat.beq i 0)) (retK Tryz.prog Tryz.f45.results.toList K)
def octet_Take_A1 (K : KV) : KE := cCode Tryz.prog (cd Tryz.f45 [1, 0, 0, 0, 1]) (octet_Take_P2 K) (fun i => @Bool.rec (fun _ => KE) ((fun _ _ _ => False) i) (octet_Take_P1 K) (Nat.beq i 0)) (retK Tryz.prog Tryz.f45.results.toList K)
def octet_Take_P3 (K : KV) : KE := cCode Tryz.prog (cd Tryz.f45 [1, 1, 1, 1]) (retK Tryz.prog Tryz.f45.results.toList K) (fun _ _ _ => False) (retK Tryz.prog Tryz.f45.results.toList K)
def octet_Take_L1 (K : KV) : KE := cCode Tryz.prog (cd Tryz.f45 [1, 1, 1, 0, 1, 0]) (octet_Take_P3 K) (fun i => @Bool.rec (fun _ => KE) ((fun _ _ _ => False) i) (octet_Take_P3 K) (Nat.beq i 1)) (retK Tryz.prog Tryz.f45.results.toList K)
theorem octet_Take_k {K : KV} (xc0 : Code) {b0 at1 size2 : Value} {w : World}
    (h : call Tryz.prog 60 #[size2] (fun C0 w =>
    bin Tryz.prog BinOp.eql 3 false true C0 (Value.int IntKind.i64 0) (fun C1 w =>
    (cCode Tryz.prog xc0 (cCode Tryz.prog (cd Tryz.f45 [1, 0, 0, 1]) (cCode Tryz.prog (cd Tryz.f45 [1, 1]) (retK Tryz.prog Tryz.f45.results.toList K) (fun _ _ _ => False) (retK Tryz.prog Tryz.f45.results.toList K)) (fun i => @Bool.rec (fun _ => KE) ((fun _ _ _ => False) i) (cCode Tryz.prog (cd Tryz.f45 [1, 1]) (retK Tryz.prog Tryz.f45.results.toList K) (fun _ _ _ => False) (retK Tryz.prog Tryz.f45.results.toList K)) (Nat.beq i 0)) (retK Tryz.prog Tryz.f45.results.toList K)) (fun i => @Bool.rec (fun _ => KE) ((fun _ _ _ => False) i) (cCode Tryz.prog (cd Tryz.f45 [1, 1]) (retK Tryz.prog Tryz.f45.results.toList K) (fun _ _ _ => False) (retK Tryz.prog Tryz.f45.results.toList K)) (Nat.beq i 0)) (retK Tryz.prog Tryz.f45.results.toList K)) (b0::at1::size2::undef::undef::undef::(Value.int IntKind.u64 0)::(Value.int IntKind.i64 0)::(Value.int IntKind.i64 0)::undef::undef::C1::size2::C0::C1::undef::undef::undef::undef::undef::undef::undef::undef::undef::undef::undef::undef::undef::undef::undef::undef::undef::undef::undef::undef::undef::undef::undef::undef::undef::undef::undef::undef::undef::undef::undef::undef::undef::[]) w) w) w) :
    cCode Tryz.prog (rep [1, 0, 0, 0, 1] xc0 (cd Tryz.f45 [])) (retK Tryz.prog Tryz.f45.results.toList K) (fun _ _ _ => False) (retK Tryz.prog Tryz.f45.results.toList K) (b0::at1::size2::undef::undef::undef::undef::undef::undef::undef::undef::undef::undef::undef::undef::undef::undef::undef::undef::undef::undef::undef::undef::undef::undef::undef::undef::undef::undef::undef::undef::undef::undef::undef::undef::undef::undef::undef::undef::undef::undef::undef::undef::undef::undef::undef::undef::undef::[]) w := Eq.mp (by kernel_rfl) h

theorem octet_Take_in {K : KV} {b0 at1 size2 : Value} {w : World}
    (h : call Tryz.prog 60 #[size2] (fun C0 w =>
    bin Tryz.prog BinOp.eql 3 false true C0 (Value.int IntKind.i64 0) (fun C1 w =>
    (octet_Take_A1 K) (b0::at1::size2::undef::undef::undef::(Value.int IntKind.u64 0)::(Value.int IntKind.i64 0)::(Value.int IntKind.i64 0)::undef::undef::C1::size2::C0::C1::undef::undef::undef::undef::undef::undef::undef::undef::undef::undef::undef::undef::undef::undef::undef::undef::undef::undef::undef::undef::undef::undef::undef::undef::undef::undef::undef::undef::undef::undef::undef::undef::undef::[]) w) w) w) :
    Gives Tryz.prog 45 #[b0, at1, size2] w K := enter' Tryz.func45 (by kernel_rfl) (Eq.mp (congrArg (fun c => cCode Tryz.prog c (retK Tryz.prog Tryz.f45.results.toList K) (fun _ _ _ => False) (retK Tryz.prog Tryz.f45.results.toList K) (b0::at1::size2::undef::undef::undef::undef::undef::undef::undef::undef::undef::undef::undef::undef::undef::undef::undef::undef::undef::undef::undef::undef::undef::undef::undef::undef::undef::undef::undef::undef::undef::undef::undef::undef::undef::undef::undef::undef::undef::undef::undef::undef::undef::undef::undef::undef::undef::[]) w) (by kernel_rfl : (rep [1, 0, 0, 0, 1] (cd Tryz.f45 [1, 0, 0, 0, 1]) (cd Tryz.f45 [])) = (cd Tryz.f45 []))) (octet_Take_k (cd Tryz.f45 [1, 0, 0, 0, 1]) h))
theorem octet_Take_go : isGo Tryz.prog 45 := ⟨_, Tryz.func45, by kernel_rfl, by kernel_rfl⟩

section
variable {b0 at1 size2 b3 at4 size5 n6 next7 e8 A6 c10 A8 A9 C0 C1 C2 C3 C4 C5 C6 C7 C8 C9 D0 D1 D2 D3 D4 D5 D6 D7 D8 D9 E0 E1 E2 E3 E4 E5 E6 E7 E8 E9 F0 F1 F2 F3 F4 : Value}
theorem octet_Take_A1_k {K : KV} (qc0 : KE) (qc1 : KE) {w : World}
    (h : cond A8
      (qc0 (b0::at1::size2::b3::at4::size5::n6::next7::e8::A6::c10::A8::A9::C0::C1::C2::C3::C4::C5::C6::C7::C8::C9::D0::D1::D2::D3::D4::D5::D6::D7::D8::D9::E0::E1::E2::E3::E4::E5::E6::E7::E8::E9::F0::F1::F2::F3::F4::[]) w)
      (bin Tryz.prog BinOp.lss 3 false true at1 (Value.int IntKind.i64 0) (fun C3 w =>
      cond C3
        (qc0 (b0::at1::size2::b3::at4::size5::n6::next7::e8::A6::c10::C3::A9::C0::C1::at1::C3::C4::C5::C6::C7::C8::C9::D0::D1::D2::D3::D4::D5::D6::D7::D8::D9::E0::E1::E2::E3::E4::E5::E6::E7::E8::E9::F0::F1::F2::F3::F4::[]) w)
        (blt Tryz.prog Builtin.len #[28] 3 #[false] #[b0] (fun C6 w =>
        bin Tryz.prog BinOp.gtr 3 false false at1 C6 (fun C7 w =>
        qc0 (b0::at1::size2::b3::at4::size5::n6::next7::e8::A6::c10::C7::A9::C0::C1::at1::C3::at1::b0::C6::C7::C8::C9::D0::D1::D2::D3::D4::D5::D6::D7::D8::D9::E0::E1::E2::E3::E4::E5::E6::E7::E8::E9::F0::F1::F2::F3::F4::[]) w) w) w)) w)) :
    cCode Tryz.prog (cd Tryz.f45 [1, 0, 0, 0, 1]) qc0 (fun i => @Bool.rec (fun _ => KE) ((fun _ _ _ => False) i) qc1 (Nat.beq i 0)) (retK Tryz.prog Tryz.f45.results.toList K) (b0::at1::size2::b3::at4::size5::n6::next7::e8::A6::c10::A8::A9::C0::C1::C2::C3::C4::C5::C6::C7::C8::C9::D0::D1::D2::D3::D4::D5::D6::D7::D8::D9::E0::E1::E2::E3::E4::E5::E6::E7::E8::E9::F0::F1::F2::F3::F4::[]) w := Eq.mp (by kernel_rfl) h

theorem octet_Take_A1_r {K : KV} {w : World}
    (h : cond A8
      ((octet_Take_P2 K) (b0::at1::size2::b3::at4::size5::n6::next7::e8::A6::c10::A8::A9::C0::C1::C2::C3::C4::C5::C6::C7::C8::C9::D0::D1::D2::D3::D4::D5::D6::D7::D8::D9::E0::E1::E2::E3::E4::E5::E6::E7::E8::E9::F0::F1::F2::F3::F4::[]) w)
      (bin Tryz.prog BinOp.lss 3 false true at1 (Value.int IntKind.i64 0) (fun C3 w =>
      cond C3
        ((octet_Take_P2 K) (b0::at1::size2::b3::at4::size5::n6::next7::e8::A6::c10::C3::A9::C0::C1::at1::C3::C4::C5::C6::C7::C8::C9::D0::D1::D2::D3::D4::D5::D6::D7::D8::D9::E0::E1::E2::E3::E4::E5::E6::E7::E8::E9::F0::F1::F2::F3::F4::[]) w)
        (blt Tryz.prog Builtin.len #[28] 3 #[false] #[b0] (fun C6 w =>
        bin Tryz.prog BinOp.gtr 3 false false at1 C6 (fun C7 w =>
        (octet_Take_P2 K) (b0::at1::size2::b3::at4::size5::n6::next7::e8::A6::c10::C7::A9::C0::C1::at1::C3::at1::b0::C6::C7::C8::C9::D0::D1::D2::D3::D4::D5::D6::D7::D8::D9::E0::E1::E2::E3::E4::E5::E6::E7::E8::E9::F0::F1::F2::F3::F4::[]) w) w) w)) w)) :
    octet_Take_A1 K (b0::at1::size2::b3::at4::size5::n6::next7::e8::A6::c10::A8::A9::C0::C1::C2::C3::C4::C5::C6::C7::C8::C9::D0::D1::D2::D3::D4::D5::D6::D7::D8::D9::E0::E1::E2::E3::E4::E5::E6::E7::E8::E9::F0::F1::F2::F3::F4::[]) w := by
  delta octet_Take_A1
  exact Eq.mp (congrArg (fun c => cCode Tryz.prog c (octet_Take_P2 K) (fun i => @Bool.rec (fun _ => KE) ((fun _ _ _ => False) i) (octet_Take_P1 K) (Nat.beq i 0)) (retK Tryz.prog Tryz.f45.results.toList K) (b0::at1::size2::b3::at4::size5::n6::next7::e8::A6::c10::A8::A9::C0::C1::C2::C3::C4::C5::C6::C7::C8::C9::D0::D1::D2::D3::D4::D5::D6::D7::D8::D9::E0::E1::E2::E3::E4::E5::E6::E7::E8::E9::F0::F1::F2::F3::F4::[]) w) (by kernel_rfl : (cd Tryz.f45 [1, 0, 0, 0, 1]) = (cd Tryz.f45 [1, 0, 0, 0, 1]))) (octet_Take_A1_k (octet_Take_P2 K) (octet_Take_P1 K) h)

theorem octet_Take_P2_k {K : KV} (qc0 : KE) {w : World}
    (h : cond A8
      (K (Value.tuple #[(Value.int IntKind.u64 0), (Value.int IntKind.i64 0), (Value.int IntKind.i64 1)]) w)
      (blt Tryz.prog Builtin.len #[28] 3 #[false] #[b0] (fun D0 w =>
      bin Tryz.prog BinOp.sub 3 false false D0 at1 (fun D2 w =>
      bin Tryz.prog BinOp.lss 3 false false D2 size2 (fun D4 w =>
      cond D4
        (K (Value.tuple #[(Value.int IntKind.u64 0), (Value.int IntKind.i64 0), (Value.int IntKind.i64 5)]) w)
        (qc0 (b0::at1::size2::b3::at4::size5::n6::next7::e8::A6::c10::A8::A9::C0::C1::C2::C3::C4::C5::C6::C7::D4::b0::D0::at1::D2::size2::D4::D5::D6::D7::D8::D9::E0::E1::E2::E3::E4::E5::E6::E7::E8::E9::F0::F1::F2::F3::F4::[]) w)) w) w) w)) :
    cCode Tryz.prog (cd Tryz.f45 [1, 0, 0, 1]) qc0 (fun i => @Bool.rec (fun _ => KE) ((fun _ _ _ => False) i) qc0 (Nat.beq i 0)) (retK Tryz.prog Tryz.f45.results.toList K) (b0::at1::size2::b3::at4::size5::n6::next7::e8::A6::c10::A8::A9::C0::C1::C2::C3::C4::C5::C6::C7::C8::C9::D0::D1::D2::D3::D4::D5::D6::D7::D8::D9::E0::E1::E2::E3::E4::E5::E6::E7::E8::E9::F0::F1::F2::F3::F4::[]) w := Eq.mp (by kernel_rfl) h

theorem octet_Take_P2_r {K : KV} {w : World}
    (h : cond A8
      (K (Value.tuple #[(Value.int IntKind.u64 0), (Value.int IntKind.i64 0), (Value.int IntKind.i64 1)]) w)
      (blt Tryz.prog Builtin.len #[28] 3 #[false] #[b0] (fun D0 w =>
      bin Tryz.prog BinOp.sub 3 false false D0 at1 (fun D2 w =>
      bin Tryz.prog BinOp.lss 3 false false D2 size2 (fun D4 w =>
      cond D4
        (K (Value.tuple #[(Value.int IntKind.u64 0), (Value.int IntKind.i64 0), (Value.int IntKind.i64 5)]) w)
        ((octet_Take_P1 K) (b0::at1::size2::b3::at4::size5::n6::next7::e8::A6::c10::A8::A9::C0::C1::C2::C3::C4::C5::C6::C7::D4::b0::D0::at1::D2::size2::D4::D5::D6::D7::D8::D9::E0::E1::E2::E3::E4::E5::E6::E7::E8::E9::F0::F1::F2::F3::F4::[]) w)) w) w) w)) :
    octet_Take_P2 K (b0::at1::size2::b3::at4::size5::n6::next7::e8::A6::c10::A8::A9::C0::C1::C2::C3::C4::C5::C6::C7::C8::C9::D0::D1::D2::D3::D4::D5::D6::D7::D8::D9::E0::E1::E2::E3::E4::E5::E6::E7::E8::E9::F0::F1::F2::F3::F4::[]) w := by
  delta octet_Take_P2
  exact Eq.mp (congrArg (fun c => cCode Tryz.prog c (octet_Take_P1 K) (fun i => @Bool.rec (fun _ => KE) ((fun _ _ _ => False) i) (octet_Take_P1 K) (Nat.beq i 0)) (retK Tryz.prog Tryz.f45.results.toList K) (b0::at1::size2::b3::at4::size5::n6::next7::e8::A6::c10::A8::A9::C0::C1::C2::C3::C4::C5::C6::C7::C8::C9::D0::D1::D2::D3::D4::D5::D6::D7::D8::D9::E0::E1::E2::E3::E4::E5::E6::E7::E8::E9::F0::F1::F2::F3::F4::[]) w) (by kernel_rfl : (cd Tryz.f45 [1, 0, 0, 1]) = (cd Tryz.f45 [1, 0, 0, 1]))) (octet_Take_P2_k (octet_Take_P1 K) h)

theorem octet_Take_P1_k {K : KV} {w : World}
    (h : bin Tryz.prog BinOp.add 3 false false at1 size2 (fun D7 w =>
    slc Tryz.prog 28 b0 (some at1) (some D7) none (fun E1 w =>
    blt Tryz.prog Builtin.len #[28] 3 #[false] #[E1] (fun E2 w =>
    (cCode Tryz.prog (cd Tryz.f45 [1, 1, 1, 0, 1, 0]) (cCode Tryz.prog (cd Tryz.f45 [1, 1, 1, 1]) (retK Tryz.prog Tryz.f45.results.toList K) (fun _ _ _ => False) (retK Tryz.prog Tryz.f45.results.toList K)) (fun i => @Bool.rec (fun _ => KE) ((fun _ _ _ => False) i) (cCode Tryz.prog (cd Tryz.f45 [1, 1, 1, 1]) (retK Tryz.prog Tryz.f45.results.toList K) (fun _ _ _ => False) (retK Tryz.prog Tryz.f45.results.toList K)) (Nat.beq i 1)) (retK Tryz.prog Tryz.f45.results.toList K)) (b0::at1::size2::b3::at4::size5::n6::D7::e8::A6::c10::A8::A9::C0::C1::C2::C3::C4::C5::C6::C7::C8::C9::D0::D1::D2::D3::D4::at1::size2::D7::b0::at1::D7::E1::E2::(Value.int IntKind.i64 0)::E4::E5::E6::E7::E8::E9::F0::F1::F2::F3::F4::[]) w) w) w) w) :
    cCode Tryz.prog (cd Tryz.f45 [1, 1]) (retK Tryz.prog Tryz.f45.results.toList K) (fun _ _ _ => False) (retK Tryz.prog Tryz.f45.results.toList K) (b0::at1::size2::b3::at4::size5::n6::next7::e8::A6::c10::A8::A9::C0::C1::C2::C3::C4::C5::C6::C7::C8::C9::D0::D1::D2::D3::D4::D5::D6::D7::D8::D9::E0::E1::E2::E3::E4::E5::E6::E7::E8::E9::F0::F1::F2::F3::F4::[]) w := Eq.mp (by kernel_rfl) h

theorem octet_Take_P1_r {K : KV} {w : World}
    (h : bin Tryz.prog BinOp.add 3 false false at1 size2 (fun D7 w =>
    slc Tryz.prog 28 b0 (some at1) (some D7) none (fun E1 w =>
    blt Tryz.prog Builtin.len #[28] 3 #[false] #[E1] (fun E2 w =>
    (octet_Take_L1 K) (b0::at1::size2::b3::at4::size5::n6::D7::e8::A6::c10::A8::A9::C0::C1::C2::C3::C4::C5::C6::C7::C8::C9::D0::D1::D2::D3::D4::at1::size2::D7::b0::at1::D7::E1::E2::(Value.int IntKind.i64 0)::E4::E5::E6::E7::E8::E9::F0::F1::F2::F3::F4::[]) w) w) w) w) :
    octet_Take_P1 K (b0::at1::size2::b3::at4::size5::n6::next7::e8::A6::c10::A8::A9::C0::C1::C2::C3::C4::C5::C6::C7::C8::C9::D0::D1::D2::D3::D4::D5::D6::D7::D8::D9::E0::E1::E2::E3::E4::E5::E6::E7::E8::E9::F0::F1::F2::F3::F4::[]) w := by
  delta octet_Take_P1
  exact Eq.mp (congrArg (fun c => cCode Tryz.prog c (retK Tryz.prog Tryz.f45.results.toList K) (fun _ _ _ => False) (retK Tryz.prog Tryz.f45.results.toList K) (b0::at1::size2::b3::at4::size5::n6::next7::e8::A6::c10::A8::A9::C0::C1::C2::C3::C4::C5::C6::C7::C8::C9::D0::D1::D2::D3::D4::D5::D6::D7::D8::D9::E0::E1::E2::E3::E4::E5::E6::E7::E8::E9::F0::F1::F2::F3::F4::[]) w) (by kernel_rfl : (cd Tryz.f45 [1, 1]) = (cd Tryz.f45 [1, 1]))) (octet_Take_P1_k h)

end
theorem octet_Take_L1_k {K : KV} (B1 : KE) (qc0 : KE) {b0 at1 size2 b3 at4 size5 n6' next7 e8 A6 A8 A9 C0 C1 C2 C3 C4 C5 C6 C7 C8 C9 D0 D1 D2 D3 D4 D5 D6 D7 D8 D9 E0 E1 E2 E3' F3 F4 : Value} {dd : Nat → Value} {w : World}
    (h : bin Tryz.prog BinOp.lss 3 false false E3' E2 (fun E4 w =>
    cond E4
      (idxA Tryz.prog 28 E1 E3' (fun E5 w =>
    ld Tryz.prog 5 E5 (fun E6 w =>
    bin Tryz.prog BinOp.shl 22 false true n6' (Value.int IntKind.u64 8) (fun E8 w =>
    conv Tryz.prog 5 22 E6 (fun F0 w =>
    bin Tryz.prog BinOp.or 22 false false E8 F0 (fun F1 w =>
    bin Tryz.prog BinOp.add 3 false true E3' (Value.int IntKind.i64 1) (fun F2 w =>
    B1 (b0::at1::size2::b3::at4::size5::F1::next7::e8::A6::E6::A8::A9::C0::C1::C2::C3::C4::C5::C6::C7::C8::C9::D0::D1::D2::D3::D4::D5::D6::D7::D8::D9::E0::E1::E2::F2::E4::E5::E6::n6'::E8::E6::F0::F1::F2::F3::F4::[]) w) w) w) w) w) w) w)
      (qc0 (b0::at1::size2::b3::at4::size5::n6'::next7::e8::A6::(dd 10)::A8::A9::C0::C1::C2::C3::C4::C5::C6::C7::C8::C9::D0::D1::D2::D3::D4::D5::D6::D7::D8::D9::E0::E1::E2::E3'::E4::(dd 38)::(dd 39)::(dd 40)::(dd 41)::(dd 42)::(dd 43)::(dd 44)::(dd 45)::F3::F4::[]) w)) w) :
    cCode Tryz.prog (cd Tryz.f45 [1, 1, 1, 0, 1, 0, 0]) B1 (fun i => @Bool.rec (fun _ => KE) ((fun _ _ _ => False) i) qc0 (Nat.beq i 1)) (retK Tryz.prog Tryz.f45.results.toList K) (b0::at1::size2::b3::at4::size5::n6'::next7::e8::A6::(dd 10)::A8::A9::C0::C1::C2::C3::C4::C5::C6::C7::C8::C9::D0::D1::D2::D3::D4::D5::D6::D7::D8::D9::E0::E1::E2::E3'::(dd 37)::(dd 38)::(dd 39)::(dd 40)::(dd 41)::(dd 42)::(dd 43)::(dd 44)::(dd 45)::F3::F4::[]) w := Eq.mp (by kernel_rfl) h

section
variable {b0 at1 size2 b3 at4 size5 n6 next7 e8 A6 c10 A8 A9 C0 C1 C2 C3 C4 C5 C6 C7 C8 C9 D0 D1 D2 D3 D4 D5 D6 D7 D8 D9 E0 E1 E2 E3 E4 E5 E6 E7 E8 E9 F0 F1 F2 F3 F4 : Value}
theorem octet_Take_L1_r {K : KV} {w : World} (Inv : Value → Value → World → Prop) (μ : Value → Value → World → Nat) (h0 : Inv n6 E3 w)
    (hs : ∀ (n6' E3' : Value) (dd : Nat → Value) (w : World) (m : Nat), Inv n6' E3' w → m = μ n6' E3' w →
    bin Tryz.prog BinOp.lss 3 false false E3' E2 (fun E4 w =>
    cond E4
      (idxA Tryz.prog 28 E1 E3' (fun E5 w =>
    ld Tryz.prog 5 E5 (fun E6 w =>
    bin Tryz.prog BinOp.shl 22 false true n6' (Value.int IntKind.u64 8) (fun E8 w =>
    conv Tryz.prog 5 22 E6 (fun F0 w =>
    bin Tryz.prog BinOp.or 22 false false E8 F0 (fun F1 w =>
    bin Tryz.prog BinOp.add 3 false true E3' (Value.int IntKind.i64 1) (fun F2 w =>
    (Inv F1 F2 w ∧ μ F1 F2 w < m)) w) w) w) w) w) w)
      ((octet_Take_P3 K) (b0::at1::size2::b3::at4::size5::n6'::next7::e8::A6::(dd 10)::A8::A9::C0::C1::C2::C3::C4::C5::C6::C7::C8::C9::D0::D1::D2::D3::D4::D5::D6::D7::D8::D9::E0::E1::E2::E3'::E4::(dd 38)::(dd 39)::(dd 40)::(dd 41)::(dd 42)::(dd 43)::(dd 44)::(dd 45)::F3::F4::[]) w)) w) :
    octet_Take_L1 K (b0::at1::size2::b3::at4::size5::n6::next7::e8::A6::c10::A8::A9::C0::C1::C2::C3::C4::C5::C6::C7::C8::C9::D0::D1::D2::D3::D4::D5::D6::D7::D8::D9::E0::E1::E2::E3::E4::E5::E6::E7::E8::E9::F0::F1::F2::F3::F4::[]) w := by
  refine loop_rule (cd Tryz.f45 [1, 1, 1, 0, 1, 0, 0]) [6, 10, 36, 37, 38, 39, 40, 41, 42, 43, 44, 45] (by kernel_rfl) (fun e2 w2 => Inv (gd e2 6) (gd e2 36) w2) (fun e2 w2 => μ (gd e2 6) (gd e2 36) w2) h0 ?_
  intro e' w' hI
  have h := hs (gd e' 6) (gd e' 36) (fun i => gd e' i) w' _ hI rfl
  have h2 : cCode Tryz.prog (cd Tryz.f45 [1, 1, 1, 0, 1, 0, 0]) (fun e2 w2 => Inv (gd e2 6) (gd e2 36) w2 ∧ μ (gd e2 6) (gd e2 36) w2 < μ (gd e' 6) (gd e' 36) w') (fun i => @Bool.rec (fun _ => KE) ((fun _ _ _ => False) i) (octet_Take_P3 K) (Nat.beq i 1)) (retK Tryz.prog Tryz.f45.results.toList K) (b0::at1::size2::b3::at4::size5::(gd e' 6)::next7::e8::A6::(gd e' 10)::A8::A9::C0::C1::C2::C3::C4::C5::C6::C7::C8::C9::D0::D1::D2::D3::D4::D5::D6::D7::D8::D9::E0::E1::E2::(gd e' 36)::(gd e' 37)::(gd e' 38)::(gd e' 39)::(gd e' 40)::(gd e' 41)::(gd e' 42)::(gd e' 43)::(gd e' 44)::(gd e' 45)::F3::F4::[]) w' := octet_Take_L1_k (fun e2 w2 => Inv (gd e2 6) (gd e2 36) w2 ∧ μ (gd e2 6) (gd e2 36) w2 < μ (gd e' 6) (gd e' 36) w') (octet_Take_P3 K) (Eq.mp (by kernel_rfl) h)
  exact Eq.mp (by kernel_rfl) h2

theorem octet_Take_P3_k {K : KV} {w : World}
    (h : K (Value.tuple #[n6, next7, (Value.int IntKind.i64 0)]) w) :
    cCode Tryz.prog (cd Tryz.f45 [1, 1, 1, 1]) (retK Tryz.prog Tryz.f45.results.toList K) (fun _ _ _ => False) (retK Tryz.prog Tryz.f45.results.toList K) (b0::at1::size2::b3::at4::size5::n6::next7::e8::A6::c10::A8::A9::C0::C1::C2::C3::C4::C5::C6::C7::C8::C9::D0::D1::D2::D3::D4::D5::D6::D7::D8::D9::E0::E1::E2::E3::E4::E5::E6::E7::E8::E9::F0::F1::F2::F3::F4::[]) w := Eq.mp (by kernel_rfl) h

theorem octet_Take_P3_r {K : KV} {w : World}
    (h : K (Value.tuple #[n6, next7, (Value.int IntKind.i64 0)]) w) :
    octet_Take_P3 K (b0::at1::size2::b3::at4::size5::n6::next7::e8::A6::c10::A8::A9::C0::C1::C2::C3::C4::C5::C6::C7::C8::C9::D0::D1::D2::D3::D4::D5::D6::D7::D8::D9::E0::E1::E2::E3::E4::E5::E6::E7::E8::E9::F0::F1::F2::F3::F4::[]) w := by
  delta octet_Take_P3
  exact Eq.mp (congrArg (fun c => cCode Tryz.prog c (retK Tryz.prog Tryz.f45.results.toList K) (fun _ _ _ => False) (retK Tryz.prog Tryz.f45.results.toList K) (b0::at1::size2::b3::at4::size5::n6::next7::e8::A6::c10::A8::A9::C0::C1::C2::C3::C4::C5::C6::C7::C8::C9::D0::D1::D2::D3::D4::D5::D6::D7::D8::D9::E0::E1::E2::E3::E4::E5::E6::E7::E8::E9::F0::F1::F2::F3::F4::[]) w) (by kernel_rfl : (cd Tryz.f45 [1, 1, 1, 1]) = (cd Tryz.f45 [1, 1, 1, 1]))) (octet_Take_P3_k h)
attribute [irreducible] octet_Take_P1 octet_Take_P2 octet_Take_A1 octet_Take_P3 octet_Take_L1

end
end Go.Proofs.YtfjafbbalohmhaaGreatDoor
namespace Go.Proofs.YtfjafbbalohmhaaGreatDoor
open Go.RowKit
set_option maxRecDepth 100000


end Go.Proofs.YtfjafbbalohmhaaGreatDoor
namespace Go.Proofs.YtfjafbbalohmhaaGreatDoor
set_option maxRecDepth 100000
open Go.RowKit

theorem size_u8 : ∀ w, (sizeOf 5).run Tryz.prog w = .ok 1 w := fun _ => by kernel_rfl
theorem info_u8 : (Tryz.prog.info? 5).map (fun i => (i.zero, i.size, i.bytes)) = some (some (.int .u8 0), 1, 1) := by kernel_rfl

theorem oneCell_u8 (l : List UInt8) : ∀ u ∈ l.map u8v, u.oneCell' = true := by
  intro u hu
  obtain ⟨_, _, rfl⟩ := List.mem_map.1 hu
  rfl

def OB (w : World) (B : Nat) (a : Option Addr) (n c : Nat) (l : List UInt8) : Prop := OV w B 5 a n c (l.map u8v)

theorem OB.rb {w : World} {B : Nat} {a : Option Addr} {n c : Nat} {l : List UInt8} (h : OB w B a n c l) : RB w a n c l := OV.rv h
theorem OB.below {w w' : World} {B D : Nat} {a : Option Addr} {n c : Nat} {l : List UInt8} (h : OB w B a n c l) (hb : Below D w w') (hD : w.heap.size ≤ D) : OB w' B a n c l := OV.below h hb hD
theorem OB.nil (w : World) (B : Nat) : OB w B none 0 0 [] := OV.nil w B _
theorem OB.len {w : World} {B : Nat} {a : Option Addr} {n c : Nat} {l : List UInt8} (h : OB w B a n c l) : l.length = n := (OB.rb h).len

section
variable {w : World} {K : KV}

theorem cvIU {a : Int} (h1 : 0 ≤ a) (h2 : a ≤ 18446744073709551615) (h : K (.int .u64 a) w) : conv Tryz.prog 3 22 (.int .i64 a) K w :=
  conv_int Tryz.underlying3 Tryz.underlying22 (by rw [wrap_u64, show a % 18446744073709551616 = a by omega]; exact h)
theorem cvIUint {a : Int} (h1 : 0 ≤ a) (h2 : a ≤ 18446744073709551615) (h : K (.int .u64 a) w) : conv Tryz.prog 3 97 (.int .i64 a) K w :=
  conv_int Tryz.underlying3 Tryz.underlying97 (by rw [wrap_u64, show a % 18446744073709551616 = a by omega]; exact h)
theorem cvUI {a : Int} (h1 : 0 ≤ a) (h2 : a ≤ 9223372036854775807) (h : K (.int .i64 a) w) : conv Tryz.prog 22 3 (.int .u64 a) K w :=
  conv_int Tryz.underlying22 Tryz.underlying3 (by rw [wrap_i64 (by omega) h2]; exact h)
theorem cvU8 {y : Nat} (h : K (u8v (UInt8.ofNat y)) w) : conv Tryz.prog 22 5 (.int .u64 (y : Int)) K w := by
  refine conv_int Tryz.underlying22 Tryz.underlying5 ?_
  have e : Value.int .u8 (IntKind.u8.wrap (y : Int)) = u8v (UInt8.ofNat y) := by
    rw [wrap_u8]
    simp only [u8v, UInt8.toNat_ofNat']
    congr 1
  rw [e]; exact h
theorem cvBU {a : Int} (h1 : 0 ≤ a) (h2 : a ≤ 255) (h : K (.int .u64 a) w) : conv Tryz.prog 5 22 (.int .u8 a) K w :=
  conv_int Tryz.underlying5 Tryz.underlying22 (by rw [wrap_u64, show a % 18446744073709551616 = a by omega]; exact h)

theorem len8 {ty : TypeId} {cs : Array Bool} {av : Option Addr} {n c : Nat} (h : K (.int .i64 (n : Int)) w) : blt Tryz.prog .len #[28] ty cs #[.slice av n c] K w := len_slc Tryz.underlying28 h

theorem app8 {ty : TypeId} {cs : Array Bool} (base : Nat) {av : Option Addr} {n c : Nat} {xs : List UInt8} {a2 : Option Addr} {m c2 : Nat} {ys : List UInt8}
    (hown : OB w base av n c xs) (hy : RB w a2 m c2 ys) (hbytes : n + m ≤ 140737488355328) (hbase : base ≤ w.heap.size)
    (h : ∀ a' c' w', OB w' base a' (n + m) c' (xs ++ ys) → w.grownBy w' (Value.slice av n c).ownBlock → K (.slice a' (n + m) c') w') :
    blt Tryz.prog .append #[28, 28] ty cs #[.slice av n c, .slice a2 m c2] K w := by
  obtain ⟨i, hi, hz, hsz, hby⟩ := info_parts info_u8
  refine app_slc Tryz.underlying28 hi hz hsz hby rfl hown hy (oneCell_u8 ys) (by omega) (by omega) hbase ?_
  intro a' c' w' ho hg
  exact h a' c' w' (by simpa [OB] using ho) hg

theorem bld8 {v : Value} {c : UInt8} (hv : v = u8v c)
    (h : ∀ w', Below w.heap.size w w' → RB w' (some ⟨w.heap.size, 0, none⟩) 1 1 [c] → w'.heap.size = w.heap.size + 1 → K (.slice (some ⟨w.heap.size, 0, none⟩) 1 1) w') : bldS Tryz.prog 28 1 #[(0, v)] K w := by
  obtain ⟨i, hi, hz, hsz, hby⟩ := info_parts info_u8
  subst hv
  exact bldS1 Tryz.underlying28 hi hz hsz rfl rfl fun hr => h _ (below_of_grown (World.grownBy_alloc _ _ none) (Nat.le_refl _) (fun k hk => by cases hk)) hr (by simp)

theorem idx8 {av : Option Addr} {n c : Nat} {k : IntKind} {iv : Int} {l : List UInt8} (hr : RB w av n c l) (h0 : 0 ≤ iv) (h1 : iv < n)
    (h : w.cell? (slotA av iv.toNat) = some (.int .u8 ((l.getD iv.toNat 0).toNat : Int)) → K (.pointer (some (slotA av iv.toNat))) w) :
    idxA Tryz.prog 28 (.slice av n c) (.int k iv) K w := by
  refine idx_slc Tryz.underlying28 size_u8 h0 h1 hr.some_ (h ?_)
  have hl : iv.toNat < l.length := by rw [hr.len]; omega
  rw [hr.cell _ hl]
  simp [List.getD, hl]

theorem ld8 {ad : Addr} {n : Int} (hc : w.cell? ad = some (.int .u8 n)) (h : K (.int .u8 n) w) : ld Tryz.prog 5 (.pointer (some ad)) K w := by
  exact ld_cell (fun _ => by kernel_rfl) hc h

theorem cut8 {av : Option Addr} {n c : Nat} {l m : Nat} {xs : List UInt8} (hr : RB w av n c xs)
    {lo hi : Option Value} (hlo : (lo = none ∧ l = 0) ∨ ∃ k, lo = some (.int k (l : Int))) (hhi : (hi = none ∧ m = n) ∨ ∃ k, hi = some (.int k (m : Int))) (hlm : l ≤ m) (hmn : m ≤ n)
    (h : ∀ a', RB w a' (m - l) (c - l) ((xs.take m).drop l) → K (.slice a' (m - l) (c - l)) w) : slc Tryz.prog 28 (.slice av n c) lo hi none K w := by
  refine slc_of Tryz.underlying28 size_u8 hr hlo hhi hlm hmn fun a' ha => h a' ?_
  simpa [RB, List.map_drop, List.map_take] using ha

theorem str8 {av : Option Addr} {n c : Nat} {l : List UInt8} (hr : RB w av n c l) (h : K (.string (bstr l)) w) : conv Tryz.prog 28 9 (.slice av n c) K w :=
  conv_str Tryz.underlying28 Tryz.underlying5 Tryz.underlying9 hr h
theorem empty8 (base : Nat) (hbase : base ≤ w.heap.size) (h : ∀ a' w', OB w' base a' 0 0 [] → Below w.heap.size w w' → K (.slice a' 0 0) w') : bldS Tryz.prog 28 0 #[] K w := by
  obtain ⟨i, hi, hz, hsz, hby⟩ := info_parts info_u8
  exact bldS0 Tryz.underlying28 hi hsz hbase h

end

/-! ## Slices of byte slices -/
def slv (v : Option Addr × Nat × Nat) : Value := .slice v.1 v.2.1 v.2.2
structure RBB (w : World) (a : Option Addr) (n c : Nat) (vs : List (Option Addr × Nat × Nat)) (L : List (List UInt8)) : Prop where
  row : RV w a n c (vs.map slv)
  len : vs.length = L.length
  each : ∀ (i : Nat) (v : Option Addr × Nat × Nat) (l : List UInt8), vs[i]? = some v → L[i]? = some l → RB w v.1 v.2.1 v.2.2 l

theorem RBB.below {w w' : World} {B : Nat} {a : Option Addr} {n c : Nat} {vs : List (Option Addr × Nat × Nat)} {L : List (List UInt8)} (h : RBB w a n c vs L) (hb : Below B w w') (hB : w.heap.size ≤ B) : RBB w' a n c vs L :=
  ⟨h.row.below hb hB, h.len, fun i v l hv hl => (h.each i v l hv hl).below hb hB⟩
structure OBB (w : World) (B : Nat) (a : Option Addr) (n c : Nat) (vs : List (Option Addr × Nat × Nat)) (L : List (List UInt8)) : Prop where
  row : OV w B 28 a n c (vs.map slv)
  len : vs.length = L.length
  each : ∀ (i : Nat) (v : Option Addr × Nat × Nat) (l : List UInt8), vs[i]? = some v → L[i]? = some l → OB w B v.1 v.2.1 v.2.2 l

theorem OBB.below {w w' : World} {B D : Nat} {a : Option Addr} {n c : Nat} {vs : List (Option Addr × Nat × Nat)} {L : List (List UInt8)} (h : OBB w B a n c vs L) (hb : Below D w w') (hD : w.heap.size ≤ D) : OBB w' B a n c vs L :=
  ⟨h.row.below hb hD, h.len, fun i v l hv hl => (h.each i v l hv hl).below hb hD⟩
theorem OBB.nil (w : World) (B : Nat) : OBB w B none 0 0 [] [] := ⟨OV.nil w B _, rfl, fun i v l h => by simp at h⟩

end Go.Proofs.YtfjafbbalohmhaaGreatDoor
namespace Go.Proofs.YtfjafbbalohmhaaGreatDoor
set_option maxRecDepth 100000
open Go.RowKit
attribute [local irreducible] bin un conv call callV blt slc fldA fld idxA idx lkp mUpd mEnt eSt rng nxt ent ext alc box bld bldS ld sto nilC mkMap mkS ifc pick rdy wts gsel sti cond retM Gives cCode cGrp cSeq cOp

end Go.Proofs.YtfjafbbalohmhaaGreatDoor
namespace Go.Proofs.YtfjafbbalohmhaaGreatDoor
set_option maxRecDepth 100000
open Go.RowKit
attribute [local irreducible] bin un conv call callV blt slc fldA fld idxA idx lkp mUpd mEnt eSt rng nxt ent ext alc box bld bldS ld sto nilC mkMap mkS ifc pick rdy wts gsel sti cond retM Gives cCode cGrp cSeq cOp

def widthOf (k : Int) : Int := if k = 8 then 64 else if k = 4 then 32 else if k = 2 then 16 else if k = 1 then 8 else 0

theorem width_c {k : Int} {w : World} {K : KV} (h : K (.int .i64 (widthOf k)) w) : call Tryz.prog 60 #[.int .i64 k] K w := by
  refine call_of octet_width_go (octet_width_in ?_)
  by_cases h8 : k = 8
  · subst h8; (repeat (first | refine octet_width_P1_r ?_ | refine octet_width_A1_r ?_ | refine octet_width_P2_r ?_ | refine octet_width_A2_r ?_ | refine octet_width_P3_r ?_ | refine octet_width_A3_r ?_ | refine octet_width_P4_r ?_ | refine octet_width_A4_r ?_ | refine bin_eql ?_ | refine add64 (by omega) (by omega) ?_ | refine cond_T ?_)); exact h
  by_cases h4 : k = 4
  · subst h4; (repeat (first | refine octet_width_P1_r ?_ | refine octet_width_A1_r ?_ | refine octet_width_P2_r ?_ | refine octet_width_A2_r ?_ | refine octet_width_P3_r ?_ | refine octet_width_A3_r ?_ | refine octet_width_P4_r ?_ | refine octet_width_A4_r ?_ | refine bin_eql ?_ | refine add64 (by omega) (by omega) ?_ | refine cond_T ?_ | refine cond_F ?_)); exact h
  by_cases h2 : k = 2
  · subst h2; (repeat (first | refine octet_width_P1_r ?_ | refine octet_width_A1_r ?_ | refine octet_width_P2_r ?_ | refine octet_width_A2_r ?_ | refine octet_width_P3_r ?_ | refine octet_width_A3_r ?_ | refine octet_width_A4_r ?_ | refine bin_eql ?_ | refine add64 (by omega) (by omega) ?_ | refine cond_T ?_ | refine cond_F ?_)); exact h
  by_cases h1 : k = 1
  · subst h1; (repeat (first | refine octet_width_P1_r ?_ | refine octet_width_A1_r ?_ | refine octet_width_P2_r ?_ | refine octet_width_A2_r ?_ | refine octet_width_A3_r ?_ | refine octet_width_A4_r ?_ | refine bin_eql ?_ | refine add64 (by omega) (by omega) ?_ | refine cond_T ?_ | refine cond_F ?_)); exact h
  have hw : widthOf k = 0 := by simp [widthOf, *]
  rw [hw] at h
  (repeat (first | refine octet_width_P1_r ?_ | refine octet_width_A1_r ?_ | refine octet_width_A2_r ?_ | refine octet_width_A3_r ?_ | refine octet_width_A4_r ?_ | refine bin_eql ?_ | refine cond_f (by omega) ?_))
  exact h

theorem width_K (K : Nat) (hK : K = 1 ∨ K = 2 ∨ K = 4 ∨ K = 8) : widthOf K = 8 * K := by
  rcases hK with rfl | rfl | rfl | rfl <;> rfl

theorem width_ne {k : Int} (h : widthOf k ≠ 0) : ∃ K : Nat, (K = 1 ∨ K = 2 ∨ K = 4 ∨ K = 8) ∧ k = K := by
  unfold widthOf at h
  by_cases h8 : k = 8
  · exact ⟨8, by simp, h8⟩
  by_cases h4 : k = 4
  · exact ⟨4, by simp, h4⟩
  by_cases h2 : k = 2
  · exact ⟨2, by simp, h2⟩
  by_cases h1 : k = 1
  · exact ⟨1, by simp, h1⟩
  simp [*] at h

def beBytes (n : Nat) : Nat → List UInt8
  | 0 => []
  | k + 1 => UInt8.ofNat (n / 256 ^ k) :: beBytes n k

theorem beBytes_len (x K : Nat) : (beBytes x K).length = K := by
  induction K with
  | zero => rfl
  | succ k ih => simp [beBytes, ih]

theorem beBytes_get (x : Nat) : ∀ (K j : Nat) (h : j < (beBytes x K).length), (beBytes x K)[j] = UInt8.ofNat (x / 256 ^ (K - 1 - j)) := by
  intro K
  induction K with
  | zero => intro j h; simp [beBytes] at h
  | succ k ih =>
    intro j h
    cases j with
    | zero => simp [beBytes]
    | succ j =>
      simp only [beBytes, List.getElem_cons_succ]
      rw [ih]
      congr 2
      congr 1
      omega

theorem beBytes_snoc (x K j : Nat) (h : j < K) : (beBytes x K).take (j + 1) = (beBytes x K).take j ++ [UInt8.ofNat (x / 256 ^ (K - 1 - j))] := by
  have hl : j < (beBytes x K).length := by rw [beBytes_len]; exact h
  rw [List.take_succ_eq_append_getElem hl, beBytes_get]

theorem shr_bytes (x e : Nat) (he : 8 * e ≤ 64) : ((x : Int).fdiv (2 ^ min ((8 * (e : Int))).toNat IntKind.u64.bits)) = ((x / 256 ^ e : Nat) : Int) := by
  have h : (2 : Int) ^ (8 * e) = ((256 ^ e : Nat) : Int) := by rw [Int.pow_mul]; simp
  have hm : min ((8 * (e : Int))).toNat IntKind.u64.bits = 8 * e := by
    have : IntKind.u64.bits = 64 := rfl
    omega
  rw [hm, h, Int.fdiv_eq_ediv_of_nonneg _ (Int.natCast_nonneg _)]
  rfl
def putS (l : List UInt8) (n : Nat) (k : Int) : List UInt8 × Int :=
  if widthOf k = 0 then ([], 1) else if 256 ^ k.toNat ≤ n then ([], 6) else (l ++ beBytes n k.toNat, 0)

def beNat (l : List UInt8) : Nat := l.foldl (fun n c => n * 256 + c.toNat) 0

theorem beNat_snoc (l : List UInt8) (c : UInt8) : beNat (l ++ [c]) = beNat l * 256 + c.toNat := by simp [beNat, List.foldl_append]

theorem beNat_lt (l : List UInt8) : beNat l < 256 ^ l.length := by
  have key : ∀ l : List UInt8, ∀ n k, n < 256 ^ k → l.foldl (fun n c => n * 256 + c.toNat) n < 256 ^ (k + l.length) := by
    intro l
    induction l with
    | nil => intro n k h; simpa using h
    | cons c l ih =>
      intro n k h
      simp only [List.foldl_cons, List.length_cons]
      have hc := c.toNat_lt
      have := ih (n * 256 + c.toNat) (k + 1) (by rw [Nat.pow_succ]; omega)
      rw [show k + (l.length + 1) = k + 1 + l.length by omega]
      exact this
  have := key l 0 0 (by simp)
  simpa [beNat] using this

theorem take_snoc (l : List UInt8) (j : Nat) (h : j < l.length) : l.take (j + 1) = l.take j ++ [l.getD j 0] := by
  rw [List.take_succ_eq_append_getElem h]
  simp [List.getD, h]

def takeS (l : List UInt8) (p k : Int) : Nat × Int × Int :=
  if widthOf k = 0 ∨ p < 0 ∨ (l.length : Int) < p then (0, 0, 1) else if (l.length : Int) - p < k then (0, 0, 5) else (beNat ((l.drop p.toNat).take k.toNat), p + k, 0)

theorem take_c {a : Option Addr} {n c : Nat} {l : List UInt8} {p k : Int} {w : World} {K : KV} (hb : RB w a n c l) (hn : n ≤ 9223372036854775807)
    (h : K (.tuple #[.int .u64 (takeS l p k).1, .int .i64 (takeS l p k).2.1, .int .i64 (takeS l p k).2.2]) w) :
    call Tryz.prog 45 #[.slice a n c, .int .i64 p, .int .i64 k] K w := by
  have hl := hb.len
  refine call_of octet_Take_go (octet_Take_in ?_)
  refine width_c ?_
  refine bin_eql ?_
  by_cases h0 : widthOf k = 0
  · rw [show takeS l p k = (0, 0, 1) by simp [takeS, h0]] at h
    (repeat (first | refine octet_Take_P2_r ?_ | refine octet_Take_A1_r ?_ | refine cond_t (by omega) ?_))
    exact h
  (repeat (first | refine octet_Take_A1_r ?_ | refine bin_lss ?_ | refine cond_f (by omega) ?_))
  by_cases h1 : p < 0
  · rw [show takeS l p k = (0, 0, 1) by simp [takeS, h1]] at h
    (repeat (first | refine octet_Take_P2_r ?_ | refine cond_t (by omega) ?_))
    exact h
  (repeat (first | refine octet_Take_P2_r ?_ | refine bin_gtr ?_ | refine len8 ?_ | refine cond_f (by omega) ?_))
  by_cases h2 : (n : Int) < p
  · rw [show takeS l p k = (0, 0, 1) by simp [takeS, hl, h2]] at h
    (repeat (first | refine cond_t (by omega) ?_))
    exact h
  obtain ⟨N, hN, rfl⟩ := width_ne h0
  obtain ⟨q, rfl⟩ := Int.eq_ofNat_of_zero_le (show 0 ≤ p by omega)
  have hN8 : 1 ≤ N ∧ N ≤ 8 := by omega
  (repeat (first | refine bin_lss ?_ | refine sub64 (by omega) (by omega) ?_ | refine len8 ?_ | refine cond_f (by omega) ?_))
  by_cases h3 : (n : Int) - q < N
  · rw [show takeS l q N = (0, 0, 5) by unfold takeS; rw [if_neg (by simp [hl, h0]; omega), if_pos (by rw [hl]; exact h3)]] at h
    (repeat (first | refine cond_t (by omega) ?_))
    exact h
  have hs : takeS l q N = (beNat ((l.drop q).take N), (q : Int) + N, 0) := by
    unfold takeS
    rw [if_neg (by simp [hl, h0]; omega), if_neg (by rw [hl]; exact h3)]
    simp
  rw [hs] at h
  (repeat (first | refine octet_Take_P1_r ?_ | refine add64 (by omega) (by omega) ?_ | refine cond_f (by omega) ?_))
  rw [show ((q : Int) + (N : Int)) = ((q + N : Nat) : Int) by omega]
  refine cut8 (l := q) (m := q + N) hb (.inr ⟨_, rfl⟩) (.inr ⟨_, rfl⟩) (by omega) (by omega) ?_
  intro a' hr'
  have hx : (l.take (q + N)).drop q = (l.drop q).take N := by rw [List.drop_take]; congr 1; omega
  rw [hx] at hr'
  have hlen := hr'.len
  rw [show q + N - q = N by omega] at *
  (repeat (first | refine len8 ?_))
  refine octet_Take_L1_r (Inv := fun x i wr => ∃ j, j ≤ N ∧ i = .int .i64 (j : Nat) ∧ x = .int .u64 (beNat (((l.drop q).take N).take j) : Nat) ∧ wr = w)
    (μ := fun _ i _ => N - (intOf i).toNat) ⟨0, by omega, by simp, by simp [beNat], rfl⟩ ?_
  rintro _ _ _ w2 m ⟨j, hj, rfl, rfl, rfl⟩ hm
  by_cases hjN : j < N
  · (repeat (first | refine bin_lss ?_ | refine cond_t (by omega) ?_))
    refine idx8 hr' (by omega) (by omega) ?_
    intro hc
    refine ld8 hc ?_
    refine bin_shl (by omega) ?_
    refine conv_int Tryz.underlying5 Tryz.underlying22 ?_
    have hlt := beNat_lt (((l.drop q).take N).take j)
    have hjl : (((l.drop q).take N).take j).length = j := by rw [List.length_take]; omega
    rw [hjl] at hlt
    have hlt2 : beNat (((l.drop q).take N).take j) < 72057594037927936 := by
      have : 256 ^ j ≤ 256 ^ 7 := Nat.pow_le_pow_right (by omega) (by omega)
      omega
    generalize hcc : ((l.drop q).take N).getD (((j : Nat) : Int)).toNat 0 = cc
    have hc256 := cc.toNat_lt
    refine bin_or ?_
    rw [wrap_u64 (cc.toNat : Int), show (cc.toNat : Int) % 18446744073709551616 = ((cc.toNat : Nat) : Int) by omega, or_byte hlt2 (by omega)]
    (repeat (first | refine add64 (by omega) (by omega) ?_))
    have hcc' : ((l.drop q).take N).getD j 0 = cc := by simpa using hcc
    refine ⟨⟨j + 1, by omega, by simp, ?_, rfl⟩, by rw [hm]; simp only [intOf]; omega⟩
    rw [take_snoc _ _ (by omega), beNat_snoc, hcc']
  · have : j = N := by omega
    subst this
    (repeat (first | refine octet_Take_P3_r ?_ | refine bin_lss ?_ | refine cond_f (by omega) ?_))
    rw [List.take_of_length_le (by omega)]
    exact h

end Go.Proofs.YtfjafbbalohmhaaGreatDoor
