/- Laid together: Base Rules Mem Wk Own RowG SOct SClone Types Clone Oct STrc Trc Trc2 Mem2 Mem3 Trc3 SDrl Drl Drl2 Drl3. -/
import Derived.Test.YtfjafbbalohmhaaGreatDoorSh
import Derived.WalkKit
import Derived.WalkSpells
import Derived.WalkLawsBesides
import Derived.KernelRfl
import Derived.Lib.Hide
import Derived.Lib.SlBytesConst
import Derived.Deep.MidRow
import Derived.Great.BuildSlice
import Derived.Maps.AppendAt
import Derived.Test.YtfjafbbalohmhaaGreatDoorChecked
namespace Go.Proofs.YtfjafbbalohmhaaGreatDoor
set_option maxRecDepth 100000
open Go.RowKit

def slotA (a : Option Addr) (i : Nat) : Addr := match a with | some ⟨b, o, _⟩ => ⟨b, o + i, none⟩ | none => default

theorem slotA_some (b o i : Nat) (s : Option Nat) : slotA (some ⟨b, o, s⟩) i = ⟨b, o + i, none⟩ := rfl

structure RV (w : World) (a : Option Addr) (n c : Nat) (xs : List Value) : Prop where
  len : xs.length = n
  cap : n ≤ c
  some_ : 0 < n → ∃ b o, a = some ⟨b, o, none⟩
  nil_ : a = none → n = 0 ∧ c = 0
  cell : ∀ i v, xs[i]? = some v → w.cell? (slotA a i) = some v

theorem RV.blk {w : World} {a : Option Addr} {n c : Nat} {xs : List Value} (h : RV w a n c xs) (i : Nat) (hi : i < n) : (slotA a i).block < w.heap.size := by
  have hl : i < xs.length := by rw [h.len]; exact hi
  exact World.block_lt_of_cell? w _ (h.cell i xs[i] (List.getElem?_eq_getElem hl))

theorem RV.below {w w' : World} {B : Nat} {a : Option Addr} {n c : Nat} {xs : List Value} (h : RV w a n c xs) (hb : Below B w w') (hB : w.heap.size ≤ B) : RV w' a n c xs :=
  ⟨h.len, h.cap, h.some_, h.nil_, fun i v hv => by
    have hlt := World.block_lt_of_cell? w _ (h.cell i v hv)
    rw [hb.cell (p := slotA a i) (Nat.lt_of_lt_of_le hlt hB)]; exact h.cell i v hv⟩

theorem RV.grown {w w' : World} {row : Option Nat} {a : Option Addr} {n c : Nat} {xs : List Value} (h : RV w a n c xs) (hg : w.grownBy w' row) (hne : ∀ i, i < n → row ≠ some (slotA a i).block) : RV w' a n c xs :=
  ⟨h.len, h.cap, h.some_, h.nil_, fun i v hv => by
    have hl : i < n := by rw [← h.len]; exact (List.getElem?_eq_some_iff.1 hv).1
    exact hg.cell (h.cell i v hv) (fun e => hne i hl e.symm)⟩

theorem RV.nil (w : World) : RV w none 0 0 [] := ⟨rfl, Nat.le_refl _, fun h => absurd h (by omega), fun _ => ⟨rfl, rfl⟩, fun i v h => by simp at h⟩

theorem RV.cut {w : World} {a : Option Addr} {n c : Nat} {xs : List Value} (h : RV w a n c xs) (l k m : Nat) (hlk : l ≤ k) (hkm : k ≤ m) (hkn : k ≤ n) (hm : m ≤ c) :
    RV w (if m = l then a else a.map (·.add (l * 1))) (k - l) (m - l) ((xs.take k).drop l) := by
  refine ⟨by simp [h.len]; omega, by omega, ?_, ?_, ?_⟩
  · intro hp
    obtain ⟨b, o, rfl⟩ := h.some_ (by omega)
    by_cases hml : m = l
    · omega
    · rw [if_neg hml]
      exact ⟨b, o + l, by simp [Addr.add]⟩
  · intro hn
    by_cases hml : m = l
    · omega
    · rw [if_neg hml] at hn
      cases a with
      | none => have := h.nil_ rfl; omega
      | some ad => simp at hn
  · intro i v hv
    have hi : i < k - l := by
      have := (List.getElem?_eq_some_iff.1 hv).1
      simp [h.len] at this
      omega
    obtain ⟨b, o, rfl⟩ := h.some_ (by omega)
    rw [if_neg (by omega)]
    have he : ((⟨b, o, none⟩ : Addr).add (l * 1)) = ⟨b, o + l, none⟩ := by unfold Addr.add; split <;> simp_all
    simp only [Option.map_some, he, slotA_some]
    have := h.cell (l + i) v (by rw [← hv, List.getElem?_drop, List.getElem?_take]; rw [if_pos (by omega)])
    rw [slotA_some] at this
    rw [Nat.add_assoc]; exact this

def u8v (c : UInt8) : Value := .int .u8 (c.toNat : Int)

def RB (w : World) (a : Option Addr) (n c : Nat) (l : List UInt8) : Prop := RV w a n c (l.map u8v)

theorem RB.rv {w : World} {a : Option Addr} {n c : Nat} {l : List UInt8} (h : RB w a n c l) : RV w a n c (l.map u8v) := h
theorem RB.len {w : World} {a : Option Addr} {n c : Nat} {l : List UInt8} (h : RB w a n c l) : l.length = n := by simpa using RV.len h
theorem RB.below {w w' : World} {B : Nat} {a : Option Addr} {n c : Nat} {l : List UInt8} (h : RB w a n c l) (hb : Below B w w') (hB : w.heap.size ≤ B) : RB w' a n c l := RV.below h hb hB
theorem RB.cut {w : World} {a : Option Addr} {n c : Nat} {xs : List UInt8} (h : RB w a n c xs) (l k m : Nat) (hlk : l ≤ k) (hkm : k ≤ m) (hkn : k ≤ n) (hm : m ≤ c) :
    RB w (if m = l then a else a.map (·.add (l * 1))) (k - l) (m - l) ((xs.take k).drop l) := by
  have := RV.cut h l k m hlk hkm hkn hm
  simpa [RB, List.map_drop, List.map_take] using this
theorem RB.cell {w : World} {a : Option Addr} {n c : Nat} {l : List UInt8} (h : RB w a n c l) (i : Nat) (hi : i < l.length) : w.cell? (slotA a i) = some (.int .u8 (l[i].toNat : Int)) :=
  RV.cell h i _ (by simp [List.getElem?_eq_getElem hi, u8v])

def OV (w : World) (B : Nat) (E : TypeId) (a : Option Addr) (n c : Nat) (xs : List Value) : Prop := w.ownsRow B E 1 (.slice a n c) n xs

theorem OV.rv {w : World} {B : Nat} {E : TypeId} {a : Option Addr} {n c : Nat} {xs : List Value} (h : OV w B E a n c xs) : RV w a n c xs := by
  have hl : xs.length = n := by simpa using h.1
  rcases h.2 with ⟨hv, hn⟩ | ⟨g, cap, cur, hv, hB, hh, hnc, hm, hs, ht⟩
  · simp only [Value.slice.injEq] at hv
    obtain ⟨rfl, _, rfl⟩ := hv
    subst hn
    have : xs = [] := List.eq_nil_of_length_eq_zero hl
    subst this
    exact RV.nil w
  · simp only [Value.slice.injEq] at hv
    obtain ⟨rfl, _, rfl⟩ := hv
    refine ⟨hl, hnc, fun _ => ⟨g, 0, rfl⟩, fun e => by simp at e, fun i v hi => ?_⟩
    have hlt : i < xs.length := (List.getElem?_eq_some_iff.1 hi).1
    rw [slotA_some, Nat.zero_add, cell_of_row w g i cur E (0, 0) hh]
    rw [← ht] at hi
    rw [List.getElem?_take] at hi
    split at hi
    · simpa using hi
    · cases hi

theorem OV.block {w : World} {B : Nat} {E : TypeId} {a : Option Addr} {n c : Nat} {xs : List Value} (h : OV w B E a n c xs) : ∀ k, (Value.slice a n c).ownBlock = some k → B ≤ k ∧ k < w.heap.size := World.ownsRow.lt h

theorem OV.nil (w : World) (B : Nat) (E : TypeId) : OV w B E none 0 0 [] := World.ownsRow_nil w B E 1

theorem OV.mono {w : World} {B B' : Nat} {E : TypeId} {a : Option Addr} {n c : Nat} {xs : List Value} (h : OV w B E a n c xs) (hB : B' ≤ B) : OV w B' E a n c xs := by
  refine ⟨h.1, ?_⟩
  rcases h.2 with h2 | ⟨g, cap, cur, hv, hb, r⟩
  · exact .inl h2
  · exact .inr ⟨g, cap, cur, hv, Nat.le_trans hB hb, r⟩

theorem OV.below {w w' : World} {B D : Nat} {E : TypeId} {a : Option Addr} {n c : Nat} {xs : List Value} (h : OV w B E a n c xs) (hb : Below D w w') (hD : w.heap.size ≤ D) : OV w' B E a n c xs := by
  refine ⟨h.1, ?_⟩
  rcases h.2 with h2 | ⟨g, cap, cur, hv, hB, hh, r⟩
  · exact .inl h2
  · have hlt : g < w.heap.size := (Array.getElem?_eq_some_iff.1 hh).1
    exact .inr ⟨g, cap, cur, hv, hB, (hb.block g (by omega)).trans hh, r⟩

theorem below_of_grown {w w' : World} {B : Nat} {row : Option Nat} (hg : w.grownBy w' row) (hB : B ≤ w.heap.size) (hr : ∀ k, row = some k → B ≤ k) : Below B w w' :=
  (Below.refl B w).grown hg hB hr

section
variable {P : Program} (w : World)

variable {ops : Array Oper} {rest : List Oper} {a : Act} {Q : Exit → Act → World → Prop} {dst : Option Tmp} {ty : TypeId} {pos : String} {after : Array Edge}

end


theorem bstr_toList (l : List UInt8) : (bstr l).toList = l := by
  simp [bstr]

@[go_sem ↓] theorem binOp_bstr_eql (t : TypeId) (l m : List UInt8) : binOp .eql t (.string (bstr l)) (.string (bstr m)) = pure (.bool (l == m)) := by
  rw [binOp_string_eql, bstr_toList, bstr_toList]
@[go_sem ↓] theorem binOp_bstr_neq (t : TypeId) (l m : List UInt8) : binOp .neq t (.string (bstr l)) (.string (bstr m)) = pure (.bool (!(l == m))) := by
  rw [binOp_string_neq, bstr_toList, bstr_toList]
@[go_sem ↓] theorem binOp_bstr_lss (t : TypeId) (l m : List UInt8) : binOp .lss t (.string (bstr l)) (.string (bstr m)) = pure (.bool (Op.bytesLess l m)) := by
  rw [binOp_string_lss, bstr_toList, bstr_toList]

section
variable {P : Program} (w : World)
variable {ops : Array Oper} {rest : List Oper} {a : Act} {Q : Exit → Act → World → Prop} {dst : Option Tmp} {ty : TypeId} {pos : String} {after : Array Edge}

theorem strOfNums_u8 (l : List UInt8) : strOfNums (l.map fun c => (c.toNat : Int)) = bstr l := by
  simp only [strOfNums, bstr, List.map_map]
  congr 1
  have : ((fun n : Int => UInt8.ofNat n.toNat) ∘ fun c : UInt8 => (c.toNat : Int)) = id := by
    funext c; simp
  rw [this]; simp

theorem run_bytes_str (src e dst : TypeId) (hs : P.underlying src = some (.slice e)) (he : P.underlying e = some (.int .u8)) (hd : P.underlying dst = some .string) {av : Option Addr} {n c : Nat} {l : List UInt8} (h : RB w av n c l) :
    (convert src dst (.slice av n c)).run P w = .ok (.string (bstr l)) w := by
  cases av with
  | none =>
    obtain ⟨rfl, rfl⟩ := RV.nil_ h rfl
    have : l = [] := List.eq_nil_of_length_eq_zero h.len
    subst this
    rw [run_convert_bytes_nil (P := P) w src e hs he 0 0 dst hd]
    rfl
  | some ad =>
    rw [run_convert_bytes_string w src dst e _ n c hs he hd]
    by_cases h0 : n = 0
    · subst h0
      have : l = [] := List.eq_nil_of_length_eq_zero h.len
      subst this
      have hl : (loadCells ad 0).run P w = .ok (([] : List Int).map (Value.int .u8)).toArray w := by simp [loadCells, loadCellsFrom]
      rw [run_bytesToString w _ 0 c [] hl]
      rfl
    · obtain ⟨b, o, hbo⟩ := RV.some_ h (by omega)
      cases hbo
      rw [← run_convert_bytes_string w src dst e _ n c hs he hd]
      rw [run_convert_bytes_arg w src e hs he b o n c (l.map fun c => (c.toNat : Int)) (by simpa using h.len) ?_ dst hd]
      · rw [strOfNums_u8]
      · intro i hi
        have hl : i < l.length := by rw [h.len]; exact hi
        have := h.cell i hl
        rw [slotA_some] at this
        rw [this]
        simp [List.getD, hl]

end
end Go.Proofs.YtfjafbbalohmhaaGreatDoor
namespace Go.Proofs.YtfjafbbalohmhaaGreatDoor
set_option maxRecDepth 100000
open Go.RowKit

theorem wrap_i64 {n : Int} (h1 : -9223372036854775808 ≤ n) (h2 : n ≤ 9223372036854775807) : IntKind.i64.wrap n = n := IntWalk.i64_in n ⟨h1, h2⟩
theorem wrap_u64 (n : Int) : IntKind.u64.wrap n = n % 18446744073709551616 := by simp [IntKind.wrap, IntKind.signed, IntKind.bits]
theorem wrap_u32 (n : Int) : IntKind.u32.wrap n = n % 4294967296 := by simp [IntKind.wrap, IntKind.signed, IntKind.bits]
section
variable {P : Program} {K : KV} {w : World} {t : TypeId} {cx cy : Bool}

theorem bin_of {op : BinOp} {x y v : Value} (hg : (eqG op t cx cy x y).run P w = .ok () w) (hb : (binOp op t x y).run P w = .ok v w) (h : K v w) : bin P op t cx cy x y K w := by
  unfold bin
  refine okV_of (w' := w) (v := v) ?_ h
  simp only [Sem.run_bind, hg, Result.andThen_ok, hb]

theorem eqG_int (op : BinOp) (k k' : IntKind) (a b : Int) : (eqG op t cx cy (.int k a) (.int k' b)).run P w = .ok () w := by
  unfold eqG eqGuard; cases op <;> simp [Sem.run_pure]
variable {k : IntKind} {a b : Int}
theorem bin_eql (h : K (.bool (decide (a = b))) w) : bin P .eql t cx cy (.int k a) (.int k b) K w := by
  refine bin_of (eqG_int ..) ?_ h
  have : (a == b) = decide (a = b) := by by_cases hh : a = b <;> simp [hh]
  simp [binOp, Op.intCmp, Sem.run_pure, this]
theorem bin_neq (h : K (.bool (decide (a ≠ b))) w) : bin P .neq t cx cy (.int k a) (.int k b) K w := by
  refine bin_of (eqG_int ..) ?_ h
  have : (a != b) = decide (a ≠ b) := by by_cases hh : a = b <;> simp [hh]
  simp only [binOp, Op.intCmp, ne_eq, not_true_eq_false, if_false, Sem.run_pure, this]
theorem bin_lss (h : K (.bool (decide (a < b))) w) : bin P .lss t cx cy (.int k a) (.int k b) K w := by
  refine bin_of (eqG_int ..) ?_ h
  simp [binOp, Op.intCmp, Sem.run_pure]
theorem bin_leq (h : K (.bool (decide (a ≤ b))) w) : bin P .leq t cx cy (.int k a) (.int k b) K w := by
  refine bin_of (eqG_int ..) ?_ h
  simp [binOp, Op.intCmp, Sem.run_pure]
theorem bin_gtr (h : K (.bool (decide (b < a))) w) : bin P .gtr t cx cy (.int k a) (.int k b) K w := by
  refine bin_of (eqG_int ..) ?_ h
  simp [binOp, Op.intCmp, Sem.run_pure]
theorem bin_geq (h : K (.bool (decide (b ≤ a))) w) : bin P .geq t cx cy (.int k a) (.int k b) K w := by
  refine bin_of (eqG_int ..) ?_ h
  simp [binOp, Op.intCmp, Sem.run_pure]
theorem bin_add (h : K (.int k (k.wrap (a + b))) w) : bin P .add t cx cy (.int k a) (.int k b) K w := by
  refine bin_of (eqG_int ..) ?_ h
  simp [binOp, Op.intArith, Sem.run_pure]
theorem bin_sub (h : K (.int k (k.wrap (a - b))) w) : bin P .sub t cx cy (.int k a) (.int k b) K w := by
  refine bin_of (eqG_int ..) ?_ h
  simp [binOp, Op.intArith, Sem.run_pure]
theorem bin_mul (h : K (.int k (k.wrap (a * b))) w) : bin P .mul t cx cy (.int k a) (.int k b) K w := by
  refine bin_of (eqG_int ..) ?_ h
  simp [binOp, Op.intArith, Sem.run_pure]
theorem add64 (h1 : -9223372036854775808 ≤ a + b) (h2 : a + b ≤ 9223372036854775807) (h : K (.int .i64 (a + b)) w) : bin P .add t cx cy (.int .i64 a) (.int .i64 b) K w :=
  bin_add (by rw [wrap_i64 h1 h2]; exact h)
theorem sub64 (h1 : -9223372036854775808 ≤ a - b) (h2 : a - b ≤ 9223372036854775807) (h : K (.int .i64 (a - b)) w) : bin P .sub t cx cy (.int .i64 a) (.int .i64 b) K w :=
  bin_sub (by rw [wrap_i64 h1 h2]; exact h)
theorem bin_rem (hb : b ≠ 0) (h : K (.int k (a.tmod b)) w) : bin P .rem t cx cy (.int k a) (.int k b) K w := by
  refine bin_of (eqG_int ..) ?_ h
  simp [binOp, Op.intDiv, Sem.run_pure, hb]
theorem bin_shr {k' : IntKind} (hb : 0 ≤ b) (h : K (.int k (a.fdiv (2 ^ (min b.toNat k.bits)))) w) : bin P .shr t cx cy (.int k a) (.int k' b) K w := by
  refine bin_of (eqG_int ..) ?_ h
  have : ¬ b < 0 := by omega
  simp [binOp, Op.shift, Sem.run_pure, this]
def bitsOp (op : BinOp) (k : IntKind) (x y : Int) : Int :=
  let a := BitVec.ofInt k.bits x
  let b := BitVec.ofInt k.bits y
  match op with
  | .and => k.wrap (a &&& b).toNat
  | .or => k.wrap (a ||| b).toNat
  | .xor => k.wrap (a ^^^ b).toNat
  | _ => k.wrap (a &&& ~~~b).toNat
theorem bin_and (h : K (.int k (bitsOp .and k a b)) w) : bin P .and t cx cy (.int k a) (.int k b) K w := by
  refine bin_of (eqG_int ..) ?_ h
  simp [binOp, Op.intBits, Sem.run_pure, bitsOp]
theorem bin_xor (h : K (.int k (bitsOp .xor k a b)) w) : bin P .xor t cx cy (.int k a) (.int k b) K w := by
  refine bin_of (eqG_int ..) ?_ h
  simp [binOp, Op.intBits, Sem.run_pure, bitsOp]
theorem un_not {x : Bool} (h : K (.bool (!x)) w) : un P .not (.bool x) K w := by
  unfold un; exact okV_of (by simp [Op.unary, Sem.run_pure]) h
theorem un_com (h : K (.int k (bitsOp .xor k (if k.signed then -1 else k.max) a)) w) : un P .xor (.int k a) K w := by
  unfold un; exact okV_of (by simp only [Op.unary, Op.intBits, Sem.run_pure]; rfl) h

theorem conv_int {s d : TypeId} {k' : IntKind} {ts : TypeDesc} (hs : P.underlying s = some ts) (hd : P.underlying d = some (.int k')) (h : K (.int k' (k'.wrap a)) w) : conv P s d (.int k a) K w := by
  unfold conv
  refine okV_of (w' := w) ?_ h
  cases ts <;> simp [convert, run_underlying hs, run_underlying hd, Conv.intToInt, Sem.run_pure]

theorem conv_str {s d e : TypeId} (hs : P.underlying s = some (.slice e)) (he : P.underlying e = some (.int .u8)) (hd : P.underlying d = some .string) {av : Option Addr} {n c : Nat} {l : List UInt8} (hr : RB w av n c l)
    (h : K (.string (bstr l)) w) : conv P s d (.slice av n c) K w := by
  unfold conv
  exact okV_of (run_bytes_str w s e d hs he hd hr) h

theorem ext_of {vs : Array Value} {i : Nat} {v : Value} (hv : vs[i]? = some v) (h : K v w) : ext P (.tuple vs) i K w := by
  unfold ext
  exact okV_of (by simp [Instr.extract, hv, Sem.run_pure]) h

theorem ext_a {a b : Value} (h : K a w) : ext P (.tuple #[a, b]) 0 K w := ext_of rfl h
theorem ext_b {a b : Value} (h : K b w) : ext P (.tuple #[a, b]) 1 K w := ext_of rfl h
theorem pick_t {x y : Value} {p : Prop} [Decidable p] (hp : p) (h : K x w) : pick (.bool (decide p)) x y K w := ⟨_, rfl, by simp [hp, h]⟩
theorem pick_f {x y : Value} {p : Prop} [Decidable p] (hp : ¬ p) (h : K y w) : pick (.bool (decide p)) x y K w := ⟨_, rfl, by simp [hp, h]⟩
theorem pick_T {x y : Value} (h : K x w) : pick (.bool true) x y K w := ⟨_, rfl, h⟩
theorem pick_F {x y : Value} (h : K y w) : pick (.bool false) x y K w := ⟨_, rfl, h⟩

theorem cond_t {p : Prop} [Decidable p] {A B : Prop} (hp : p) (h : A) : cond (.bool (decide p)) A B := ⟨_, rfl, fun _ => h, fun hh => absurd hp (by simpa using hh)⟩
theorem cond_f {p : Prop} [Decidable p] {A B : Prop} (hp : ¬ p) (h : B) : cond (.bool (decide p)) A B := ⟨_, rfl, fun hh => absurd (by simpa using hh) hp, fun _ => h⟩
theorem cond_T {A B : Prop} (h : A) : cond (.bool true) A B := ⟨_, rfl, fun _ => h, (fun hh => by cases hh)⟩
theorem cond_F {A B : Prop} (h : B) : cond (.bool false) A B := ⟨_, rfl, (fun hh => by cases hh), fun _ => h⟩
theorem sti_of {s : KV → World → Prop} {k : KV} {v : Value} (h : ∀ K : KV, K v w → s K w) (hk : k v w) : sti s k w := ⟨v, h _ ⟨rfl, rfl⟩, hk⟩

variable {A B : (List Value → World → Prop) → Prop} {KL : List Value → World → Prop}
theorem gsel_t {v : Value} {want : Bool} (hv : v = .bool want) (h : A KL) : gsel v want A B KL := ⟨fun _ => h, fun hh => absurd (by rw [hv]; rfl) hh⟩
theorem gsel_f {v : Value} {want : Bool} (hv : asB v ≠ some want) (h : B KL) : gsel v want A B KL := ⟨fun hh => absurd hh hv, fun _ => h⟩
theorem gsel_pt {p : Prop} [Decidable p] (hp : p) (h1 : A KL) : gsel (.bool (decide p)) true A B KL := gsel_t (by simp [hp]) h1
theorem gsel_pf {p : Prop} [Decidable p] (hp : ¬ p) (h1 : B KL) : gsel (.bool (decide p)) true A B KL := gsel_f (by simp [asB, hp]) h1
theorem gsel_nt {p : Prop} [Decidable p] (hp : p) (h1 : B KL) : gsel (.bool (decide p)) false A B KL := gsel_f (by simp [asB, hp]) h1
theorem gsel_nf {p : Prop} [Decidable p] (hp : ¬ p) (h1 : A KL) : gsel (.bool (decide p)) false A B KL := gsel_t (by simp [hp]) h1
theorem gsel_T (h1 : A KL) : gsel (.bool true) true A B KL := gsel_t rfl h1
theorem gsel_Tn (h1 : B KL) : gsel (.bool true) false A B KL := gsel_f (by simp [asB]) h1
theorem gsel_Fn (h1 : A KL) : gsel (.bool false) false A B KL := gsel_t rfl h1
theorem gsel_F (h1 : B KL) : gsel (.bool false) true A B KL := gsel_f (by simp [asB]) h1

theorem call_of {f : FuncId} {args : Array Value} (hg : isGo P f) (h : Gives P f args w K) : call P f args K w := ⟨hg, h⟩

theorem blt_of {bi : Builtin} {ats : Array TypeId} {ty : TypeId} {cs : Array Bool} {args : Array Value} {v : Value} {w' : World} (hr : (builtin bi ats ty cs args).run P w = .ok (.value v) w') (h : K v w') : blt P bi ats ty cs args K w := by
  unfold blt; rw [hr]; exact h

theorem len_slc {e ty : TypeId} {cs : Array Bool} {av : Option Addr} {n c : Nat} (ht : P.underlying t = some (.slice e)) (h : K (.int .i64 (n : Int)) w) : blt P .len #[t] ty cs #[.slice av n c] K w :=
  blt_of (by rw [BigFrame.builtin_len]; simp [Builtin.len_, run_underlying ht, Sem.run_pure, goInt]) h
theorem idx_slc {e : TypeId} (ht : P.underlying t = some (.slice e)) (hs : ∀ w, (sizeOf e).run P w = .ok 1 w) {av : Option Addr} {n c : Nat} {iv : Int}
    (h0 : 0 ≤ iv) (h1 : iv < n) (hsome : 0 < n → ∃ b o, av = some ⟨b, o, none⟩) (h : K (.pointer (some (slotA av iv.toNat))) w) : idxA P t (.slice av n c) (.int k iv) K w := by
  obtain ⟨b, o, rfl⟩ := hsome (by omega)
  have he : ((⟨b, o, none⟩ : Addr).add iv.toNat) = ⟨b, o + iv.toNat, none⟩ := by unfold Addr.add; split <;> simp_all
  unfold idxA
  refine okV_of (w' := w) ?_ h
  simp only [Instr.indexAt, asIntOf, Sem.run_bind, Sem.run_pure, Result.andThen_ok, run_underlying ht, hs, h0, h1, and_self, if_true, Nat.mul_one, he]
  rfl

theorem ld_of {ad : Addr} {v : Value} (hr : (loadVar t ad).run P w = .ok v w) (h : K v w) : ld P t (.pointer (some ad)) K w := by
  unfold ld
  exact okV_of (by simp only [Instr.loadAt, Instr.sureAddr, Sem.run_bind, Sem.run_pure, Result.andThen_ok, hr]) h

theorem ld_cell {ad : Addr} {v : Value} (ha : ∀ w, (isAgg t).run P w = .ok false w) (hc : w.cell? ad = some v) (h : K v w) : ld P t (.pointer (some ad)) K w := by
  refine ld_of ?_ h
  simp [loadVar, Sem.run_bind, ha, load, hc, Sem.run]

theorem sto_cell {ad : Addr} {v u : Value} (hs : ∀ w, (sizeOf t).run P w = .ok 1 w) (hv : v.oneCell' = true) (hv2 : v.cells = #[v]) (hc : w.cell? ad = some u) (hf : w.frozen? ad = false) (hsp : ad.spot = none)
    (h : K undef (w.setCell ad v)) : sto P t (.pointer (some ad)) v K w := by
  unfold sto
  have e0 : ad.add 0 = ad := rfl
  refine okU_of (w' := w.setCell ad v) (u := ()) ?_ h
  simp [Instr.storeAt, Instr.sureAddr, storeVar, Sem.run_bind, hs, hv2, storeCells, store, e0, hc, hf]
  cases v <;> simp_all [Value.oneCell', Sem.run]

end
end Go.Proofs.YtfjafbbalohmhaaGreatDoor
namespace Go.Proofs.YtfjafbbalohmhaaGreatDoor
set_option maxRecDepth 100000
open Go.RowKit

def blk (w : World) (b : Nat) (E : TypeId) (cs : List Value) : Prop := w.heap[b]? = some (.cells cs.toArray E (0, 0))

theorem blk.lt {w : World} {b : Nat} {E : TypeId} {cs : List Value} (h : blk w b E cs) : b < w.heap.size := (Array.getElem?_eq_some_iff.1 h).1
theorem blk.ne {w : World} {b b' : Nat} {E E' : TypeId} {cs cs' : List Value} (h : blk w b E cs) (h' : blk w b' E' cs') (hE : E ≠ E') : b ≠ b' := by
  rintro rfl
  unfold blk at *
  rw [h] at h'
  simp only [Option.some.injEq, Obj.cells.injEq] at h'
  exact hE h'.2.1
theorem blk.cell {w : World} {b : Nat} {E : TypeId} {cs : List Value} (h : blk w b E cs) (o : Nat) : w.cell? ⟨b, o, none⟩ = cs[o]? := by
  unfold World.cell?
  rw [h]; simp
theorem blk.frozen {w : World} {b : Nat} {E : TypeId} {cs : List Value} (h : blk w b E cs) (o : Nat) : w.frozen? ⟨b, o, none⟩ = false := by
  unfold World.frozen?
  rw [h]; simp

structure Keep (T : List TypeId) (B : Nat) (w w' : World) : Prop where
  os : w'.os = w.os
  tape : w'.tape = w.tape
  output : w'.output = w.output
  size : w.heap.size ≤ w'.heap.size
  block : ∀ (k : Nat) (o : Obj), w.heap[k]? = some o → (k < B ∨ ∀ cs E z, o = .cells cs E z → E ∉ T) → w'.heap[k]? = some o

theorem Keep.refl (T : List TypeId) (B : Nat) (w : World) : Keep T B w w := ⟨rfl, rfl, rfl, Nat.le_refl _, fun _ _ h _ => h⟩
theorem Keep.trans {T : List TypeId} {B : Nat} {a b c : World} (h : Keep T B a b) (k : Keep T B b c) : Keep T B a c :=
  ⟨k.os.trans h.os, k.tape.trans h.tape, k.output.trans h.output, Nat.le_trans h.size k.size, fun i o ho hk => k.block i o (h.block i o ho hk) hk⟩
theorem Keep.mono {T T' : List TypeId} {B B' : Nat} {w w' : World} (h : Keep T B w w') (hT : ∀ t ∈ T, t ∈ T') (hB : B' ≤ B) : Keep T' B' w w' :=
  ⟨h.os, h.tape, h.output, h.size, fun k o ho hk => h.block k o ho (hk.elim (fun h => .inl (Nat.lt_of_lt_of_le h hB)) (fun h => .inr fun cs E z e hm => h cs E z e (hT E hm)))⟩
theorem Keep.of {T : List TypeId} {B : Nat} {w w' : World} (h : Below w.heap.size w w') : Keep T B w w' :=
  ⟨h.os, h.tape, h.output, h.size, fun k o ho _ => by rw [h.block k (Array.getElem?_eq_some_iff.1 ho).1]; exact ho⟩
theorem Keep.below {T : List TypeId} {B : Nat} {w w' : World} (h : Keep T B w w') (hB : B ≤ w.heap.size) : Below B w w' :=
  ⟨h.os, h.tape, h.output, h.size, fun k hk => by
    have hk' : k < w.heap.size := by omega
    rw [h.block k _ (Array.getElem?_eq_getElem hk') (.inl hk), Array.getElem?_eq_getElem hk']⟩
theorem Keep.drew {T : List TypeId} {B : Nat} {a w : World} (h : Keep T B a w) : Keep T B a w.drew := ⟨h.os, h.tape, h.output, h.size, h.block⟩
theorem Keep.blk {T : List TypeId} {B : Nat} {w w' : World} {b : Nat} {E : TypeId} {cs : List Value} (h : Keep T B w w') (hb : blk w b E cs) (hE : b < B ∨ E ∉ T) : blk w' b E cs :=
  h.block _ _ hb (hE.imp id fun h cs E z e => by cases e; exact h)
theorem below_blk {B : Nat} {w w' : World} {b : Nat} {E : TypeId} {cs : List Value} (h : Below B w w') (hb : blk w b E cs) (hB : b < B) : blk w' b E cs := by
  unfold Go.Proofs.YtfjafbbalohmhaaGreatDoor.blk; rw [h.block b hB]; exact hb
theorem blk.drew {w : World} {b : Nat} {E : TypeId} {cs : List Value} (h : blk w b E cs) : blk w.drew b E cs := h

structure Oth (b : Nat) (w w' : World) : Prop where
  os : w'.os = w.os
  tape : w'.tape = w.tape
  output : w'.output = w.output
  size : w'.heap.size = w.heap.size
  other : ∀ k, k ≠ b → w'.heap[k]? = w.heap[k]?

theorem Oth.blk {b k : Nat} {w w' : World} {E : TypeId} {cs : List Value} (h : Oth b w w') (hb : blk w k E cs) (hk : k ≠ b) : blk w' k E cs := by
  unfold Go.Proofs.YtfjafbbalohmhaaGreatDoor.blk; rw [h.other k hk]; exact hb
theorem Oth.keep {T : List TypeId} {B b : Nat} {w w' : World} {E : TypeId} {cs : List Value} (h : Oth b w w') (hb : Go.Proofs.YtfjafbbalohmhaaGreatDoor.blk w b E cs) (hE : E ∈ T) (hB : B ≤ b) : Keep T B w w' :=
  ⟨h.os, h.tape, h.output, by rw [h.size]; exact Nat.le_refl _, fun k o ho hk => by
    have : k ≠ b := by
      rintro rfl
      rcases hk with hk | hk
      · omega
      · unfold Go.Proofs.YtfjafbbalohmhaaGreatDoor.blk at hb
        rw [hb] at ho
        cases ho
        exact hk _ _ _ rfl hE
    rw [h.other k this]; exact ho⟩
theorem Oth.below {b : Nat} {w w' : World} (h : Oth b w w') : Below b w w' :=
  ⟨h.os, h.tape, h.output, by rw [h.size]; exact Nat.le_refl _, fun k hk => h.other k (by omega)⟩

theorem Keep.grown {T : List TypeId} {B B2 : Nat} {w w' : World} {E : TypeId} {a : Option Addr} {n c : Nat} {xs : List Value} {s : Nat} (hg : w.grownBy w' (Value.slice a n c).ownBlock) (ho : w.ownsRow B2 E s (.slice a n c) n xs) (hE : E ∈ T) (hB : B ≤ B2) : Keep T B w w' :=
  ⟨hg.os, hg.tape, hg.output, hg.size, fun k o hk h => by
    have hlt : k < w.heap.size := (Array.getElem?_eq_some_iff.1 hk).1
    rw [hg.block k hlt ?_]; exact hk
    rcases ho.2 with ⟨hv, _⟩ | ⟨g, cap, cur, hv, hb, hh, _⟩
    · cases hv; simp [Value.ownBlock]
    · cases hv
      simp only [Value.ownBlock, ne_eq, Option.some.injEq]
      rintro rfl
      rcases h with h | h
      · omega
      · rw [hh] at hk; cases hk; exact h _ _ _ rfl hE⟩

section
variable {P : Program} {K : KV} {w : World} {t : TypeId} {b o : Nat} {E : TypeId} {cs : List Value}

theorem add_p (b o j : Nat) : (⟨b, o, none⟩ : Addr).add j = ⟨b, o + j, none⟩ := Addr.add_mid b o j

theorem nilC_p {a : Addr} (h : K (.pointer (some a)) w) : nilC (.pointer (some a)) K w := h
theorem ld1 {v : Value} (ha : ∀ w, (isAgg t).run P w = .ok false w) (hb : blk w b E cs) (ho : cs[o]? = some v) (h : K v w) : ld P t (.pointer (some ⟨b, o, none⟩)) K w :=
  ld_cell ha (by rw [hb.cell, ho]) h

theorem ldA {n : Nat} {vs : List Value} {d : TypeDesc} (hu : P.underlying t = some d) (hd : d.isRow = true) (hi : (P.info? t).map (·.size) = some n) (hb : blk w b E cs) (hv : (cs.drop o).take n = vs) (hn : vs.length = n)
    (h : K (.agg vs.toArray) w) : ld P t (.pointer (some ⟨b, o, none⟩)) K w := by
  refine ld_of (run_loadVar_mid w b o t vs d ?_ hu hd (by rw [hn]; exact hi)) h
  intro j v hj
  rw [hb.cell]
  subst hv
  have hlt := (List.getElem?_eq_some_iff.1 hj).1
  rw [List.getElem?_take] at hj
  split at hj
  · rw [List.getElem?_drop] at hj; exact hj
  · cases hj

theorem sto1 {v : Value} (hs : ∀ w, (sizeOf t).run P w = .ok 1 w) (hb : blk w b E cs) (ho : o < cs.length) (hv : v.oneCell' = true)
    (h : ∀ w', blk w' b E (cs.set o v) → Oth b w w' → K undef w') : sto P t (.pointer (some ⟨b, o, none⟩)) v K w := by
  have hc : w.cell? ⟨b, o, none⟩ = some cs[o] := by rw [hb.cell, List.getElem?_eq_getElem ho]
  have hv2 : v.cells = #[v] := by cases v <;> first | rfl | simp [Value.oneCell'] at hv
  refine sto_cell hs hv hv2 hc (hb.frozen o) rfl (h _ ?_ ⟨rfl, rfl, rfl, by simp [World.setCell], fun k hk => Below.heap_setCell _ _ _ _ hk⟩)
  unfold blk at *
  simp only [World.setCell, Array.getElem?_modify]
  rw [if_pos trivial, hb]
  simp

theorem setCells_other (b : Nat) : ∀ (vs : List Value) (o : Nat) (w : World), Oth b w (w.setCells b o vs) := by
  intro vs
  induction vs with
  | nil => intro o w; exact ⟨rfl, rfl, rfl, rfl, fun _ _ => rfl⟩
  | cons v vs ih =>
    intro o w
    have h := ih (o + 1) (w.setCell ⟨b, o, none⟩ v)
    rw [World.setCells]
    exact ⟨h.os, h.tape, h.output, by rw [h.size]; simp [World.setCell], fun k hk => (h.other k hk).trans (Below.heap_setCell _ _ _ _ hk)⟩

theorem setCells_blk {b : Nat} {E : TypeId} : ∀ (vs : List Value) (o : Nat) (w : World) (cs : List Value), blk w b E cs → o + vs.length ≤ cs.length → blk (w.setCells b o vs) b E (cs.take o ++ vs ++ cs.drop (o + vs.length)) := by
  intro vs
  induction vs with
  | nil => intro o w cs h hl; rw [World.setCells]; simpa using h
  | cons v vs ih =>
    intro o w cs h hl
    rw [World.setCells]
    simp only [List.length_cons] at hl
    have h1 : blk (w.setCell ⟨b, o, none⟩ v) b E (cs.set o v) := by
      unfold blk at *
      simp only [World.setCell, Array.getElem?_modify]
      rw [if_pos trivial, h]
      simp
    have h2 := ih (o + 1) _ _ h1 (by simp; omega)
    have : (cs.set o v).take (o + 1) ++ vs ++ (cs.set o v).drop (o + 1 + vs.length) = cs.take o ++ (v :: vs) ++ cs.drop (o + (vs.length + 1)) := by
      have e : cs.set o v = cs.take o ++ v :: cs.drop (o + 1) := by rw [List.set_eq_take_append_cons_drop, if_pos (by omega)]
      have e2 : (cs.take o).length = o := by rw [List.length_take]; omega
      rw [e, List.take_append, List.drop_append, e2, List.take_take, List.drop_take]
      simp only [show min (o + 1) o = o by omega, show o + 1 - o = 1 by omega, List.take_succ_cons, List.take_zero, show o - (o + 1 + vs.length) = 0 by omega, List.nil_append, show o + 1 + vs.length - o = vs.length + 1 by omega, List.drop_succ_cons, List.drop_drop,
        show o + 1 + vs.length = o + (vs.length + 1) by omega, List.append_assoc, List.cons_append, List.take_zero, show o - (o + (vs.length + 1)) = 0 by omega, show o + (vs.length + 1) - o = vs.length + 1 by omega, List.nil_append, List.drop_succ_cons, List.drop_drop,
        show o + 1 + vs.length = o + (vs.length + 1) by omega]
    rw [this] at h2
    exact h2

theorem stoA {vs : List Value} {n : Nat} (hi : (P.info? t).map (·.size) = some n) (hn : vs.length = n) (hb : blk w b E cs) (ho : o + n ≤ cs.length) (h1 : ∀ v ∈ vs, v.oneCell' = true)
    (h : ∀ w', blk w' b E (cs.take o ++ vs ++ cs.drop (o + n)) → Oth b w w' → K undef w') : sto P t (.pointer (some ⟨b, o, none⟩)) (.agg vs.toArray) K w := by
  subst hn
  have hr := run_storeAt_mid (P := P) w b o t vs.toArray (fun j hj => ⟨by
    rw [hb.cell, List.getElem?_eq_getElem (by simp at hj; omega)]; rfl, hb.frozen _⟩) (by simpa using hi) (by simpa using h1)
  unfold sto
  exact okU_of hr (h _ (by simpa using setCells_blk vs o w cs hb ho) (by simpa using setCells_other b vs o w))

theorem box_of {v : Value} (h : ∀ w', blk w' w.heap.size t v.cells.toList → Below w.heap.size w w' → w'.heap.size = w.heap.size + 1 → K (.pointer (some ⟨w.heap.size, 0, none⟩)) w') : box P t v K w := by
  unfold box
  refine okV_of (w' := w.alloc (.cells v.cells t)) (v := .pointer (some ⟨w.heap.size, 0, none⟩)) ?_ (h _ ?_ (below_of_grown (World.grownBy_alloc _ _ none) (Nat.le_refl _) (fun k hk => by cases hk)) (by simp))
  · simp [Instr.box, newVar, newRow]
  · unfold blk; rw [heap_alloc_new]
theorem alc_of {z : Value} (hz : (P.info? t).bind (·.zero) = some z) (h : ∀ w', blk w' w.heap.size t z.cells.toList → Below w.heap.size w w' → w'.heap.size = w.heap.size + 1 → K (.pointer (some ⟨w.heap.size, 0, none⟩)) w') : alc P t K w := by
  obtain ⟨i, hi, hz⟩ := Option.bind_eq_some_iff.1 hz
  unfold alc
  refine okV_of (w' := w.alloc (.cells z.cells t)) (v := .pointer (some ⟨w.heap.size, 0, none⟩)) ?_ (h _ ?_ (below_of_grown (World.grownBy_alloc _ _ none) (Nat.le_refl _) (fun k hk => by cases hk)) (by simp))
  · simp [Instr.alloc, zeroValue, typeInfo, hi, hz, newVar, newRow]
  · unfold blk; rw [heap_alloc_new]

theorem bld_of {ps : Array (Nat × Value)} {vs : List Value} (hb : P.built t ps.toList = some vs.toArray) (h : K (.agg vs.toArray) w) : bld P t ps K w := by
  unfold bld
  exact okV_of (run_build w t ps _ hb) h

def fOff (P : Program) (s : TypeId) (f : Nat) : Option Nat :=
  match P.underlying s with
  | some (.struct fs) =>
    match fs[f]? with
    | some fd => match P.info? fd.type with
      | some i => match Nat.beq i.size 0 with | true => none | false => some fd.offset
      | none => none
    | none => none
  | _ => none

theorem fldA_of {f off : Nat} (hf : fOff P t f = some off) (h : K (.pointer (some ⟨b, o + off, none⟩)) w) : fldA P t (.pointer (some ⟨b, o, none⟩)) f K w := by
  unfold fOff at hf
  split at hf
  · rename_i fs hu
    split at hf
    · rename_i fd hfd
      split at hf
      · rename_i i hi
        split at hf
        · cases hf
        · rename_i h0
          cases hf
          have hs : (sizeOf fd.type).run P w = .ok i.size w := by simp [sizeOf, typeInfo, hi]
          have h0' : ¬ i.size = 0 := fun e => by rw [e] at h0; exact absurd h0 (by decide)
          unfold fldA
          refine okV_of (w' := w) ?_ h
          simp only [Instr.fieldAt, Sem.run_bind, run_underlying hu, Result.andThen_ok, hfd, Instr.sureAddr, Sem.run_pure, fieldPlace, hs, h0', if_false, add_p]
      · cases hf
    · cases hf
  · cases hf

def fldOf (P : Program) (s : TypeId) (f : Nat) : Option (Nat × Nat × Bool) :=
  match P.underlying s with
  | some (.struct fs) =>
    match fs[f]? with
    | some fd => match P.info? fd.type, P.underlying fd.type with
      | some i, some d => some (fd.offset, i.size, d.isRow)
      | _, _ => none
    | none => none
  | _ => none

theorem fld1 {f off n : Nat} {v : Value} (hf : fldOf P t f = some (off, n, false)) (hv : cs[off]? = some v) (h : K v w) : fld P t (.agg cs.toArray) f K w := by
  unfold fldOf at hf
  split at hf
  · rename_i fs hu
    split at hf
    · rename_i fd hfd
      split at hf
      · rename_i i d hi hd
        simp only [Option.some.injEq, Prod.mk.injEq] at hf
        obtain ⟨rfl, rfl, hr⟩ := hf
        have ha : (isAgg fd.type).run P w = .ok false w := by
          unfold isAgg
          rw [Sem.run_bind, run_underlying hd w]
          cases d <;> simp_all [TypeDesc.isRow]
        unfold fld
        refine okV_of (w' := w) ?_ h
        simp only [Instr.field, Sem.run_bind, run_underlying hu, Result.andThen_ok, hfd, asAgg, Sem.run_pure, part, ha]
        simp [hv]
      · cases hf
    · cases hf
  · cases hf

theorem fldG {f off n : Nat} {vs : List Value} (hf : fldOf P t f = some (off, n, true)) (hv : (cs.drop off).take n = vs) (h : K (.agg vs.toArray) w) : fld P t (.agg cs.toArray) f K w := by
  unfold fldOf at hf
  split at hf
  · rename_i fs hu
    split at hf
    · rename_i fd hfd
      split at hf
      · rename_i i d hi hd
        simp only [Option.some.injEq, Prod.mk.injEq] at hf
        obtain ⟨rfl, rfl, hr⟩ := hf
        have ha : (isAgg fd.type).run P w = .ok true w := by
          unfold isAgg
          rw [Sem.run_bind, run_underlying hd w]
          cases d <;> simp_all [TypeDesc.isRow]
        have hs : (sizeOf fd.type).run P w = .ok i.size w := by simp [sizeOf, typeInfo, hi]
        unfold fld
        refine okV_of (w' := w) ?_ h
        subst hv
        simp only [Instr.field, Sem.run_bind, run_underlying hu, Result.andThen_ok, hfd, asAgg, Sem.run_pure, part, ha, if_true, hs]
        congr 3
        rw [List.extract_toArray]
        simp [List.extract_eq_take_drop]
      · cases hf
    · cases hf
  · cases hf

theorem idxArr {e : TypeId} {n s : Nat} {k : IntKind} {i : Int} (ht : P.underlying t = some (.array n e)) (hs : ∀ w, (sizeOf e).run P w = .ok s w) (h0 : 0 ≤ i) (h1 : i < n)
    (h : K (.pointer (some ⟨b, o + i.toNat * s, none⟩)) w) : idxA P t (.pointer (some ⟨b, o, none⟩)) (.int k i) K w := by
  unfold idxA
  refine okV_of (w' := w) ?_ h
  simp only [Instr.indexAt, asIntOf, Instr.sureAddr, Sem.run_bind, Sem.run_pure, Result.andThen_ok, run_underlying ht, hs, h0, h1, and_self, if_true, add_p]

theorem idxRow {e : TypeId} {n c s : Nat} {k : IntKind} {i : Int} (ht : P.underlying t = some (.slice e)) (hs : ∀ w, (sizeOf e).run P w = .ok s w) (h0 : 0 ≤ i) (h1 : i < n)
    (h : K (.pointer (some ⟨b, o + i.toNat * s, none⟩)) w) : idxA P t (.slice (some ⟨b, o, none⟩) n c) (.int k i) K w := by
  unfold idxA
  refine okV_of (w' := w) ?_ h
  simp only [Instr.indexAt, asIntOf, Instr.sureAddr, Sem.run_bind, Sem.run_pure, Result.andThen_ok, run_underlying ht, hs, h0, h1, and_self, if_true, add_p]

theorem bldSG {e : TypeId} {n s : Nat} {ps : Array (Nat × Value)} (vs : List Value) (ht : P.underlying t = some (.slice e)) (hi : (P.info? e).map (·.size) = some s) (hz : ((P.info? e).bind (·.zero)).isSome = true) (hs : 0 < s) (hn : n = vs.length) (h0 : vs.length ≠ 0)
    (h24 : n * s ≤ 16777216) (hps : ps.toList = (vs.zipIdx 0).map fun x => (x.2, x.1)) (hv : ∀ v ∈ vs, v.cells.size = s)
    (h : ∀ w', blk w' w.heap.size e (vs.flatMap fun v => v.cells.toList) → Below w.heap.size w w' → w'.heap.size = w.heap.size + 1 → K (.slice (some ⟨w.heap.size, 0, none⟩) n n) w') : bldS P t n ps K w := by
  subst hn
  obtain ⟨ie, hie, hsz⟩ : ∃ ie, P.info? e = some ie ∧ ie.size = s := by
    cases hq : P.info? e with
    | none => rw [hq] at hi; cases hi
    | some ie => rw [hq] at hi; exact ⟨ie, rfl, by simpa using hi⟩
  obtain ⟨z, hz'⟩ := Option.isSome_iff_exists.1 hz
  rw [hie] at hz'
  have hz' : ie.zero = some z := hz'
  subst hsz
  have hf := Go.Great.fill_whole hs vs ((Array.range (vs.length * ie.size)).map (z.cells[· % z.cells.size]!)) hv (by simp)
  unfold bldS
  refine okV_of (run_buildSlice (P := P) w t e vs.length ps _ ie z ht hie hz' (by omega) (by intro h; rcases Nat.mul_eq_zero.1 h with h | h <;> omega) (by rw [hps]; exact hf)) (h _ ?_ (below_of_grown (World.grownBy_alloc _ _ none) (Nat.le_refl _) (fun k hk => by cases hk)) (by simp))
  unfold blk; rw [heap_alloc_new]

theorem callV_of {f : FuncId} {first args cap all : Array Value} (he : first ++ args ++ cap = all) (h : call P f all K w) : callV P (.func (.func f) first cap) args K w := ⟨f, first, cap, rfl, by rw [he]; exact h⟩

/-! ## In a region that draws -/
theorem hld_of {S : World → Prop} {s : KV → World → Prop} {k : Value → Prop} {v : Value} (h : ∀ w, S w → ∀ K : KV, K v w → s K w) (hk : k v) : hld S s k := ⟨v, fun w hw => h w hw _ ⟨rfl, rfl⟩, hk⟩
theorem hReg_of {b : (World → Prop) → World → Prop} (S : World → Prop) (hS : S w) (h : b S w) : hReg b w := ⟨S, hS, h⟩
end
end Go.Proofs.YtfjafbbalohmhaaGreatDoor
namespace Go.Proofs.YtfjafbbalohmhaaGreatDoor
set_option maxRecDepth 100000
open Go.RowKit
def WkOK (P : Program) (f : FuncId) (W : World) : Prop := ∀ (w : World) (K : KV), Below W.heap.size W w → (∀ w', Below w.heap.size w w' → K (.bool true) w') → call P f #[] K w
theorem WkOK.use {P : Program} {f : FuncId} {W w : World} {K : KV} (hk : WkOK P f W) (hb : Below W.heap.size W w) (h : ∀ w', Below W.heap.size W w' → K (.bool true) w') : call P f #[] K w :=
  hk w K hb fun w' b => h w' (hb.trans (b.mono hb.size))
theorem RV.pre {w : World} {a : Option Addr} {n c m : Nat} {xs : List Value} (h : RV w a n c xs) (hm : m ≤ n) : RV w a m c (xs.take m) :=
  ⟨by rw [List.length_take, h.len]; omega, Nat.le_trans hm h.cap, fun h0 => h.some_ (by omega), fun ha => by have := h.nil_ ha; omega, fun i v hv => by
    rw [List.getElem?_take] at hv
    split at hv
    · exact h.cell i v hv
    · cases hv⟩
end Go.Proofs.YtfjafbbalohmhaaGreatDoor
namespace Go.Proofs.YtfjafbbalohmhaaGreatDoor
set_option maxRecDepth 100000
open Go.RowKit
section
variable {P : Program} {w w' : World} {t : TypeId} {K : KV}
theorem ownS {B : Nat} {E : TypeId} {s : Nat} {v : Value} {n : Nat} {xs : List Value} (h : w.ownsRow B E s v n xs) (hk : ∀ k, v.ownBlock = some k → w'.heap[k]? = w.heap[k]?) : w'.ownsRow B E s v n xs := by
  refine ⟨h.1, ?_⟩
  rcases h.2 with h2 | ⟨g, cap, cur, hv, hb, hh, r⟩
  · exact .inl h2
  · refine .inr ⟨g, cap, cur, hv, hb, ?_, r⟩
    rw [hk g (by rw [hv]; rfl)]; exact hh
theorem ownLit {B g n s : Nat} {E : TypeId} {xs : List Value} (hb : blk w g E xs) (hn : xs.length = n * s) (hB : B ≤ g) (hm : n ≤ maxLen) : w.ownsRow B E s (.slice (some ⟨g, 0, none⟩) n n) n xs := by
  refine ⟨hn, .inr ⟨g, n, xs.toArray, rfl, hB, hb, Nat.le_refl _, hm, by simpa using hn, ?_⟩⟩
  rw [← hn]; simp
theorem appA {e ty : TypeId} {cs : Array Bool} {base : Nat} {i : TypeInfo} {z : Value} {bytes s : Nat} (ht : P.underlying t = some (.slice e)) (hi : P.info? e = some i) (hz : i.zero = some z)
    (hsize : i.size = s) (hby : i.bytes = bytes) (hzs : z.cells.size = s) (hs0 : 0 < s)
    {av : Option Addr} {n c : Nat} {xs : List Value} (hown : w.ownsRow base e s (.slice av n c) n xs) {g : Nat} {m c2 : Nat} {ys : List Value} (hy : blk w g e ys) (hyl : ys.length = m * s) (h1 : ∀ u ∈ ys, u.oneCell' = true)
    (hbytes : (n + m) * bytes ≤ 140737488355328) (h63 : n + m ≤ 9223372036854775807) (hbase : base ≤ w.heap.size)
    (h : ∀ a' c' w', w'.ownsRow base e s (.slice a' (n + m) c') (n + m) (xs ++ ys) → w.grownBy w' (Value.slice av n c).ownBlock → ((Value.slice a' (n + m) c').ownBlock = (Value.slice av n c).ownBlock ∨ (Value.slice a' (n + m) c').ownBlock = some w.heap.size) → K (.slice a' (n + m) c') w') :
    blt P .append #[t, t] ty cs #[.slice av n c, .slice (some ⟨g, 0, none⟩) m c2] K w := by
  have hn : ∀ j u, ys[j]? = some u → w.cell? ((⟨g, 0, none⟩ : Addr).add j) = some u := by
    intro j u hj
    rw [show ((⟨g, 0, none⟩ : Addr).add j) = ⟨g, 0 + j, none⟩ from by unfold Addr.add; split <;> simp_all, hy.cell, Nat.zero_add]
    exact hj
  obtain ⟨v', w', hr, h2, h3, _, h5⟩ := run_append_own_at (P := P) w base t ty e i z s bytes ht hi hz hsize hby hzs hs0 _ n xs hown ⟨g, 0, none⟩ m c2 ys hyl hn h1 (by simp only [maxLen]; omega) hbytes hbase
  obtain ⟨a', c', rfl⟩ : ∃ a' c', v' = .slice a' (n + m) c' := by
    rcases h2.2 with ⟨hv, hn⟩ | ⟨g, cap, cur, hv, _⟩
    · exact ⟨none, 0, by rw [hv, hn]⟩
    · exact ⟨_, cap, hv⟩
  exact blt_of (by rw [BigFrame.builtin_append]; simp only [Sem.run_bind, hr, Result.andThen_ok, Sem.run_pure]) (h a' c' w' h2 h3 h5)
end
end Go.Proofs.YtfjafbbalohmhaaGreatDoor
namespace Go.Proofs.YtfjafbbalohmhaaGreatDoor
set_option maxRecDepth 100000
open Go.RowKit Go.ChangeMaps
theorem flat_at {α : Type} {enc : α → List Value} {s : Nat} (hs : ∀ x, (enc x).length = s) : ∀ (L : List α) (i : Nat) (x : α) (j : Nat), L[i]? = some x → j < s → (L.flatMap enc)[i * s + j]? = (enc x)[j]?
  | [], i, x, j, h, _ => by simp at h
  | y :: L, 0, x, j, h, hj => by
    simp at h; subst h
    rw [List.flatMap_cons, Nat.zero_mul, Nat.zero_add, List.getElem?_append_left (by rw [hs]; exact hj)]
  | y :: L, i + 1, x, j, h, hj => by
    rw [List.flatMap_cons, List.getElem?_append_right (by rw [hs, Nat.succ_mul]; omega), hs, show (i + 1) * s + j - s = i * s + j by rw [Nat.succ_mul]; omega]
    exact flat_at hs L i x j (by simpa using h) hj

section
variable {P : Program} {w w' : World} {K : KV} {t : TypeId} {g B n c s : Nat} {e : TypeId} {v : Value} {xs : List Value} {α : Type} {enc : α → List Value} {L : List α}
structure Opn (w : World) (B : Nat) (e : TypeId) (s n c g : Nat) (cur : List Value) (xs : List Value) : Prop where
  blk : blk w g e cur
  lo : B ≤ g
  nc : n ≤ c
  cm : c ≤ maxLen
  len : cur.length = c * s
  take : cur.take (n * s) = xs
  xl : xs.length = n * s
theorem own_open {a : Option Addr} (hr : w.ownsRow B e s (.slice a n c) n xs) (h0 : 0 < n) : ∃ g cur, a = some ⟨g, 0, none⟩ ∧ Opn w B e s n c g cur xs := by
  rcases hr.2 with ⟨_, hz⟩ | ⟨g, cap, cur, hv, hg, hh, hn, hcm, hsz2, htk⟩
  · omega
  simp only [Value.slice.injEq] at hv
  obtain ⟨rfl, _, rfl⟩ := hv
  exact ⟨g, cur.toList, rfl, hh, hg, hn, hcm, by simpa using hsz2, htk, hr.1⟩
theorem Opn.own {cur : List Value} (h : Opn w B e s n c g cur xs) : w.ownsRow B e s (.slice (some ⟨g, 0, none⟩) n c) n xs :=
  ⟨h.xl, .inr ⟨g, c, cur.toArray, rfl, h.lo, h.blk, h.nc, h.cm, by simpa using h.len, by simpa using h.take⟩⟩
theorem flat_len (hs : ∀ x, (enc x).length = s) : ∀ L : List α, (L.flatMap enc).length = L.length * s
  | [] => by simp
  | x :: L => by rw [List.flatMap_cons, List.length_append, hs, flat_len hs L, List.length_cons, Nat.succ_mul]; omega
theorem flat_set (hs : ∀ x, (enc x).length = s) : ∀ (L : List α) (i : Nat) (x : α), i < L.length → (L.flatMap enc).take (i * s) ++ enc x ++ (L.flatMap enc).drop (i * s + s) = (L.set i x).flatMap enc
  | [], i, x, h => by simp at h
  | y :: L, 0, x, _ => by
    simp only [Nat.zero_mul, List.take_zero, List.nil_append, Nat.zero_add, List.set_cons_zero, List.flatMap_cons]
    rw [List.drop_append_of_le_length (by rw [hs]; exact Nat.le_refl _), List.drop_of_length_le (by rw [hs]; exact Nat.le_refl _), List.nil_append]
  | y :: L, i + 1, x, h => by
    have ih := flat_set hs L i x (by simpa using h)
    simp only [List.set_cons_succ, List.flatMap_cons]
    rw [← ih, Nat.succ_mul]
    have e1 : i * s + s = (enc y).length + i * s := by rw [hs]; omega
    have e2 : i * s + s + s = (enc y).length + (i * s + s) := by rw [hs]; omega
    rw [e2, List.drop_length_add_append, e1, List.take_length_add_append]
    simp [List.append_assoc]
theorem Opn.set {cur : List Value} {i : Nat} {x : α} (hs : ∀ x, (enc x).length = s) (h : Opn w B e s n c g cur (L.flatMap enc)) (hl : L.length = n) (hi : i < n) (hb : Go.Proofs.YtfjafbbalohmhaaGreatDoor.blk w' g e (cur.take (i * s) ++ enc x ++ cur.drop (i * s + s))) :
    Opn w' B e s n c g (cur.take (i * s) ++ enc x ++ cur.drop (i * s + s)) ((L.set i x).flatMap enc) := by
  have h1 : (i + 1) * s ≤ n * s := Nat.mul_le_mul_right _ hi
  have h2 : n * s ≤ c * s := Nat.mul_le_mul_right _ h.nc
  rw [Nat.succ_mul] at h1
  have hl2 := h.len
  refine ⟨hb, h.lo, h.nc, h.cm, ?_, ?_, ?_⟩
  · simp only [List.length_append, List.length_take, List.length_drop, hs]; omega
  · rw [← flat_set hs L i x (by omega), ← h.take]
    rw [List.take_append, List.take_append]
    simp only [List.length_append, List.length_take, hs]
    rw [List.take_take, List.take_of_length_le (l := enc x) (by rw [hs]; omega)]
    rw [List.take_take, show min (n * s) (i * s) = i * s by omega, show min (i * s) (n * s) = i * s by omega, List.drop_take]
    congr 2
    omega
  · rw [flat_len hs, List.length_set, hl]
theorem Opn.elem {cur : List Value} {i : Nat} {x : α} (hs : ∀ x, (enc x).length = s) (h : Opn w B e s n c g cur (L.flatMap enc)) (hl : L.length = n) (hx : L[i]? = some x) : (cur.drop (i * s)).take s = enc x := by
  have hi : i < n := by rw [← hl]; exact (List.getElem?_eq_some_iff.1 hx).1
  have h1 : (i + 1) * s ≤ n * s := Nat.mul_le_mul_right _ hi
  rw [Nat.succ_mul] at h1
  have e : (cur.drop (i * s)).take s = ((cur.take (n * s)).drop (i * s)).take s := by
    rw [List.drop_take, List.take_take]; congr 1; omega
  rw [e, h.take]
  apply List.ext_getElem?
  intro j
  by_cases hj : j < s
  · rw [List.getElem?_take_of_lt hj, List.getElem?_drop, flat_at hs L i x j hx hj]
  · rw [List.getElem?_eq_none (by simp; omega), List.getElem?_eq_none (by rw [hs]; omega)]
theorem Opn.cell {cur : List Value} {i j : Nat} {x : α} (hs : ∀ x, (enc x).length = s) (h : Opn w B e s n c g cur (L.flatMap enc)) (hl : L.length = n) (hx : L[i]? = some x) (hj : j < s) : cur[i * s + j]? = (enc x)[j]? := by
  rw [← h.elem hs hl hx, List.getElem?_take_of_lt hj, List.getElem?_drop]
theorem Opn.sto {K : KV} {cur : List Value} {i : Nat} {x : α} (hs : ∀ x, (enc x).length = s) (op : Opn w B e s n c g cur (L.flatMap enc)) (hl : L.length = n) (hi : i < n) (hf : (P.info? e).map (·.size) = some s) (h1 : ∀ v ∈ enc x, v.oneCell' = true)
    (h : ∀ w', Oth g w w' → w'.ownsRow B e s (.slice (some ⟨g, 0, none⟩) n c) n ((L.set i x).flatMap enc) → K undef w') : sto P e (.pointer (some ⟨g, 0 + ((i : Nat) : Int).toNat * s, none⟩)) (.agg (enc x).toArray) K w := by
  have hi1 : (i + 1) * s ≤ n * s := Nat.mul_le_mul_right _ hi
  have hi2 : n * s ≤ c * s := Nat.mul_le_mul_right _ op.nc
  rw [Nat.succ_mul] at hi1
  have hcl := op.len
  rw [Int.toNat_natCast, Nat.zero_add]
  refine stoA (n := s) (vs := enc x) hf (hs x) op.blk (by omega) h1 fun w' hb ho => ?_
  exact h w' ho (Opn.own (Opn.set hs op hl hi hb))
end
end Go.Proofs.YtfjafbbalohmhaaGreatDoor
namespace Go.Proofs.YtfjafbbalohmhaaGreatDoor
open Go.RowKit
set_option maxRecDepth 100000



section
variable {b0 at1 size2 b3 at4 size5 n6 next7 e8 A6 c10 A8 A9 C0 C1 C2 C3 C4 C5 C6 C7 C8 C9 D0 D1 D2 D3 D4 D5 D6 D7 D8 D9 E0 E1 E2 E3 E4 E5 E6 E7 E8 E9 F0 F1 F2 F3 F4 : Value}

end
end Go.Proofs.YtfjafbbalohmhaaGreatDoor
namespace Go.Proofs.YtfjafbbalohmhaaGreatDoor
open Go.RowKit
set_option maxRecDepth 100000


end Go.Proofs.YtfjafbbalohmhaaGreatDoor
namespace Go.Proofs.YtfjafbbalohmhaaGreatDoor
set_option maxRecDepth 100000
open Go.RowKit

theorem size_u8 : ∀ w, (sizeOf 5).run Tryz.prog w = .ok 1 w := fun _ => by kernel_rfl
def OB (w : World) (B : Nat) (a : Option Addr) (n c : Nat) (l : List UInt8) : Prop := OV w B 5 a n c (l.map u8v)

theorem OB.rb {w : World} {B : Nat} {a : Option Addr} {n c : Nat} {l : List UInt8} (h : OB w B a n c l) : RB w a n c l := OV.rv h
theorem OB.below {w w' : World} {B D : Nat} {a : Option Addr} {n c : Nat} {l : List UInt8} (h : OB w B a n c l) (hb : Below D w w') (hD : w.heap.size ≤ D) : OB w' B a n c l := OV.below h hb hD
theorem OB.nil (w : World) (B : Nat) : OB w B none 0 0 [] := OV.nil w B _
theorem OB.len {w : World} {B : Nat} {a : Option Addr} {n c : Nat} {l : List UInt8} (h : OB w B a n c l) : l.length = n := (OB.rb h).len

section
variable {w : World} {K : KV}

theorem cvIUint {a : Int} (h1 : 0 ≤ a) (h2 : a ≤ 18446744073709551615) (h : K (.int .u64 a) w) : conv Tryz.prog 3 97 (.int .i64 a) K w :=
  conv_int Tryz.underlying3 Tryz.underlying97 (by rw [wrap_u64, show a % 18446744073709551616 = a by omega]; exact h)
theorem len8 {ty : TypeId} {cs : Array Bool} {av : Option Addr} {n c : Nat} (h : K (.int .i64 (n : Int)) w) : blt Tryz.prog .len #[28] ty cs #[.slice av n c] K w := len_slc Tryz.underlying28 h

theorem idx8 {av : Option Addr} {n c : Nat} {k : IntKind} {iv : Int} {l : List UInt8} (hr : RB w av n c l) (h0 : 0 ≤ iv) (h1 : iv < n)
    (h : w.cell? (slotA av iv.toNat) = some (.int .u8 ((l.getD iv.toNat 0).toNat : Int)) → K (.pointer (some (slotA av iv.toNat))) w) :
    idxA Tryz.prog 28 (.slice av n c) (.int k iv) K w := by
  refine idx_slc Tryz.underlying28 size_u8 h0 h1 hr.some_ (h ?_)
  have hl : iv.toNat < l.length := by rw [hr.len]; omega
  rw [hr.cell _ hl]
  simp [List.getD, hl]

theorem ld8 {ad : Addr} {n : Int} (hc : w.cell? ad = some (.int .u8 n)) (h : K (.int .u8 n) w) : ld Tryz.prog 5 (.pointer (some ad)) K w := by
  exact ld_cell (fun _ => by kernel_rfl) hc h

end

/-! ## Slices of byte slices -/
def slv (v : Option Addr × Nat × Nat) : Value := .slice v.1 v.2.1 v.2.2
structure RBB (w : World) (a : Option Addr) (n c : Nat) (vs : List (Option Addr × Nat × Nat)) (L : List (List UInt8)) : Prop where
  row : RV w a n c (vs.map slv)
  len : vs.length = L.length
  each : ∀ (i : Nat) (v : Option Addr × Nat × Nat) (l : List UInt8), vs[i]? = some v → L[i]? = some l → RB w v.1 v.2.1 v.2.2 l

theorem RBB.below {w w' : World} {B : Nat} {a : Option Addr} {n c : Nat} {vs : List (Option Addr × Nat × Nat)} {L : List (List UInt8)} (h : RBB w a n c vs L) (hb : Below B w w') (hB : w.heap.size ≤ B) : RBB w' a n c vs L :=
  ⟨h.row.below hb hB, h.len, fun i v l hv hl => (h.each i v l hv hl).below hb hB⟩
structure OBB (w : World) (B : Nat) (a : Option Addr) (n c : Nat) (vs : List (Option Addr × Nat × Nat)) (L : List (List UInt8)) : Prop where
  row : OV w B 28 a n c (vs.map slv)
  len : vs.length = L.length
  each : ∀ (i : Nat) (v : Option Addr × Nat × Nat) (l : List UInt8), vs[i]? = some v → L[i]? = some l → OB w B v.1 v.2.1 v.2.2 l

theorem OBB.below {w w' : World} {B D : Nat} {a : Option Addr} {n c : Nat} {vs : List (Option Addr × Nat × Nat)} {L : List (List UInt8)} (h : OBB w B a n c vs L) (hb : Below D w w') (hD : w.heap.size ≤ D) : OBB w' B a n c vs L :=
  ⟨h.row.below hb hD, h.len, fun i v l hv hl => (h.each i v l hv hl).below hb hD⟩
theorem OBB.nil (w : World) (B : Nat) : OBB w B none 0 0 [] [] := ⟨OV.nil w B _, rfl, fun i v l h => by simp at h⟩

end Go.Proofs.YtfjafbbalohmhaaGreatDoor
namespace Go.Proofs.YtfjafbbalohmhaaGreatDoor
set_option maxRecDepth 100000
open Go.RowKit
attribute [local irreducible] bin un conv call callV blt slc fldA fld idxA idx lkp mUpd mEnt eSt rng nxt ent ext alc box bld bldS ld sto nilC mkMap mkS ifc pick rdy wts gsel sti cond retM Gives cCode cGrp cSeq cOp

end Go.Proofs.YtfjafbbalohmhaaGreatDoor
namespace Go.Proofs.YtfjafbbalohmhaaGreatDoor
set_option maxRecDepth 100000
open Go.RowKit
attribute [local irreducible] bin un conv call callV blt slc fldA fld idxA idx lkp mUpd mEnt eSt rng nxt ent ext alc box bld bldS ld sto nilC mkMap mkS ifc pick rdy wts gsel sti cond retM Gives cCode cGrp cSeq cOp

end Go.Proofs.YtfjafbbalohmhaaGreatDoor
namespace Go.Proofs.YtfjafbbalohmhaaGreatDoor
open Go.RowKit
set_option maxRecDepth 100000




section
variable {s0 s1 A0 p3 A2 x5 A4 x7 A6 A7 A8 A9 C0 C1 C2 C3 C4 C5 C6 C7 C8 C9 D0 D1 D2 D3 D4 D5 D6 D7 D8 D9 E0 E1 E2 E3 E4 E5 E6 E7 E8 E9 F0 F1 F2 F3 F4 F5 F6 F7 F8 F9 G0 G1 G2 G3 G4 G5 G6 G7 G8 G9 H0 H1 H2 H3 H4 H5 H6 H7 H8 H9 I0 I1 I2 I3 I4 I5 I6 I7 I8 I9 J0 J1 : Value}


end
section
variable {b0 b1 A0 A1 y4 s5 n6 A5 A6 A7 A8 A9 C0 C1 C2 C3 C4 C5 C6 C7 C8 C9 D0 D1 D2 D3 D4 D5 D6 D7 D8 D9 E0 E1 E2 E3 E4 E5 E6 E7 E8 E9 F0 F1 F2 F3 F4 F5 F6 F7 F8 F9 G0 G1 G2 G3 G4 G5 G6 G7 G8 G9 H0 H1 H2 H3 H4 H5 H6 H7 H8 H9 I0 I1 I2 I3 I4 I5 I6 I7 I8 I9 J0 J1 J2 J3 J4 J5 J6 J7 J8 J9 L0 : Value}

end
end Go.Proofs.YtfjafbbalohmhaaGreatDoor
namespace Go.Proofs.YtfjafbbalohmhaaGreatDoor
set_option maxRecDepth 100000
open Go.RowKit

def i6 (x : Int) : Value := .int .i64 x
structure STP where
  d : Int
  who : Int
  kind : Int
  node : Int
  to : Int
  am : Int
  req : Int
  of_ : Int
  k : Int
  j : Int
  n : Int
  picks : List Int
def stC (s : STP) (v : Value) : List Value := [.int .u8 s.d, i6 s.who, .int .u8 s.kind, .int .u64 s.node, i6 s.to, i6 s.am, .int .u64 s.req, .int .u64 s.of_, i6 s.k, i6 s.j, i6 s.n, v]
structure STW (s : STP) : Prop where
  d : 0 ≤ s.d ∧ s.d ≤ 255
  kind : 0 ≤ s.kind ∧ s.kind ≤ 255
  node : 0 ≤ s.node ∧ s.node ≤ 18446744073709551615
  req : 0 ≤ s.req ∧ s.req ≤ 18446744073709551615
  of_ : 0 ≤ s.of_ ∧ s.of_ ≤ 18446744073709551615
abbrev RN (w : World) (a : Option Addr) (n c : Nat) (l : List Int) : Prop := RV w a n c (l.map i6)
theorem fA_Stp_0 {w : World} {K : KV} {b o : Nat} (h : K (.pointer (some ⟨b, o + 0, none⟩)) w) : fldA Tryz.prog 27 (.pointer (some ⟨b, o, none⟩)) 0 K w := fldA_of (by kernel_rfl) h
theorem fA_Stp_1 {w : World} {K : KV} {b o : Nat} (h : K (.pointer (some ⟨b, o + 1, none⟩)) w) : fldA Tryz.prog 27 (.pointer (some ⟨b, o, none⟩)) 1 K w := fldA_of (by kernel_rfl) h
theorem fA_Stp_2 {w : World} {K : KV} {b o : Nat} (h : K (.pointer (some ⟨b, o + 2, none⟩)) w) : fldA Tryz.prog 27 (.pointer (some ⟨b, o, none⟩)) 2 K w := fldA_of (by kernel_rfl) h
theorem fA_Stp_3 {w : World} {K : KV} {b o : Nat} (h : K (.pointer (some ⟨b, o + 8, none⟩)) w) : fldA Tryz.prog 27 (.pointer (some ⟨b, o, none⟩)) 3 K w := fldA_of (by kernel_rfl) h
theorem fA_Stp_4 {w : World} {K : KV} {b o : Nat} (h : K (.pointer (some ⟨b, o + 9, none⟩)) w) : fldA Tryz.prog 27 (.pointer (some ⟨b, o, none⟩)) 4 K w := fldA_of (by kernel_rfl) h
theorem fA_Stp_5 {w : World} {K : KV} {b o : Nat} (h : K (.pointer (some ⟨b, o + 10, none⟩)) w) : fldA Tryz.prog 27 (.pointer (some ⟨b, o, none⟩)) 5 K w := fldA_of (by kernel_rfl) h
theorem fA_Stp_6 {w : World} {K : KV} {b o : Nat} (h : K (.pointer (some ⟨b, o + 11, none⟩)) w) : fldA Tryz.prog 27 (.pointer (some ⟨b, o, none⟩)) 6 K w := fldA_of (by kernel_rfl) h
theorem ld_TL_0 {w : World} {K : KV} {b o : Nat} {E : TypeId} {cs : List Value} (v : Value) (hb : blk w b E cs) (ho : cs[o]? = some v) (h : K v w) : ld Tryz.prog 5 (.pointer (some ⟨b, o, none⟩)) K w := ld1 (fun _ => by kernel_rfl) hb ho h
theorem ld_TL_1 {w : World} {K : KV} {b o : Nat} {E : TypeId} {cs : List Value} (v : Value) (hb : blk w b E cs) (ho : cs[o]? = some v) (h : K v w) : ld Tryz.prog 3 (.pointer (some ⟨b, o, none⟩)) K w := ld1 (fun _ => by kernel_rfl) hb ho h
theorem ld_TL_4 {w : World} {K : KV} {b o : Nat} {E : TypeId} {cs : List Value} (v : Value) (hb : blk w b E cs) (ho : cs[o]? = some v) (h : K v w) : ld Tryz.prog 25 (.pointer (some ⟨b, o, none⟩)) K w := ld1 (fun _ => by kernel_rfl) hb ho h
attribute [local irreducible] bin un conv call callV blt slc fldA fld idxA idx lkp mUpd mEnt eSt rng nxt ent ext alc box bld bldS ld sto nilC mkMap mkS ifc pick rdy wts gsel sti cond retM Gives cCode cGrp cSeq cOp
structure Tn (p : Nat) (w w' : World) : Prop where
  os : w'.os = w.os
  tape : w'.tape = w.tape
  output : w'.output = w.output
  size : w.heap.size ≤ w'.heap.size
  block : ∀ k, k < w.heap.size → k ≠ p → w'.heap[k]? = w.heap[k]?
theorem Tn.of {p : Nat} {w w' w2 : World} (h : Below w.heap.size w w') (k : Oth p w' w2) : Tn p w w2 :=
  ⟨k.os.trans h.os, k.tape.trans h.tape, k.output.trans h.output, by rw [k.size]; exact h.size, fun i hi hne => (k.other i hne).trans (h.block i hi)⟩
theorem Tn.below {p B : Nat} {w w' : World} (h : Tn p w w') (hB : B ≤ p) (hs : B ≤ w.heap.size) : Below B w w' := ⟨h.os, h.tape, h.output, h.size, fun k hk => h.block k (by omega) (by omega)⟩
theorem Tn.blk {p b : Nat} {w w' : World} {E : TypeId} {cs : List Value} (h : Tn p w w') (hb : blk w b E cs) (hne : b ≠ p) : blk w' b E cs := by
  unfold Go.Proofs.YtfjafbbalohmhaaGreatDoor.blk; rw [h.block b hb.lt hne]; exact hb
section
variable {w : World} {K : KV}
structure PSt (B : Nat) (w : World) (p q : Nat) (s : STP) (v : Value) (l : List UInt8) : Prop where
  pen : ∃ a n c, blk w p 69 [.slice a n c] ∧ RB w a n c l
  stp : blk w q 27 (stC s v)
  hp : B ≤ p
  hne : q ≠ p
end
end Go.Proofs.YtfjafbbalohmhaaGreatDoor
namespace Go.Proofs.YtfjafbbalohmhaaGreatDoor
set_option maxRecDepth 100000
open Go.RowKit
attribute [local irreducible] bin un conv call callV blt slc fldA fld idxA idx lkp mUpd mEnt eSt rng nxt ent ext alc box bld bldS ld sto nilC mkMap mkS ifc pick rdy wts gsel sti cond retM Gives cCode cGrp cSeq cOp
end Go.Proofs.YtfjafbbalohmhaaGreatDoor
namespace Go.Proofs.YtfjafbbalohmhaaGreatDoor
set_option maxRecDepth 100000
open Go.RowKit
section
variable {P : Program} {K : KV} {w : World} {t : TypeId}

theorem max2i {ats : Array TypeId} {ty : TypeId} {cs : Array Bool} {k k' : IntKind} {x y : Int} (h : K (.int k (if x < y then y else x)) w) : blt P .max ats ty cs #[.int k x, .int k' y] K w :=
  blt_of (v := .int k (if x < y then y else x)) (w' := w) (by rw [BigFrame.builtin_max]; simp [Builtin.max_, Builtin.max2, Sem.run_pure]) h
end
section
variable {P : Program} {t : TypeId} {w : World} {K : KV} {cx cy : Bool}

end
end Go.Proofs.YtfjafbbalohmhaaGreatDoor
namespace Go.Proofs.YtfjafbbalohmhaaGreatDoor
set_option maxRecDepth 100000
open Go.RowKit
abbrev ptr (b : Nat) : Value := .pointer (some ⟨b, 0, none⟩)
theorem RV.drew {w : World} {a : Option Addr} {n c : Nat} {xs : List Value} (h : RV w a n c xs) : RV w.drew a n c xs := ⟨h.len, h.cap, h.some_, h.nil_, h.cell⟩
theorem RB.drew {w : World} {a : Option Addr} {n c : Nat} {xs : List UInt8} (h : RB w a n c xs) : RB w.drew a n c xs := RV.drew h
theorem ownsRow_keep {T : List TypeId} {B B2 : Nat} {w w' : World} {E : TypeId} {s : Nat} {v : Value} {n : Nat} {xs : List Value} (h : w.ownsRow B2 E s v n xs) (hk : Keep T B w w') (hE : E ∉ T) : w'.ownsRow B2 E s v n xs := by
  refine ⟨h.1, ?_⟩
  rcases h.2 with h2 | ⟨g, cap, cur, hv, hb, hh, r⟩
  · exact .inl h2
  · exact .inr ⟨g, cap, cur, hv, hb, hk.block _ _ hh (.inr fun cs E' z e => by cases e; exact hE), r⟩
theorem OB.keep {T : List TypeId} {B B2 : Nat} {w w' : World} {a : Option Addr} {n c : Nat} {l : List UInt8} (h : OB w B2 a n c l) (hk : Keep T B w w') (hT : 5 ∉ T) : OB w' B2 a n c l := ownsRow_keep h hk hT
end Go.Proofs.YtfjafbbalohmhaaGreatDoor
namespace Go.Proofs.YtfjafbbalohmhaaGreatDoor
set_option maxRecDepth 100000
open Go.RowKit

abbrev EyS := Nat × Bool
structure Rds where
  d : Nat
  who : Nat
  j : Nat
  k : Nat
  n : Nat
  kind : Nat
  node : Nat
  to : Nat
  am : Nat
  req : Nat
  of_ : Nat
  cnt : Nat
  st : EyS
def stp0 : List Value := [.int .u8 0, i6 0, .int .u8 0, .int .u64 0, i6 0, i6 0, .int .u64 0, .int .u64 0, i6 0, i6 0, i6 0, .slice none 0 0]
attribute [local irreducible] bin un conv call callV blt slc fldA fld idxA idx lkp mUpd mEnt eSt rng nxt ent ext alc box bld bldS ld sto nilC mkMap mkS ifc pick rdy wts gsel sti cond retM Gives cCode cGrp cSeq cOp
end Go.Proofs.YtfjafbbalohmhaaGreatDoor
namespace Go.Proofs.YtfjafbbalohmhaaGreatDoor
open Go.RowKit
set_option maxRecDepth 100000


theorem drill_regions_k {K : KV} {n0 : Value} {w : World}
    (h : bin Tryz.prog BinOp.geq 3 false true n0 (Value.int IntKind.i64 1) (fun A3 w =>
    gsel A3 true (fun k6 =>
    bin Tryz.prog BinOp.leq 3 false true n0 (Value.int IntKind.i64 6) (fun A6 w =>
    k6 [n0, A6] w) w)
    (fun k => k [undef, undef] w) (fun us6 w =>
    pick A3 (gd us6 1) (Value.bool false) (fun A7 w =>
    K A7 w) w)) w) :
    cCode Tryz.prog (cd Tryz.f41 []) (retK Tryz.prog Tryz.f41.results.toList K) (fun _ _ _ => False) (retK Tryz.prog Tryz.f41.results.toList K) [n0, undef, undef, undef, undef, undef, undef, undef, undef] w := Eq.mp (by kernel_rfl) h

theorem drill_regions_in {K : KV} {n0 : Value} {w : World}
    (h : bin Tryz.prog BinOp.geq 3 false true n0 (Value.int IntKind.i64 1) (fun A3 w =>
    gsel A3 true (fun k6 =>
    bin Tryz.prog BinOp.leq 3 false true n0 (Value.int IntKind.i64 6) (fun A6 w =>
    k6 [n0, A6] w) w)
    (fun k => k [undef, undef] w) (fun us6 w =>
    pick A3 (gd us6 1) (Value.bool false) (fun A7 w =>
    K A7 w) w)) w) :
    Gives Tryz.prog 41 #[n0] w K := enter' Tryz.func41 (by kernel_rfl) (Eq.mp (congrArg (fun c => cCode Tryz.prog c (retK Tryz.prog Tryz.f41.results.toList K) (fun _ _ _ => False) (retK Tryz.prog Tryz.f41.results.toList K) [n0, undef, undef, undef, undef, undef, undef, undef, undef] w) (by kernel_rfl : (cd Tryz.f41 []) = (cd Tryz.f41 []))) (drill_regions_k h))
theorem drill_regions_go : isGo Tryz.prog 41 := ⟨_, Tryz.func41, by kernel_rfl, by kernel_rfl⟩


theorem drill_one_k {K : KV} {s0 : Value} {w : World}
    (h : box Tryz.prog 27 s0 (fun s1 w =>
    ld Tryz.prog 27 s1 (fun A2 w =>
    bldS Tryz.prog 40 1 #[(0, A2)] (fun A3 w =>
    K A3 w) w) w) w) :
    cCode Tryz.prog (cd Tryz.f222 []) (retK Tryz.prog Tryz.f222.results.toList K) (fun _ _ _ => False) (retK Tryz.prog Tryz.f222.results.toList K) [s0, undef, undef, undef, undef] w := Eq.mp (by kernel_rfl) h

theorem drill_one_in {K : KV} {s0 : Value} {w : World}
    (h : box Tryz.prog 27 s0 (fun s1 w =>
    ld Tryz.prog 27 s1 (fun A2 w =>
    bldS Tryz.prog 40 1 #[(0, A2)] (fun A3 w =>
    K A3 w) w) w) w) :
    Gives Tryz.prog 222 #[s0] w K := enter' Tryz.func222 (by kernel_rfl) (Eq.mp (congrArg (fun c => cCode Tryz.prog c (retK Tryz.prog Tryz.f222.results.toList K) (fun _ _ _ => False) (retK Tryz.prog Tryz.f222.results.toList K) [s0, undef, undef, undef, undef] w) (by kernel_rfl : (cd Tryz.f222 []) = (cd Tryz.f222 []))) (drill_one_k h))
theorem drill_one_go : isGo Tryz.prog 222 := ⟨_, Tryz.func222, by kernel_rfl, by kernel_rfl⟩


theorem drill_Steps_k {K : KV} {n0 e1 under2 : Value} {w : World}
    (h : box Tryz.prog 52 e1 (fun e4 w =>
    call Tryz.prog 41 #[n0] (fun A7 w =>
    un Tryz.prog UnOp.not A7 (fun A8 w =>
    gsel A8 false (fun k11 =>
    fldA Tryz.prog 52 e4 0 (fun C0 w =>
    ld Tryz.prog 5 C0 (fun C1 w =>
    bin Tryz.prog BinOp.lss 5 false true C1 (Value.int IntKind.u8 1) (fun C2 w =>
    k11 [C0, C1, C2] w) w) w) w)
    (fun k => k [undef, undef, undef] w) (fun us11 w =>
    pick A8 (Value.bool true) (gd us11 2) (fun C3 w =>
    gsel C3 false (fun k16 =>
    fldA Tryz.prog 52 e4 0 (fun C5 w =>
    ld Tryz.prog 5 C5 (fun C6 w =>
    bin Tryz.prog BinOp.gtr 5 false true C6 (Value.int IntKind.u8 9) (fun C7 w =>
    k16 [C5, C6, C7] w) w) w) w)
    (fun k => k [undef, undef, undef] w) (fun us16 w =>
    pick C3 (Value.bool true) (gd us16 2) (fun C8 w =>
    cond C8
      (K (Value.slice none 0 0) w)
      (hReg (fun S w =>
    hld S (fun k w => fldA Tryz.prog 52 e4 0 k w) (fun C9 =>
    hld S (fun k w => ld Tryz.prog 5 C9 k w) (fun D0 =>
    hld S (fun k w => idxA Tryz.prog 94 (Value.pointer (some ⟨0, 0, none⟩)) D0 k w) (fun D1 =>
    hld S (fun k w => ld Tryz.prog 93 D1 k w) (fun D2 =>
    hld S (fun k w => ld Tryz.prog 52 e4 k w) (fun D3 =>
    hld S (fun k w => fldA Tryz.prog 52 e4 1 k w) (fun D5 =>
    hld S (fun k w => ld Tryz.prog 5 D5 k w) (fun D6 =>
    hld S (fun k w => conv Tryz.prog 5 3 D6 k w) (fun D7 =>
    hld S (fun k w => bin Tryz.prog BinOp.rem 3 false false D7 n0 k w) (fun D9 =>
    hld (fun _ => True) (fun k w => bin Tryz.prog BinOp.add 3 true false (Value.int IntKind.i64 1) D9 k w) (fun E0 =>
    blt Tryz.prog Builtin.max #[3, 3] 3 #[false, true] #[under2, (Value.int IntKind.i64 0)] (fun E2 w =>
    hSub S (fun S w =>
    hld S (fun k w => bld Tryz.prog 96 #[(0, D3), (1, n0), (2, E0), (3, E2)] k w) (fun E3 =>
    callV Tryz.prog D2 #[E3] (fun E4 w =>
    hReg (fun S w =>
    K E4 w) w) w)) w) w))))))))))) w.drew)) w)) w)) w) w) w) :
    cCode Tryz.prog (cd Tryz.f20 []) (retK Tryz.prog Tryz.f20.results.toList K) (fun _ _ _ => False) (retK Tryz.prog Tryz.f20.results.toList K) [n0, e1, under2, undef, undef, undef, undef, undef, undef, undef, undef, undef, undef, undef, undef, undef, undef, undef, undef, undef, undef, undef, undef, undef, undef, undef, undef, undef, undef, undef, undef, undef, undef, undef, undef, undef] w := Eq.mp (by kernel_rfl) h

theorem drill_Steps_in {K : KV} {n0 e1 under2 : Value} {w : World}
    (h : box Tryz.prog 52 e1 (fun e4 w =>
    call Tryz.prog 41 #[n0] (fun A7 w =>
    un Tryz.prog UnOp.not A7 (fun A8 w =>
    gsel A8 false (fun k11 =>
    fldA Tryz.prog 52 e4 0 (fun C0 w =>
    ld Tryz.prog 5 C0 (fun C1 w =>
    bin Tryz.prog BinOp.lss 5 false true C1 (Value.int IntKind.u8 1) (fun C2 w =>
    k11 [C0, C1, C2] w) w) w) w)
    (fun k => k [undef, undef, undef] w) (fun us11 w =>
    pick A8 (Value.bool true) (gd us11 2) (fun C3 w =>
    gsel C3 false (fun k16 =>
    fldA Tryz.prog 52 e4 0 (fun C5 w =>
    ld Tryz.prog 5 C5 (fun C6 w =>
    bin Tryz.prog BinOp.gtr 5 false true C6 (Value.int IntKind.u8 9) (fun C7 w =>
    k16 [C5, C6, C7] w) w) w) w)
    (fun k => k [undef, undef, undef] w) (fun us16 w =>
    pick C3 (Value.bool true) (gd us16 2) (fun C8 w =>
    cond C8
      (K (Value.slice none 0 0) w)
      (hReg (fun S w =>
    hld S (fun k w => fldA Tryz.prog 52 e4 0 k w) (fun C9 =>
    hld S (fun k w => ld Tryz.prog 5 C9 k w) (fun D0 =>
    hld S (fun k w => idxA Tryz.prog 94 (Value.pointer (some ⟨0, 0, none⟩)) D0 k w) (fun D1 =>
    hld S (fun k w => ld Tryz.prog 93 D1 k w) (fun D2 =>
    hld S (fun k w => ld Tryz.prog 52 e4 k w) (fun D3 =>
    hld S (fun k w => fldA Tryz.prog 52 e4 1 k w) (fun D5 =>
    hld S (fun k w => ld Tryz.prog 5 D5 k w) (fun D6 =>
    hld S (fun k w => conv Tryz.prog 5 3 D6 k w) (fun D7 =>
    hld S (fun k w => bin Tryz.prog BinOp.rem 3 false false D7 n0 k w) (fun D9 =>
    hld (fun _ => True) (fun k w => bin Tryz.prog BinOp.add 3 true false (Value.int IntKind.i64 1) D9 k w) (fun E0 =>
    blt Tryz.prog Builtin.max #[3, 3] 3 #[false, true] #[under2, (Value.int IntKind.i64 0)] (fun E2 w =>
    hSub S (fun S w =>
    hld S (fun k w => bld Tryz.prog 96 #[(0, D3), (1, n0), (2, E0), (3, E2)] k w) (fun E3 =>
    callV Tryz.prog D2 #[E3] (fun E4 w =>
    hReg (fun S w =>
    K E4 w) w) w)) w) w))))))))))) w.drew)) w)) w)) w) w) w) :
    Gives Tryz.prog 20 #[n0, e1, under2] w K := enter' Tryz.func20 (by kernel_rfl) (Eq.mp (congrArg (fun c => cCode Tryz.prog c (retK Tryz.prog Tryz.f20.results.toList K) (fun _ _ _ => False) (retK Tryz.prog Tryz.f20.results.toList K) [n0, e1, under2, undef, undef, undef, undef, undef, undef, undef, undef, undef, undef, undef, undef, undef, undef, undef, undef, undef, undef, undef, undef, undef, undef, undef, undef, undef, undef, undef, undef, undef, undef, undef, undef, undef] w) (by kernel_rfl : (cd Tryz.f20 []) = (cd Tryz.f20 []))) (drill_Steps_k h))
theorem drill_Steps_go : isGo Tryz.prog 20 := ⟨_, Tryz.func20, by kernel_rfl, by kernel_rfl⟩

def drill_makers_1_P1 (K : KV) : KE := cCode Tryz.prog (cd Tryz.f219 [1, 1, 1]) (retK Tryz.prog Tryz.f219.results.toList K) (fun _ _ _ => False) (retK Tryz.prog Tryz.f219.results.toList K)
def drill_makers_1_L1 (K : KV) : KE := cCode Tryz.prog (cd Tryz.f219 [1, 1, 0, 1, 0]) (drill_makers_1_P1 K) (fun i => @Bool.rec (fun _ => KE) ((fun _ _ _ => False) i) (drill_makers_1_P1 K) (Nat.beq i 0)) (retK Tryz.prog Tryz.f219.results.toList K)
def drill_makers_1_P2 (K : KV) (B1 : KE) : KE := cCode Tryz.prog (cd Tryz.f219 [1, 1, 0, 1, 0, 0, 1, 1]) B1 (fun i => @Bool.rec (fun _ => KE) ((fun _ _ _ => False) i) (drill_makers_1_P1 K) (Nat.beq i 0)) (retK Tryz.prog Tryz.f219.results.toList K)
def drill_makers_1_L2 (K : KV) (B1 : KE) : KE := cCode Tryz.prog (cd Tryz.f219 [1, 1, 0, 1, 0, 0, 1, 0, 0, 1, 0]) (drill_makers_1_P2 K B1) (fun i => @Bool.rec (fun _ => KE) ((fun i => @Bool.rec (fun _ => KE) ((fun i => @Bool.rec (fun _ => KE) ((fun _ _ _ => False) i) (drill_makers_1_P1 K) (Nat.beq i 0)) i) (drill_makers_1_P2 K B1) (Nat.beq i 1)) i) (drill_makers_1_P2 K B1) (Nat.beq i 2)) (retK Tryz.prog Tryz.f219.results.toList K)
def drill_makers_1_P3 (K : KV) (B1 : KE) (B2 : KE) : KE := cCode Tryz.prog (cd Tryz.f219 [1, 1, 0, 1, 0, 0, 1, 0, 0, 1, 0, 0, 1, 1]) B2 (fun i => @Bool.rec (fun _ => KE) ((fun i => @Bool.rec (fun _ => KE) ((fun i => @Bool.rec (fun _ => KE) ((fun _ _ _ => False) i) (drill_makers_1_P1 K) (Nat.beq i 0)) i) (drill_makers_1_P2 K B1) (Nat.beq i 1)) i) (drill_makers_1_P2 K B1) (Nat.beq i 2)) (retK Tryz.prog Tryz.f219.results.toList K)
def drill_makers_1_A1 (K : KV) (B1 : KE) (B2 : KE) : KE := cCode Tryz.prog (cd Tryz.f219 [1, 1, 0, 1, 0, 0, 1, 0, 0, 1, 0, 0, 1, 0]) (drill_makers_1_P3 K B1 B2) (fun i => @Bool.rec (fun _ => KE) ((fun i => @Bool.rec (fun _ => KE) ((fun i => @Bool.rec (fun _ => KE) ((fun _ _ _ => False) i) (drill_makers_1_P1 K) (Nat.beq i 0)) i) (drill_makers_1_P2 K B1) (Nat.beq i 1)) i) (drill_makers_1_P2 K B1) (Nat.beq i 2)) (retK Tryz.prog Tryz.f219.results.toList K)
theorem drill_makers_1_k {K : KV} {x0 : Value} {w : World}
    (h : box Tryz.prog 96 x0 (fun x1 w =>
    (cCode Tryz.prog (cd Tryz.f219 [1, 1, 0, 1, 0]) (cCode Tryz.prog (cd Tryz.f219 [1, 1, 1]) (retK Tryz.prog Tryz.f219.results.toList K) (fun _ _ _ => False) (retK Tryz.prog Tryz.f219.results.toList K)) (fun i => @Bool.rec (fun _ => KE) ((fun _ _ _ => False) i) (cCode Tryz.prog (cd Tryz.f219 [1, 1, 1]) (retK Tryz.prog Tryz.f219.results.toList K) (fun _ _ _ => False) (retK Tryz.prog Tryz.f219.results.toList K)) (Nat.beq i 0)) (retK Tryz.prog Tryz.f219.results.toList K)) [x0, x1, (Value.slice none 0 0), (Value.func (Fn.func 220) #[] #[x1]), (Value.int IntKind.i64 1), undef, (Value.func (Fn.func 220) #[] #[x1]), undef, undef, undef, undef, undef, undef, undef, undef, undef, undef, undef, undef, undef, undef, undef, undef, undef, undef, undef, undef, undef, undef, undef, undef, undef, undef, undef, undef] w) w) :
    cCode Tryz.prog (cd Tryz.f219 []) (retK Tryz.prog Tryz.f219.results.toList K) (fun _ _ _ => False) (retK Tryz.prog Tryz.f219.results.toList K) [x0, undef, undef, undef, undef, undef, undef, undef, undef, undef, undef, undef, undef, undef, undef, undef, undef, undef, undef, undef, undef, undef, undef, undef, undef, undef, undef, undef, undef, undef, undef, undef, undef, undef, undef] w := Eq.mp (by kernel_rfl) h

theorem drill_makers_1_in {K : KV} {x0 : Value} {w : World}
    (h : box Tryz.prog 96 x0 (fun x1 w =>
    (drill_makers_1_L1 K) [x0, x1, (Value.slice none 0 0), (Value.func (Fn.func 220) #[] #[x1]), (Value.int IntKind.i64 1), undef, (Value.func (Fn.func 220) #[] #[x1]), undef, undef, undef, undef, undef, undef, undef, undef, undef, undef, undef, undef, undef, undef, undef, undef, undef, undef, undef, undef, undef, undef, undef, undef, undef, undef, undef, undef] w) w) :
    Gives Tryz.prog 219 #[x0] w K := enter' Tryz.func219 (by kernel_rfl) (Eq.mp (congrArg (fun c => cCode Tryz.prog c (retK Tryz.prog Tryz.f219.results.toList K) (fun _ _ _ => False) (retK Tryz.prog Tryz.f219.results.toList K) [x0, undef, undef, undef, undef, undef, undef, undef, undef, undef, undef, undef, undef, undef, undef, undef, undef, undef, undef, undef, undef, undef, undef, undef, undef, undef, undef, undef, undef, undef, undef, undef, undef, undef, undef] w) (by kernel_rfl : (cd Tryz.f219 []) = (cd Tryz.f219 []))) (drill_makers_1_k h))
theorem drill_makers_1_go : isGo Tryz.prog 219 := ⟨_, Tryz.func219, by kernel_rfl, by kernel_rfl⟩

theorem drill_makers_1_L1_k {K : KV} (B1 : KE) (qc0 : KE) {x0 x1 out2' side3 i4' A5 E3 : Value} {dd : Nat → Value} {w : World}
    (h : fldA Tryz.prog 96 x1 1 (fun A7 w =>
    ld Tryz.prog 3 A7 (fun A8 w =>
    bin Tryz.prog BinOp.leq 3 false false i4' A8 (fun A9 w =>
    cond A9
      (bin Tryz.prog BinOp.add 3 false true i4' (Value.int IntKind.i64 1) (fun C3 w =>
    (cCode Tryz.prog (cd Tryz.f219 [1, 1, 0, 1, 0, 0, 1, 0, 0, 1, 0]) (cCode Tryz.prog (cd Tryz.f219 [1, 1, 0, 1, 0, 0, 1, 1]) B1 (fun i => @Bool.rec (fun _ => KE) ((fun _ _ _ => False) i) qc0 (Nat.beq i 0)) (retK Tryz.prog Tryz.f219.results.toList K)) (fun i => @Bool.rec (fun _ => KE) ((fun i => @Bool.rec (fun _ => KE) ((fun i => @Bool.rec (fun _ => KE) ((fun _ _ _ => False) i) qc0 (Nat.beq i 0)) i) (cCode Tryz.prog (cd Tryz.f219 [1, 1, 0, 1, 0, 0, 1, 1]) B1 (fun i => @Bool.rec (fun _ => KE) ((fun _ _ _ => False) i) qc0 (Nat.beq i 0)) (retK Tryz.prog Tryz.f219.results.toList K)) (Nat.beq i 1)) i) (cCode Tryz.prog (cd Tryz.f219 [1, 1, 0, 1, 0, 0, 1, 1]) B1 (fun i => @Bool.rec (fun _ => KE) ((fun _ _ _ => False) i) qc0 (Nat.beq i 0)) (retK Tryz.prog Tryz.f219.results.toList K)) (Nat.beq i 2)) (retK Tryz.prog Tryz.f219.results.toList K)) [x0, x1, out2', side3, i4', C3, A5, i4', A7, A8, A9, (dd 11), (dd 12), i4', C3, (dd 15), (dd 16), (dd 17), (dd 18), (dd 19), (dd 20), (dd 21), (dd 22), (dd 23), (dd 24), (dd 25), (dd 26), (dd 27), (dd 28), (dd 29), (dd 30), (dd 31), (dd 32), (dd 33), E3] w) w)
      (qc0 [x0, x1, out2', side3, i4', (dd 5), A5, i4', A7, A8, A9, (dd 11), (dd 12), (dd 13), (dd 14), (dd 15), (dd 16), (dd 17), (dd 18), (dd 19), (dd 20), (dd 21), (dd 22), (dd 23), (dd 24), (dd 25), (dd 26), (dd 27), (dd 28), (dd 29), (dd 30), (dd 31), (dd 32), (dd 33), E3] w)) w) w) w) :
    cCode Tryz.prog (cd Tryz.f219 [1, 1, 0, 1, 0, 0]) B1 (fun i => @Bool.rec (fun _ => KE) ((fun _ _ _ => False) i) qc0 (Nat.beq i 0)) (retK Tryz.prog Tryz.f219.results.toList K) [x0, x1, out2', side3, i4', (dd 5), A5, (dd 7), (dd 8), (dd 9), (dd 10), (dd 11), (dd 12), (dd 13), (dd 14), (dd 15), (dd 16), (dd 17), (dd 18), (dd 19), (dd 20), (dd 21), (dd 22), (dd 23), (dd 24), (dd 25), (dd 26), (dd 27), (dd 28), (dd 29), (dd 30), (dd 31), (dd 32), (dd 33), E3] w := Eq.mp (by kernel_rfl) h

theorem drill_makers_1_L1_r {K : KV} {x0 x1 out2 side3 i4 j5 A5 A6 A7 A8 A9 C0 C1 C2 C3 C4 C5 C6 C7 C8 C9 D0 D1 D2 D3 D4 D5 D6 D7 D8 D9 E0 E1 E2 E3 : Value} {w : World} (Inv : Value → Value → World → Prop) (μ : Value → Value → World → Nat) (h0 : Inv out2 i4 w)
    (hs : ∀ (out2' i4' : Value) (dd : Nat → Value) (w : World) (m : Nat), Inv out2' i4' w → m = μ out2' i4' w →
    fldA Tryz.prog 96 x1 1 (fun A7 w =>
    ld Tryz.prog 3 A7 (fun A8 w =>
    bin Tryz.prog BinOp.leq 3 false false i4' A8 (fun A9 w =>
    cond A9
      (bin Tryz.prog BinOp.add 3 false true i4' (Value.int IntKind.i64 1) (fun C3 w =>
    (drill_makers_1_L2 K (fun e2 w2 => Inv (gd e2 2) (gd e2 4) w2 ∧ μ (gd e2 2) (gd e2 4) w2 < m)) [x0, x1, out2', side3, i4', C3, A5, i4', A7, A8, A9, (dd 11), (dd 12), i4', C3, (dd 15), (dd 16), (dd 17), (dd 18), (dd 19), (dd 20), (dd 21), (dd 22), (dd 23), (dd 24), (dd 25), (dd 26), (dd 27), (dd 28), (dd 29), (dd 30), (dd 31), (dd 32), (dd 33), E3] w) w)
      ((drill_makers_1_P1 K) [x0, x1, out2', side3, i4', (dd 5), A5, i4', A7, A8, A9, (dd 11), (dd 12), (dd 13), (dd 14), (dd 15), (dd 16), (dd 17), (dd 18), (dd 19), (dd 20), (dd 21), (dd 22), (dd 23), (dd 24), (dd 25), (dd 26), (dd 27), (dd 28), (dd 29), (dd 30), (dd 31), (dd 32), (dd 33), E3] w)) w) w) w) :
    drill_makers_1_L1 K [x0, x1, out2, side3, i4, j5, A5, A6, A7, A8, A9, C0, C1, C2, C3, C4, C5, C6, C7, C8, C9, D0, D1, D2, D3, D4, D5, D6, D7, D8, D9, E0, E1, E2, E3] w := by
  refine loop_rule (cd Tryz.f219 [1, 1, 0, 1, 0, 0]) [2, 4, 5, 7, 8, 9, 10, 11, 12, 13, 14, 15, 16, 17, 18, 19, 20, 21, 22, 23, 24, 25, 26, 27, 28, 29, 30, 31, 32, 33] (by kernel_rfl) (fun e2 w2 => Inv (gd e2 2) (gd e2 4) w2) (fun e2 w2 => μ (gd e2 2) (gd e2 4) w2) h0 ?_
  intro e' w' hI
  have h := hs (gd e' 2) (gd e' 4) (fun i => gd e' i) w' _ hI rfl
  have h2 : cCode Tryz.prog (cd Tryz.f219 [1, 1, 0, 1, 0, 0]) (fun e2 w2 => Inv (gd e2 2) (gd e2 4) w2 ∧ μ (gd e2 2) (gd e2 4) w2 < μ (gd e' 2) (gd e' 4) w') (fun i => @Bool.rec (fun _ => KE) ((fun _ _ _ => False) i) (drill_makers_1_P1 K) (Nat.beq i 0)) (retK Tryz.prog Tryz.f219.results.toList K) [x0, x1, (gd e' 2), side3, (gd e' 4), (gd e' 5), A5, (gd e' 7), (gd e' 8), (gd e' 9), (gd e' 10), (gd e' 11), (gd e' 12), (gd e' 13), (gd e' 14), (gd e' 15), (gd e' 16), (gd e' 17), (gd e' 18), (gd e' 19), (gd e' 20), (gd e' 21), (gd e' 22), (gd e' 23), (gd e' 24), (gd e' 25), (gd e' 26), (gd e' 27), (gd e' 28), (gd e' 29), (gd e' 30), (gd e' 31), (gd e' 32), (gd e' 33), E3] w' := drill_makers_1_L1_k (fun e2 w2 => Inv (gd e2 2) (gd e2 4) w2 ∧ μ (gd e2 2) (gd e2 4) w2 < μ (gd e' 2) (gd e' 4) w') (drill_makers_1_P1 K) (Eq.mp (by kernel_rfl) h)
  exact Eq.mp (by kernel_rfl) h2

theorem drill_makers_1_L2_k {K : KV} (B1 : KE) (B2 : KE) (qc0 : KE) (qc1 : KE) (xc0 : Code) {x0 x1 out2' side3 i4 j5' A5 A6 A7 A8 A9 C0 C1 C2 C3 E3 : Value} {dd : Nat → Value} {w : World}
    (h : fldA Tryz.prog 96 x1 1 (fun C5 w =>
    ld Tryz.prog 3 C5 (fun C6 w =>
    bin Tryz.prog BinOp.leq 3 false false j5' C6 (fun C7 w =>
    cond C7
      ((cCode Tryz.prog xc0 (cCode Tryz.prog (cd Tryz.f219 [1, 1, 0, 1, 0, 0, 1, 0, 0, 1, 0, 0, 1, 1]) B2 (fun i => @Bool.rec (fun _ => KE) ((fun i => @Bool.rec (fun _ => KE) ((fun i => @Bool.rec (fun _ => KE) ((fun _ _ _ => False) i) qc0 (Nat.beq i 0)) i) qc1 (Nat.beq i 1)) i) qc1 (Nat.beq i 2)) (retK Tryz.prog Tryz.f219.results.toList K)) (fun i => @Bool.rec (fun _ => KE) ((fun i => @Bool.rec (fun _ => KE) ((fun i => @Bool.rec (fun _ => KE) ((fun _ _ _ => False) i) qc0 (Nat.beq i 0)) i) qc1 (Nat.beq i 1)) i) qc1 (Nat.beq i 2)) (retK Tryz.prog Tryz.f219.results.toList K)) [x0, x1, out2', side3, i4, j5', A5, A6, A7, A8, A9, C0, C1, C2, C3, j5', C5, C6, C7, (dd 19), (dd 20), (dd 21), (dd 22), (dd 23), (dd 24), (dd 25), (dd 26), (dd 27), (dd 28), (dd 29), (dd 30), (dd 31), (dd 32), (dd 33), E3] w)
      (qc1 [x0, x1, out2', side3, i4, j5', A5, A6, A7, A8, A9, C0, C1, C2, C3, j5', C5, C6, C7, (dd 19), (dd 20), (dd 21), (dd 22), (dd 23), (dd 24), (dd 25), (dd 26), (dd 27), (dd 28), (dd 29), (dd 30), (dd 31), (dd 32), (dd 33), E3] w)) w) w) w) :
    cCode Tryz.prog (rep [1, 0] xc0 (cd Tryz.f219 [1, 1, 0, 1, 0, 0, 1, 0, 0, 1, 0, 0])) B2 (fun i => @Bool.rec (fun _ => KE) ((fun i => @Bool.rec (fun _ => KE) ((fun i => @Bool.rec (fun _ => KE) ((fun _ _ _ => False) i) qc0 (Nat.beq i 0)) i) qc1 (Nat.beq i 1)) i) qc1 (Nat.beq i 2)) (retK Tryz.prog Tryz.f219.results.toList K) [x0, x1, out2', side3, i4, j5', A5, A6, A7, A8, A9, C0, C1, C2, C3, (dd 15), (dd 16), (dd 17), (dd 18), (dd 19), (dd 20), (dd 21), (dd 22), (dd 23), (dd 24), (dd 25), (dd 26), (dd 27), (dd 28), (dd 29), (dd 30), (dd 31), (dd 32), (dd 33), E3] w := Eq.mp (by kernel_rfl) h

theorem drill_makers_1_L2_r {K : KV} {B1 : KE} {x0 x1 out2 side3 i4 j5 A5 A6 A7 A8 A9 C0 C1 C2 C3 C4 C5 C6 C7 C8 C9 D0 D1 D2 D3 D4 D5 D6 D7 D8 D9 E0 E1 E2 E3 : Value} {w : World} (Inv : Value → Value → World → Prop) (μ : Value → Value → World → Nat) (h0 : Inv out2 j5 w)
    (hs : ∀ (out2' j5' : Value) (dd : Nat → Value) (w : World) (m : Nat), Inv out2' j5' w → m = μ out2' j5' w →
    fldA Tryz.prog 96 x1 1 (fun C5 w =>
    ld Tryz.prog 3 C5 (fun C6 w =>
    bin Tryz.prog BinOp.leq 3 false false j5' C6 (fun C7 w =>
    cond C7
      ((drill_makers_1_A1 K B1 (fun e2 w2 => Inv (gd e2 2) (gd e2 5) w2 ∧ μ (gd e2 2) (gd e2 5) w2 < m)) [x0, x1, out2', side3, i4, j5', A5, A6, A7, A8, A9, C0, C1, C2, C3, j5', C5, C6, C7, (dd 19), (dd 20), (dd 21), (dd 22), (dd 23), (dd 24), (dd 25), (dd 26), (dd 27), (dd 28), (dd 29), (dd 30), (dd 31), (dd 32), (dd 33), E3] w)
      ((drill_makers_1_P2 K B1) [x0, x1, out2', side3, i4, j5', A5, A6, A7, A8, A9, C0, C1, C2, C3, j5', C5, C6, C7, (dd 19), (dd 20), (dd 21), (dd 22), (dd 23), (dd 24), (dd 25), (dd 26), (dd 27), (dd 28), (dd 29), (dd 30), (dd 31), (dd 32), (dd 33), E3] w)) w) w) w) :
    drill_makers_1_L2 K B1 [x0, x1, out2, side3, i4, j5, A5, A6, A7, A8, A9, C0, C1, C2, C3, C4, C5, C6, C7, C8, C9, D0, D1, D2, D3, D4, D5, D6, D7, D8, D9, E0, E1, E2, E3] w := by
  refine loop_rule (cd Tryz.f219 [1, 1, 0, 1, 0, 0, 1, 0, 0, 1, 0, 0]) [2, 5, 15, 16, 17, 18, 19, 20, 21, 22, 23, 24, 25, 26, 27, 28, 29, 30, 31, 32, 33] (by kernel_rfl) (fun e2 w2 => Inv (gd e2 2) (gd e2 5) w2) (fun e2 w2 => μ (gd e2 2) (gd e2 5) w2) h0 ?_
  intro e' w' hI
  have h := hs (gd e' 2) (gd e' 5) (fun i => gd e' i) w' _ hI rfl
  have h2 : cCode Tryz.prog (rep [1, 0] (cd Tryz.f219 [1, 1, 0, 1, 0, 0, 1, 0, 0, 1, 0, 0, 1, 0]) (cd Tryz.f219 [1, 1, 0, 1, 0, 0, 1, 0, 0, 1, 0, 0])) (fun e2 w2 => Inv (gd e2 2) (gd e2 5) w2 ∧ μ (gd e2 2) (gd e2 5) w2 < μ (gd e' 2) (gd e' 5) w') (fun i => @Bool.rec (fun _ => KE) ((fun i => @Bool.rec (fun _ => KE) ((fun i => @Bool.rec (fun _ => KE) ((fun _ _ _ => False) i) (drill_makers_1_P1 K) (Nat.beq i 0)) i) (drill_makers_1_P2 K B1) (Nat.beq i 1)) i) (drill_makers_1_P2 K B1) (Nat.beq i 2)) (retK Tryz.prog Tryz.f219.results.toList K) [x0, x1, (gd e' 2), side3, i4, (gd e' 5), A5, A6, A7, A8, A9, C0, C1, C2, C3, (gd e' 15), (gd e' 16), (gd e' 17), (gd e' 18), (gd e' 19), (gd e' 20), (gd e' 21), (gd e' 22), (gd e' 23), (gd e' 24), (gd e' 25), (gd e' 26), (gd e' 27), (gd e' 28), (gd e' 29), (gd e' 30), (gd e' 31), (gd e' 32), (gd e' 33), E3] w' := drill_makers_1_L2_k B1 (fun e2 w2 => Inv (gd e2 2) (gd e2 5) w2 ∧ μ (gd e2 2) (gd e2 5) w2 < μ (gd e' 2) (gd e' 5) w') (drill_makers_1_P1 K) (drill_makers_1_P2 K B1) (cd Tryz.f219 [1, 1, 0, 1, 0, 0, 1, 0, 0, 1, 0, 0, 1, 0]) (Eq.mp (by kernel_rfl) h)
  exact Eq.mp (by kernel_rfl) h2

theorem drill_makers_1_P1_k {K : KV} {x0 x1 out2 side3 i4 j5 A5 A6 A7 A8 A9 C0 C1 C2 C3 C4 C5 C6 C7 C8 C9 D0 D1 D2 D3 D4 D5 D6 D7 D8 D9 E0 E1 E2 E3 : Value} {w : World}
    (h : K out2 w) :
    cCode Tryz.prog (cd Tryz.f219 [1, 1, 1]) (retK Tryz.prog Tryz.f219.results.toList K) (fun _ _ _ => False) (retK Tryz.prog Tryz.f219.results.toList K) [x0, x1, out2, side3, i4, j5, A5, A6, A7, A8, A9, C0, C1, C2, C3, C4, C5, C6, C7, C8, C9, D0, D1, D2, D3, D4, D5, D6, D7, D8, D9, E0, E1, E2, E3] w := Eq.mp (by kernel_rfl) h

theorem drill_makers_1_P1_r {K : KV} {x0 x1 out2 side3 i4 j5 A5 A6 A7 A8 A9 C0 C1 C2 C3 C4 C5 C6 C7 C8 C9 D0 D1 D2 D3 D4 D5 D6 D7 D8 D9 E0 E1 E2 E3 : Value} {w : World}
    (h : K out2 w) :
    drill_makers_1_P1 K [x0, x1, out2, side3, i4, j5, A5, A6, A7, A8, A9, C0, C1, C2, C3, C4, C5, C6, C7, C8, C9, D0, D1, D2, D3, D4, D5, D6, D7, D8, D9, E0, E1, E2, E3] w := by
  delta drill_makers_1_P1
  exact Eq.mp (congrArg (fun c => cCode Tryz.prog c (retK Tryz.prog Tryz.f219.results.toList K) (fun _ _ _ => False) (retK Tryz.prog Tryz.f219.results.toList K) [x0, x1, out2, side3, i4, j5, A5, A6, A7, A8, A9, C0, C1, C2, C3, C4, C5, C6, C7, C8, C9, D0, D1, D2, D3, D4, D5, D6, D7, D8, D9, E0, E1, E2, E3] w) (by kernel_rfl : (cd Tryz.f219 [1, 1, 1]) = (cd Tryz.f219 [1, 1, 1]))) (drill_makers_1_P1_k h)

theorem drill_makers_1_A1_k {K : KV} (B1 : KE) (B2 : KE) (qc0 : KE) (qc1 : KE) (qc2 : KE) {x0 x1 out2 side3 i4 j5 A5 A6 A7 A8 A9 C0 C1 C2 C3 C4 C5 C6 C7 C8 C9 D0 D1 D2 D3 D4 D5 D6 D7 D8 D9 E0 E1 E2 E3 : Value} {w : World}
    (h : callV Tryz.prog side3 #[i4] (fun D2 w =>
    callV Tryz.prog side3 #[j5] (fun D5 w =>
    bin Tryz.prog BinOp.neq 5 false false D2 D5 (fun D6 w =>
    cond D6
      (bld Tryz.prog 27 #[(0, (Value.int IntKind.u8 7)), (1, i4), (4, j5)] (fun E0 w =>
      bldS Tryz.prog 40 1 #[(0, E0)] (fun E1 w =>
      blt Tryz.prog Builtin.append #[40, 40] 40 #[false, false] #[out2, E1] (fun E2 w =>
      qc0 [x0, x1, E2, side3, i4, j5, A5, A6, A7, A8, A9, C0, C1, C2, C3, C4, C5, C6, C7, C8, C9, side3, i4, D2, side3, j5, D5, D6, out2, i4, j5, E0, E1, E2, E3] w) w) w) w)
      (qc0 [x0, x1, out2, side3, i4, j5, A5, A6, A7, A8, A9, C0, C1, C2, C3, C4, C5, C6, C7, C8, C9, side3, i4, D2, side3, j5, D5, D6, D7, D8, D9, E0, E1, E2, E3] w)) w) w) w) :
    cCode Tryz.prog (cd Tryz.f219 [1, 1, 0, 1, 0, 0, 1, 0, 0, 1, 0, 0, 1, 0]) qc0 (fun i => @Bool.rec (fun _ => KE) ((fun i => @Bool.rec (fun _ => KE) ((fun i => @Bool.rec (fun _ => KE) ((fun _ _ _ => False) i) qc1 (Nat.beq i 0)) i) qc2 (Nat.beq i 1)) i) qc2 (Nat.beq i 2)) (retK Tryz.prog Tryz.f219.results.toList K) [x0, x1, out2, side3, i4, j5, A5, A6, A7, A8, A9, C0, C1, C2, C3, C4, C5, C6, C7, C8, C9, D0, D1, D2, D3, D4, D5, D6, D7, D8, D9, E0, E1, E2, E3] w := Eq.mp (by kernel_rfl) h

theorem drill_makers_1_A1_r {K : KV} {B1 : KE} {B2 : KE} {x0 x1 out2 side3 i4 j5 A5 A6 A7 A8 A9 C0 C1 C2 C3 C4 C5 C6 C7 C8 C9 D0 D1 D2 D3 D4 D5 D6 D7 D8 D9 E0 E1 E2 E3 : Value} {w : World}
    (h : callV Tryz.prog side3 #[i4] (fun D2 w =>
    callV Tryz.prog side3 #[j5] (fun D5 w =>
    bin Tryz.prog BinOp.neq 5 false false D2 D5 (fun D6 w =>
    cond D6
      (bld Tryz.prog 27 #[(0, (Value.int IntKind.u8 7)), (1, i4), (4, j5)] (fun E0 w =>
      bldS Tryz.prog 40 1 #[(0, E0)] (fun E1 w =>
      blt Tryz.prog Builtin.append #[40, 40] 40 #[false, false] #[out2, E1] (fun E2 w =>
      (drill_makers_1_P3 K B1 B2) [x0, x1, E2, side3, i4, j5, A5, A6, A7, A8, A9, C0, C1, C2, C3, C4, C5, C6, C7, C8, C9, side3, i4, D2, side3, j5, D5, D6, out2, i4, j5, E0, E1, E2, E3] w) w) w) w)
      ((drill_makers_1_P3 K B1 B2) [x0, x1, out2, side3, i4, j5, A5, A6, A7, A8, A9, C0, C1, C2, C3, C4, C5, C6, C7, C8, C9, side3, i4, D2, side3, j5, D5, D6, D7, D8, D9, E0, E1, E2, E3] w)) w) w) w) :
    drill_makers_1_A1 K B1 B2 [x0, x1, out2, side3, i4, j5, A5, A6, A7, A8, A9, C0, C1, C2, C3, C4, C5, C6, C7, C8, C9, D0, D1, D2, D3, D4, D5, D6, D7, D8, D9, E0, E1, E2, E3] w := by
  delta drill_makers_1_A1
  exact Eq.mp (congrArg (fun c => cCode Tryz.prog c (drill_makers_1_P3 K B1 B2) (fun i => @Bool.rec (fun _ => KE) ((fun i => @Bool.rec (fun _ => KE) ((fun i => @Bool.rec (fun _ => KE) ((fun _ _ _ => False) i) (drill_makers_1_P1 K) (Nat.beq i 0)) i) (drill_makers_1_P2 K B1) (Nat.beq i 1)) i) (drill_makers_1_P2 K B1) (Nat.beq i 2)) (retK Tryz.prog Tryz.f219.results.toList K) [x0, x1, out2, side3, i4, j5, A5, A6, A7, A8, A9, C0, C1, C2, C3, C4, C5, C6, C7, C8, C9, D0, D1, D2, D3, D4, D5, D6, D7, D8, D9, E0, E1, E2, E3] w) (by kernel_rfl : (cd Tryz.f219 [1, 1, 0, 1, 0, 0, 1, 0, 0, 1, 0, 0, 1, 0]) = (cd Tryz.f219 [1, 1, 0, 1, 0, 0, 1, 0, 0, 1, 0, 0, 1, 0]))) (drill_makers_1_A1_k B1 B2 (drill_makers_1_P3 K B1 B2) (drill_makers_1_P1 K) (drill_makers_1_P2 K B1) h)

theorem drill_makers_1_P2_k {K : KV} (B1 : KE) (qc0 : KE) {x0 x1 out2 side3 i4 j5 A5 A6 A7 A8 A9 C0 C1 C2 C3 C4 C5 C6 C7 C8 C9 D0 D1 D2 D3 D4 D5 D6 D7 D8 D9 E0 E1 E2 E3 : Value} {w : World}
    (h : bin Tryz.prog BinOp.add 3 false true i4 (Value.int IntKind.i64 1) (fun C1 w =>
    B1 [x0, x1, out2, side3, C1, j5, A5, A6, A7, A8, A9, i4, C1, C2, C3, C4, C5, C6, C7, C8, C9, D0, D1, D2, D3, D4, D5, D6, D7, D8, D9, E0, E1, E2, E3] w) w) :
    cCode Tryz.prog (cd Tryz.f219 [1, 1, 0, 1, 0, 0, 1, 1]) B1 (fun i => @Bool.rec (fun _ => KE) ((fun _ _ _ => False) i) qc0 (Nat.beq i 0)) (retK Tryz.prog Tryz.f219.results.toList K) [x0, x1, out2, side3, i4, j5, A5, A6, A7, A8, A9, C0, C1, C2, C3, C4, C5, C6, C7, C8, C9, D0, D1, D2, D3, D4, D5, D6, D7, D8, D9, E0, E1, E2, E3] w := Eq.mp (by kernel_rfl) h

theorem drill_makers_1_P2_r {K : KV} {B1 : KE} {x0 x1 out2 side3 i4 j5 A5 A6 A7 A8 A9 C0 C1 C2 C3 C4 C5 C6 C7 C8 C9 D0 D1 D2 D3 D4 D5 D6 D7 D8 D9 E0 E1 E2 E3 : Value} {w : World}
    (h : bin Tryz.prog BinOp.add 3 false true i4 (Value.int IntKind.i64 1) (fun C1 w =>
    B1 [x0, x1, out2, side3, C1, j5, A5, A6, A7, A8, A9, i4, C1, C2, C3, C4, C5, C6, C7, C8, C9, D0, D1, D2, D3, D4, D5, D6, D7, D8, D9, E0, E1, E2, E3] w) w) :
    drill_makers_1_P2 K B1 [x0, x1, out2, side3, i4, j5, A5, A6, A7, A8, A9, C0, C1, C2, C3, C4, C5, C6, C7, C8, C9, D0, D1, D2, D3, D4, D5, D6, D7, D8, D9, E0, E1, E2, E3] w := by
  delta drill_makers_1_P2
  exact Eq.mp (congrArg (fun c => cCode Tryz.prog c B1 (fun i => @Bool.rec (fun _ => KE) ((fun _ _ _ => False) i) (drill_makers_1_P1 K) (Nat.beq i 0)) (retK Tryz.prog Tryz.f219.results.toList K) [x0, x1, out2, side3, i4, j5, A5, A6, A7, A8, A9, C0, C1, C2, C3, C4, C5, C6, C7, C8, C9, D0, D1, D2, D3, D4, D5, D6, D7, D8, D9, E0, E1, E2, E3] w) (by kernel_rfl : (cd Tryz.f219 [1, 1, 0, 1, 0, 0, 1, 1]) = (cd Tryz.f219 [1, 1, 0, 1, 0, 0, 1, 1]))) (drill_makers_1_P2_k B1 (drill_makers_1_P1 K) h)

theorem drill_makers_1_P3_k {K : KV} (B1 : KE) (B2 : KE) (qc0 : KE) (qc1 : KE) {x0 x1 out2 side3 i4 j5 A5 A6 A7 A8 A9 C0 C1 C2 C3 C4 C5 C6 C7 C8 C9 D0 D1 D2 D3 D4 D5 D6 D7 D8 D9 E0 E1 E2 E3 : Value} {w : World}
    (h : bin Tryz.prog BinOp.add 3 false true j5 (Value.int IntKind.i64 1) (fun C9 w =>
    B2 [x0, x1, out2, side3, i4, C9, A5, A6, A7, A8, A9, C0, C1, C2, C3, C4, C5, C6, C7, j5, C9, D0, D1, D2, D3, D4, D5, D6, D7, D8, D9, E0, E1, E2, E3] w) w) :
    cCode Tryz.prog (cd Tryz.f219 [1, 1, 0, 1, 0, 0, 1, 0, 0, 1, 0, 0, 1, 1]) B2 (fun i => @Bool.rec (fun _ => KE) ((fun i => @Bool.rec (fun _ => KE) ((fun i => @Bool.rec (fun _ => KE) ((fun _ _ _ => False) i) qc0 (Nat.beq i 0)) i) qc1 (Nat.beq i 1)) i) qc1 (Nat.beq i 2)) (retK Tryz.prog Tryz.f219.results.toList K) [x0, x1, out2, side3, i4, j5, A5, A6, A7, A8, A9, C0, C1, C2, C3, C4, C5, C6, C7, C8, C9, D0, D1, D2, D3, D4, D5, D6, D7, D8, D9, E0, E1, E2, E3] w := Eq.mp (by kernel_rfl) h

theorem drill_makers_1_P3_r {K : KV} {B1 : KE} {B2 : KE} {x0 x1 out2 side3 i4 j5 A5 A6 A7 A8 A9 C0 C1 C2 C3 C4 C5 C6 C7 C8 C9 D0 D1 D2 D3 D4 D5 D6 D7 D8 D9 E0 E1 E2 E3 : Value} {w : World}
    (h : bin Tryz.prog BinOp.add 3 false true j5 (Value.int IntKind.i64 1) (fun C9 w =>
    B2 [x0, x1, out2, side3, i4, C9, A5, A6, A7, A8, A9, C0, C1, C2, C3, C4, C5, C6, C7, j5, C9, D0, D1, D2, D3, D4, D5, D6, D7, D8, D9, E0, E1, E2, E3] w) w) :
    drill_makers_1_P3 K B1 B2 [x0, x1, out2, side3, i4, j5, A5, A6, A7, A8, A9, C0, C1, C2, C3, C4, C5, C6, C7, C8, C9, D0, D1, D2, D3, D4, D5, D6, D7, D8, D9, E0, E1, E2, E3] w := by
  delta drill_makers_1_P3
  exact Eq.mp (congrArg (fun c => cCode Tryz.prog c B2 (fun i => @Bool.rec (fun _ => KE) ((fun i => @Bool.rec (fun _ => KE) ((fun i => @Bool.rec (fun _ => KE) ((fun _ _ _ => False) i) (drill_makers_1_P1 K) (Nat.beq i 0)) i) (drill_makers_1_P2 K B1) (Nat.beq i 1)) i) (drill_makers_1_P2 K B1) (Nat.beq i 2)) (retK Tryz.prog Tryz.f219.results.toList K) [x0, x1, out2, side3, i4, j5, A5, A6, A7, A8, A9, C0, C1, C2, C3, C4, C5, C6, C7, C8, C9, D0, D1, D2, D3, D4, D5, D6, D7, D8, D9, E0, E1, E2, E3] w) (by kernel_rfl : (cd Tryz.f219 [1, 1, 0, 1, 0, 0, 1, 0, 0, 1, 0, 0, 1, 1]) = (cd Tryz.f219 [1, 1, 0, 1, 0, 0, 1, 0, 0, 1, 0, 0, 1, 1]))) (drill_makers_1_P3_k B1 B2 (drill_makers_1_P1 K) (drill_makers_1_P2 K B1) h)
attribute [irreducible] drill_makers_1_P1 drill_makers_1_L1 drill_makers_1_P2 drill_makers_1_L2 drill_makers_1_P3 drill_makers_1_A1


theorem drill_makers_1_1_k {K : KV} {i0 A1 : Value} {w : World}
    (h : fldA Tryz.prog 96 A1 0 (fun A3 w =>
    fldA Tryz.prog 52 A3 1 (fun A4 w =>
    ld Tryz.prog 5 A4 (fun A5 w =>
    bin Tryz.prog BinOp.sub 3 false true i0 (Value.int IntKind.i64 1) (fun A7 w =>
    bin Tryz.prog BinOp.shr 5 false false A5 A7 (fun A8 w =>
    bin Tryz.prog BinOp.and 5 false true A8 (Value.int IntKind.u8 1) (fun A9 w =>
    K A9 w) w) w) w) w) w) w) :
    cCode Tryz.prog (cd Tryz.f220 []) (retK Tryz.prog Tryz.f220.results.toList K) (fun _ _ _ => False) (retK Tryz.prog Tryz.f220.results.toList K) [i0, A1, undef, undef, undef, undef, undef, undef, undef, undef, undef] w := Eq.mp (by kernel_rfl) h

theorem drill_makers_1_1_in {K : KV} {i0 A1 : Value} {w : World}
    (h : fldA Tryz.prog 96 A1 0 (fun A3 w =>
    fldA Tryz.prog 52 A3 1 (fun A4 w =>
    ld Tryz.prog 5 A4 (fun A5 w =>
    bin Tryz.prog BinOp.sub 3 false true i0 (Value.int IntKind.i64 1) (fun A7 w =>
    bin Tryz.prog BinOp.shr 5 false false A5 A7 (fun A8 w =>
    bin Tryz.prog BinOp.and 5 false true A8 (Value.int IntKind.u8 1) (fun A9 w =>
    K A9 w) w) w) w) w) w) w) :
    Gives Tryz.prog 220 #[i0, A1] w K := enter' Tryz.func220 (by kernel_rfl) (Eq.mp (congrArg (fun c => cCode Tryz.prog c (retK Tryz.prog Tryz.f220.results.toList K) (fun _ _ _ => False) (retK Tryz.prog Tryz.f220.results.toList K) [i0, A1, undef, undef, undef, undef, undef, undef, undef, undef, undef] w) (by kernel_rfl : (cd Tryz.f220 []) = (cd Tryz.f220 []))) (drill_makers_1_1_k h))
theorem drill_makers_1_1_go : isGo Tryz.prog 220 := ⟨_, Tryz.func220, by kernel_rfl, by kernel_rfl⟩


theorem drill_makers_2_k {K : KV} {A0 : Value} {w : World}
    (h : box Tryz.prog 96 A0 (fun A1 w =>
    bld Tryz.prog 27 #[(0, (Value.int IntKind.u8 8))] (fun A2 w =>
    call Tryz.prog 222 #[A2] (fun A3 w =>
    K A3 w) w) w) w) :
    cCode Tryz.prog (cd Tryz.f221 []) (retK Tryz.prog Tryz.f221.results.toList K) (fun _ _ _ => False) (retK Tryz.prog Tryz.f221.results.toList K) [A0, undef, undef, undef, undef] w := Eq.mp (by kernel_rfl) h

theorem drill_makers_2_in {K : KV} {A0 : Value} {w : World}
    (h : box Tryz.prog 96 A0 (fun A1 w =>
    bld Tryz.prog 27 #[(0, (Value.int IntKind.u8 8))] (fun A2 w =>
    call Tryz.prog 222 #[A2] (fun A3 w =>
    K A3 w) w) w) w) :
    Gives Tryz.prog 221 #[A0] w K := enter' Tryz.func221 (by kernel_rfl) (Eq.mp (congrArg (fun c => cCode Tryz.prog c (retK Tryz.prog Tryz.f221.results.toList K) (fun _ _ _ => False) (retK Tryz.prog Tryz.f221.results.toList K) [A0, undef, undef, undef, undef] w) (by kernel_rfl : (cd Tryz.f221 []) = (cd Tryz.f221 []))) (drill_makers_2_k h))
theorem drill_makers_2_go : isGo Tryz.prog 221 := ⟨_, Tryz.func221, by kernel_rfl, by kernel_rfl⟩


theorem drill_makers_3_k {K : KV} {x0 : Value} {w : World}
    (h : box Tryz.prog 96 x0 (fun x1 w =>
    fldA Tryz.prog 96 x1 2 (fun A2 w =>
    ld Tryz.prog 3 A2 (fun A3 w =>
    bld Tryz.prog 27 #[(0, (Value.int IntKind.u8 10)), (1, A3)] (fun A4 w =>
    call Tryz.prog 222 #[A4] (fun A5 w =>
    K A5 w) w) w) w) w) w) :
    cCode Tryz.prog (cd Tryz.f223 []) (retK Tryz.prog Tryz.f223.results.toList K) (fun _ _ _ => False) (retK Tryz.prog Tryz.f223.results.toList K) [x0, undef, undef, undef, undef, undef, undef] w := Eq.mp (by kernel_rfl) h

theorem drill_makers_3_in {K : KV} {x0 : Value} {w : World}
    (h : box Tryz.prog 96 x0 (fun x1 w =>
    fldA Tryz.prog 96 x1 2 (fun A2 w =>
    ld Tryz.prog 3 A2 (fun A3 w =>
    bld Tryz.prog 27 #[(0, (Value.int IntKind.u8 10)), (1, A3)] (fun A4 w =>
    call Tryz.prog 222 #[A4] (fun A5 w =>
    K A5 w) w) w) w) w) w) :
    Gives Tryz.prog 223 #[x0] w K := enter' Tryz.func223 (by kernel_rfl) (Eq.mp (congrArg (fun c => cCode Tryz.prog c (retK Tryz.prog Tryz.f223.results.toList K) (fun _ _ _ => False) (retK Tryz.prog Tryz.f223.results.toList K) [x0, undef, undef, undef, undef, undef, undef] w) (by kernel_rfl : (cd Tryz.f223 []) = (cd Tryz.f223 []))) (drill_makers_3_k h))
theorem drill_makers_3_go : isGo Tryz.prog 223 := ⟨_, Tryz.func223, by kernel_rfl, by kernel_rfl⟩


theorem drill_makers_4_k {K : KV} {x0 : Value} {w : World}
    (h : box Tryz.prog 96 x0 (fun x1 w =>
    fldA Tryz.prog 96 x1 2 (fun A2 w =>
    ld Tryz.prog 3 A2 (fun A3 w =>
    bld Tryz.prog 27 #[(0, (Value.int IntKind.u8 11)), (1, A3)] (fun A4 w =>
    call Tryz.prog 222 #[A4] (fun A5 w =>
    K A5 w) w) w) w) w) w) :
    cCode Tryz.prog (cd Tryz.f224 []) (retK Tryz.prog Tryz.f224.results.toList K) (fun _ _ _ => False) (retK Tryz.prog Tryz.f224.results.toList K) [x0, undef, undef, undef, undef, undef, undef] w := Eq.mp (by kernel_rfl) h

theorem drill_makers_4_in {K : KV} {x0 : Value} {w : World}
    (h : box Tryz.prog 96 x0 (fun x1 w =>
    fldA Tryz.prog 96 x1 2 (fun A2 w =>
    ld Tryz.prog 3 A2 (fun A3 w =>
    bld Tryz.prog 27 #[(0, (Value.int IntKind.u8 11)), (1, A3)] (fun A4 w =>
    call Tryz.prog 222 #[A4] (fun A5 w =>
    K A5 w) w) w) w) w) w) :
    Gives Tryz.prog 224 #[x0] w K := enter' Tryz.func224 (by kernel_rfl) (Eq.mp (congrArg (fun c => cCode Tryz.prog c (retK Tryz.prog Tryz.f224.results.toList K) (fun _ _ _ => False) (retK Tryz.prog Tryz.f224.results.toList K) [x0, undef, undef, undef, undef, undef, undef] w) (by kernel_rfl : (cd Tryz.f224 []) = (cd Tryz.f224 []))) (drill_makers_4_k h))
theorem drill_makers_4_go : isGo Tryz.prog 224 := ⟨_, Tryz.func224, by kernel_rfl, by kernel_rfl⟩


theorem drill_makers_5_k {K : KV} {x0 : Value} {w : World}
    (h : box Tryz.prog 96 x0 (fun x1 w =>
    fldA Tryz.prog 96 x1 2 (fun A2 w =>
    ld Tryz.prog 3 A2 (fun A3 w =>
    fldA Tryz.prog 96 x1 0 (fun A4 w =>
    fldA Tryz.prog 52 A4 2 (fun A5 w =>
    ld Tryz.prog 3 A5 (fun A6 w =>
    bld Tryz.prog 27 #[(0, (Value.int IntKind.u8 9)), (1, A3), (5, A6)] (fun A7 w =>
    call Tryz.prog 222 #[A7] (fun A8 w =>
    K A8 w) w) w) w) w) w) w) w) w) :
    cCode Tryz.prog (cd Tryz.f225 []) (retK Tryz.prog Tryz.f225.results.toList K) (fun _ _ _ => False) (retK Tryz.prog Tryz.f225.results.toList K) [x0, undef, undef, undef, undef, undef, undef, undef, undef, undef] w := Eq.mp (by kernel_rfl) h

theorem drill_makers_5_in {K : KV} {x0 : Value} {w : World}
    (h : box Tryz.prog 96 x0 (fun x1 w =>
    fldA Tryz.prog 96 x1 2 (fun A2 w =>
    ld Tryz.prog 3 A2 (fun A3 w =>
    fldA Tryz.prog 96 x1 0 (fun A4 w =>
    fldA Tryz.prog 52 A4 2 (fun A5 w =>
    ld Tryz.prog 3 A5 (fun A6 w =>
    bld Tryz.prog 27 #[(0, (Value.int IntKind.u8 9)), (1, A3), (5, A6)] (fun A7 w =>
    call Tryz.prog 222 #[A7] (fun A8 w =>
    K A8 w) w) w) w) w) w) w) w) w) :
    Gives Tryz.prog 225 #[x0] w K := enter' Tryz.func225 (by kernel_rfl) (Eq.mp (congrArg (fun c => cCode Tryz.prog c (retK Tryz.prog Tryz.f225.results.toList K) (fun _ _ _ => False) (retK Tryz.prog Tryz.f225.results.toList K) [x0, undef, undef, undef, undef, undef, undef, undef, undef, undef] w) (by kernel_rfl : (cd Tryz.f225 []) = (cd Tryz.f225 []))) (drill_makers_5_k h))
theorem drill_makers_5_go : isGo Tryz.prog 225 := ⟨_, Tryz.func225, by kernel_rfl, by kernel_rfl⟩

def drill_makers_6_P1 (K : KV) : KE := cCode Tryz.prog (cd Tryz.f226 [1, 1]) (retK Tryz.prog Tryz.f226.results.toList K) (fun _ _ _ => False) (retK Tryz.prog Tryz.f226.results.toList K)
def drill_makers_6_L1 (K : KV) : KE := cCode Tryz.prog (cd Tryz.f226 [1, 0, 1, 0]) (drill_makers_6_P1 K) (fun i => @Bool.rec (fun _ => KE) ((fun _ _ _ => False) i) (drill_makers_6_P1 K) (Nat.beq i 0)) (retK Tryz.prog Tryz.f226.results.toList K)
theorem drill_makers_6_k {K : KV} {x0 : Value} {w : World}
    (h : box Tryz.prog 96 x0 (fun x1 w =>
    fldA Tryz.prog 96 x1 3 (fun A2 w =>
    ld Tryz.prog 3 A2 (fun A3 w =>
    (cCode Tryz.prog (cd Tryz.f226 [1, 0, 1, 0]) (cCode Tryz.prog (cd Tryz.f226 [1, 1]) (retK Tryz.prog Tryz.f226.results.toList K) (fun _ _ _ => False) (retK Tryz.prog Tryz.f226.results.toList K)) (fun i => @Bool.rec (fun _ => KE) ((fun _ _ _ => False) i) (cCode Tryz.prog (cd Tryz.f226 [1, 1]) (retK Tryz.prog Tryz.f226.results.toList K) (fun _ _ _ => False) (retK Tryz.prog Tryz.f226.results.toList K)) (Nat.beq i 0)) (retK Tryz.prog Tryz.f226.results.toList K)) [x0, x1, (Value.slice none 0 0), A2, A3, (Value.int IntKind.i64 0), undef, undef, undef, undef, undef, undef, undef] w) w) w) w) :
    cCode Tryz.prog (cd Tryz.f226 []) (retK Tryz.prog Tryz.f226.results.toList K) (fun _ _ _ => False) (retK Tryz.prog Tryz.f226.results.toList K) [x0, undef, undef, undef, undef, undef, undef, undef, undef, undef, undef, undef, undef] w := Eq.mp (by kernel_rfl) h

theorem drill_makers_6_in {K : KV} {x0 : Value} {w : World}
    (h : box Tryz.prog 96 x0 (fun x1 w =>
    fldA Tryz.prog 96 x1 3 (fun A2 w =>
    ld Tryz.prog 3 A2 (fun A3 w =>
    (drill_makers_6_L1 K) [x0, x1, (Value.slice none 0 0), A2, A3, (Value.int IntKind.i64 0), undef, undef, undef, undef, undef, undef, undef] w) w) w) w) :
    Gives Tryz.prog 226 #[x0] w K := enter' Tryz.func226 (by kernel_rfl) (Eq.mp (congrArg (fun c => cCode Tryz.prog c (retK Tryz.prog Tryz.f226.results.toList K) (fun _ _ _ => False) (retK Tryz.prog Tryz.f226.results.toList K) [x0, undef, undef, undef, undef, undef, undef, undef, undef, undef, undef, undef, undef] w) (by kernel_rfl : (cd Tryz.f226 []) = (cd Tryz.f226 []))) (drill_makers_6_k h))
theorem drill_makers_6_go : isGo Tryz.prog 226 := ⟨_, Tryz.func226, by kernel_rfl, by kernel_rfl⟩

theorem drill_makers_6_L1_k {K : KV} (B1 : KE) (qc0 : KE) {x0 x1 out2' A2 A3 A4' C1 : Value} {dd : Nat → Value} {w : World}
    (h : bin Tryz.prog BinOp.lss 3 false false A4' A3 (fun A5 w =>
    cond A5
      (bld Tryz.prog 27 #[(0, (Value.int IntKind.u8 5))] (fun A7 w =>
    bldS Tryz.prog 40 1 #[(0, A7)] (fun A8 w =>
    blt Tryz.prog Builtin.append #[40, 40] 40 #[false, false] #[out2', A8] (fun A9 w =>
    bin Tryz.prog BinOp.add 3 false true A4' (Value.int IntKind.i64 1) (fun C0 w =>
    B1 [x0, x1, A9, A2, A3, C0, A5, out2', A7, A8, A9, C0, C1] w) w) w) w) w)
      (qc0 [x0, x1, out2', A2, A3, A4', A5, (dd 7), (dd 8), (dd 9), (dd 10), (dd 11), C1] w)) w) :
    cCode Tryz.prog (cd Tryz.f226 [1, 0, 1, 0, 0]) B1 (fun i => @Bool.rec (fun _ => KE) ((fun _ _ _ => False) i) qc0 (Nat.beq i 0)) (retK Tryz.prog Tryz.f226.results.toList K) [x0, x1, out2', A2, A3, A4', (dd 6), (dd 7), (dd 8), (dd 9), (dd 10), (dd 11), C1] w := Eq.mp (by kernel_rfl) h

theorem drill_makers_6_L1_r {K : KV} {x0 x1 out2 A2 A3 A4 A5 A6 A7 A8 A9 C0 C1 : Value} {w : World} (Inv : Value → Value → World → Prop) (μ : Value → Value → World → Nat) (h0 : Inv out2 A4 w)
    (hs : ∀ (out2' A4' : Value) (dd : Nat → Value) (w : World) (m : Nat), Inv out2' A4' w → m = μ out2' A4' w →
    bin Tryz.prog BinOp.lss 3 false false A4' A3 (fun A5 w =>
    cond A5
      (bld Tryz.prog 27 #[(0, (Value.int IntKind.u8 5))] (fun A7 w =>
    bldS Tryz.prog 40 1 #[(0, A7)] (fun A8 w =>
    blt Tryz.prog Builtin.append #[40, 40] 40 #[false, false] #[out2', A8] (fun A9 w =>
    bin Tryz.prog BinOp.add 3 false true A4' (Value.int IntKind.i64 1) (fun C0 w =>
    (Inv A9 C0 w ∧ μ A9 C0 w < m)) w) w) w) w)
      ((drill_makers_6_P1 K) [x0, x1, out2', A2, A3, A4', A5, (dd 7), (dd 8), (dd 9), (dd 10), (dd 11), C1] w)) w) :
    drill_makers_6_L1 K [x0, x1, out2, A2, A3, A4, A5, A6, A7, A8, A9, C0, C1] w := by
  refine loop_rule (cd Tryz.f226 [1, 0, 1, 0, 0]) [2, 5, 6, 7, 8, 9, 10, 11] (by kernel_rfl) (fun e2 w2 => Inv (gd e2 2) (gd e2 5) w2) (fun e2 w2 => μ (gd e2 2) (gd e2 5) w2) h0 ?_
  intro e' w' hI
  have h := hs (gd e' 2) (gd e' 5) (fun i => gd e' i) w' _ hI rfl
  have h2 : cCode Tryz.prog (cd Tryz.f226 [1, 0, 1, 0, 0]) (fun e2 w2 => Inv (gd e2 2) (gd e2 5) w2 ∧ μ (gd e2 2) (gd e2 5) w2 < μ (gd e' 2) (gd e' 5) w') (fun i => @Bool.rec (fun _ => KE) ((fun _ _ _ => False) i) (drill_makers_6_P1 K) (Nat.beq i 0)) (retK Tryz.prog Tryz.f226.results.toList K) [x0, x1, (gd e' 2), A2, A3, (gd e' 5), (gd e' 6), (gd e' 7), (gd e' 8), (gd e' 9), (gd e' 10), (gd e' 11), C1] w' := drill_makers_6_L1_k (fun e2 w2 => Inv (gd e2 2) (gd e2 5) w2 ∧ μ (gd e2 2) (gd e2 5) w2 < μ (gd e' 2) (gd e' 5) w') (drill_makers_6_P1 K) (Eq.mp (by kernel_rfl) h)
  exact Eq.mp (by kernel_rfl) h2

theorem drill_makers_6_P1_k {K : KV} {x0 x1 out2 A2 A3 A4 A5 A6 A7 A8 A9 C0 C1 : Value} {w : World}
    (h : K out2 w) :
    cCode Tryz.prog (cd Tryz.f226 [1, 1]) (retK Tryz.prog Tryz.f226.results.toList K) (fun _ _ _ => False) (retK Tryz.prog Tryz.f226.results.toList K) [x0, x1, out2, A2, A3, A4, A5, A6, A7, A8, A9, C0, C1] w := Eq.mp (by kernel_rfl) h

theorem drill_makers_6_P1_r {K : KV} {x0 x1 out2 A2 A3 A4 A5 A6 A7 A8 A9 C0 C1 : Value} {w : World}
    (h : K out2 w) :
    drill_makers_6_P1 K [x0, x1, out2, A2, A3, A4, A5, A6, A7, A8, A9, C0, C1] w := by
  delta drill_makers_6_P1
  exact Eq.mp (congrArg (fun c => cCode Tryz.prog c (retK Tryz.prog Tryz.f226.results.toList K) (fun _ _ _ => False) (retK Tryz.prog Tryz.f226.results.toList K) [x0, x1, out2, A2, A3, A4, A5, A6, A7, A8, A9, C0, C1] w) (by kernel_rfl : (cd Tryz.f226 [1, 1]) = (cd Tryz.f226 [1, 1]))) (drill_makers_6_P1_k h)
attribute [irreducible] drill_makers_6_P1 drill_makers_6_L1

def drill_makers_7_P1 (K : KV) : KE := cCode Tryz.prog (cd Tryz.f227 [1, 1]) (retK Tryz.prog Tryz.f227.results.toList K) (fun _ _ _ => False) (retK Tryz.prog Tryz.f227.results.toList K)
def drill_makers_7_L1 (K : KV) : KE := cCode Tryz.prog (cd Tryz.f227 [1, 0, 1, 0]) (drill_makers_7_P1 K) (fun i => @Bool.rec (fun _ => KE) ((fun _ _ _ => False) i) (drill_makers_7_P1 K) (Nat.beq i 0)) (retK Tryz.prog Tryz.f227.results.toList K)
theorem drill_makers_7_k {K : KV} {x0 : Value} {w : World}
    (h : box Tryz.prog 96 x0 (fun x1 w =>
    fldA Tryz.prog 96 x1 3 (fun A3 w =>
    ld Tryz.prog 3 A3 (fun A4 w =>
    (cCode Tryz.prog (cd Tryz.f227 [1, 0, 1, 0]) (cCode Tryz.prog (cd Tryz.f227 [1, 1]) (retK Tryz.prog Tryz.f227.results.toList K) (fun _ _ _ => False) (retK Tryz.prog Tryz.f227.results.toList K)) (fun i => @Bool.rec (fun _ => KE) ((fun _ _ _ => False) i) (cCode Tryz.prog (cd Tryz.f227 [1, 1]) (retK Tryz.prog Tryz.f227.results.toList K) (fun _ _ _ => False) (retK Tryz.prog Tryz.f227.results.toList K)) (Nat.beq i 0)) (retK Tryz.prog Tryz.f227.results.toList K)) [x0, x1, (Value.slice none 0 0), undef, A3, A4, (Value.int IntKind.i64 0), undef, undef, undef, undef, undef, undef, undef, undef, undef] w) w) w) w) :
    cCode Tryz.prog (cd Tryz.f227 []) (retK Tryz.prog Tryz.f227.results.toList K) (fun _ _ _ => False) (retK Tryz.prog Tryz.f227.results.toList K) [x0, undef, undef, undef, undef, undef, undef, undef, undef, undef, undef, undef, undef, undef, undef, undef] w := Eq.mp (by kernel_rfl) h

theorem drill_makers_7_in {K : KV} {x0 : Value} {w : World}
    (h : box Tryz.prog 96 x0 (fun x1 w =>
    fldA Tryz.prog 96 x1 3 (fun A3 w =>
    ld Tryz.prog 3 A3 (fun A4 w =>
    (drill_makers_7_L1 K) [x0, x1, (Value.slice none 0 0), undef, A3, A4, (Value.int IntKind.i64 0), undef, undef, undef, undef, undef, undef, undef, undef, undef] w) w) w) w) :
    Gives Tryz.prog 227 #[x0] w K := enter' Tryz.func227 (by kernel_rfl) (Eq.mp (congrArg (fun c => cCode Tryz.prog c (retK Tryz.prog Tryz.f227.results.toList K) (fun _ _ _ => False) (retK Tryz.prog Tryz.f227.results.toList K) [x0, undef, undef, undef, undef, undef, undef, undef, undef, undef, undef, undef, undef, undef, undef, undef] w) (by kernel_rfl : (cd Tryz.f227 []) = (cd Tryz.f227 []))) (drill_makers_7_k h))
theorem drill_makers_7_go : isGo Tryz.prog 227 := ⟨_, Tryz.func227, by kernel_rfl, by kernel_rfl⟩

theorem drill_makers_7_L1_k {K : KV} (B1 : KE) (qc0 : KE) {x0 x1 out2' A3 A4 A5' C4 : Value} {dd : Nat → Value} {w : World}
    (h : bin Tryz.prog BinOp.lss 3 false false A5' A4 (fun A6 w =>
    cond A6
      (bld Tryz.prog 27 #[(0, (Value.int IntKind.u8 6)), (3, A5')] (fun C0 w =>
    bldS Tryz.prog 40 1 #[(0, C0)] (fun C1 w =>
    blt Tryz.prog Builtin.append #[40, 40] 40 #[false, false] #[out2', C1] (fun C2 w =>
    bin Tryz.prog BinOp.add 3 false true A5' (Value.int IntKind.i64 1) (fun C3 w =>
    B1 [x0, x1, C2, A5', A3, A4, C3, A6, A5', out2', A5', C0, C1, C2, C3, C4] w) w) w) w) w)
      (qc0 [x0, x1, out2', (dd 3), A3, A4, A5', A6, (dd 8), (dd 9), (dd 10), (dd 11), (dd 12), (dd 13), (dd 14), C4] w)) w) :
    cCode Tryz.prog (cd Tryz.f227 [1, 0, 1, 0, 0]) B1 (fun i => @Bool.rec (fun _ => KE) ((fun _ _ _ => False) i) qc0 (Nat.beq i 0)) (retK Tryz.prog Tryz.f227.results.toList K) [x0, x1, out2', (dd 3), A3, A4, A5', (dd 7), (dd 8), (dd 9), (dd 10), (dd 11), (dd 12), (dd 13), (dd 14), C4] w := Eq.mp (by kernel_rfl) h

theorem drill_makers_7_L1_r {K : KV} {x0 x1 out2 k_3 A3 A4 A5 A6 A7 A8 A9 C0 C1 C2 C3 C4 : Value} {w : World} (Inv : Value → Value → World → Prop) (μ : Value → Value → World → Nat) (h0 : Inv out2 A5 w)
    (hs : ∀ (out2' A5' : Value) (dd : Nat → Value) (w : World) (m : Nat), Inv out2' A5' w → m = μ out2' A5' w →
    bin Tryz.prog BinOp.lss 3 false false A5' A4 (fun A6 w =>
    cond A6
      (bld Tryz.prog 27 #[(0, (Value.int IntKind.u8 6)), (3, A5')] (fun C0 w =>
    bldS Tryz.prog 40 1 #[(0, C0)] (fun C1 w =>
    blt Tryz.prog Builtin.append #[40, 40] 40 #[false, false] #[out2', C1] (fun C2 w =>
    bin Tryz.prog BinOp.add 3 false true A5' (Value.int IntKind.i64 1) (fun C3 w =>
    (Inv C2 C3 w ∧ μ C2 C3 w < m)) w) w) w) w)
      ((drill_makers_7_P1 K) [x0, x1, out2', (dd 3), A3, A4, A5', A6, (dd 8), (dd 9), (dd 10), (dd 11), (dd 12), (dd 13), (dd 14), C4] w)) w) :
    drill_makers_7_L1 K [x0, x1, out2, k_3, A3, A4, A5, A6, A7, A8, A9, C0, C1, C2, C3, C4] w := by
  refine loop_rule (cd Tryz.f227 [1, 0, 1, 0, 0]) [2, 3, 6, 7, 8, 9, 10, 11, 12, 13, 14] (by kernel_rfl) (fun e2 w2 => Inv (gd e2 2) (gd e2 6) w2) (fun e2 w2 => μ (gd e2 2) (gd e2 6) w2) h0 ?_
  intro e' w' hI
  have h := hs (gd e' 2) (gd e' 6) (fun i => gd e' i) w' _ hI rfl
  have h2 : cCode Tryz.prog (cd Tryz.f227 [1, 0, 1, 0, 0]) (fun e2 w2 => Inv (gd e2 2) (gd e2 6) w2 ∧ μ (gd e2 2) (gd e2 6) w2 < μ (gd e' 2) (gd e' 6) w') (fun i => @Bool.rec (fun _ => KE) ((fun _ _ _ => False) i) (drill_makers_7_P1 K) (Nat.beq i 0)) (retK Tryz.prog Tryz.f227.results.toList K) [x0, x1, (gd e' 2), (gd e' 3), A3, A4, (gd e' 6), (gd e' 7), (gd e' 8), (gd e' 9), (gd e' 10), (gd e' 11), (gd e' 12), (gd e' 13), (gd e' 14), C4] w' := drill_makers_7_L1_k (fun e2 w2 => Inv (gd e2 2) (gd e2 6) w2 ∧ μ (gd e2 2) (gd e2 6) w2 < μ (gd e' 2) (gd e' 6) w') (drill_makers_7_P1 K) (Eq.mp (by kernel_rfl) h)
  exact Eq.mp (by kernel_rfl) h2

theorem drill_makers_7_P1_k {K : KV} {x0 x1 out2 k_3 A3 A4 A5 A6 A7 A8 A9 C0 C1 C2 C3 C4 : Value} {w : World}
    (h : K out2 w) :
    cCode Tryz.prog (cd Tryz.f227 [1, 1]) (retK Tryz.prog Tryz.f227.results.toList K) (fun _ _ _ => False) (retK Tryz.prog Tryz.f227.results.toList K) [x0, x1, out2, k_3, A3, A4, A5, A6, A7, A8, A9, C0, C1, C2, C3, C4] w := Eq.mp (by kernel_rfl) h

theorem drill_makers_7_P1_r {K : KV} {x0 x1 out2 k_3 A3 A4 A5 A6 A7 A8 A9 C0 C1 C2 C3 C4 : Value} {w : World}
    (h : K out2 w) :
    drill_makers_7_P1 K [x0, x1, out2, k_3, A3, A4, A5, A6, A7, A8, A9, C0, C1, C2, C3, C4] w := by
  delta drill_makers_7_P1
  exact Eq.mp (congrArg (fun c => cCode Tryz.prog c (retK Tryz.prog Tryz.f227.results.toList K) (fun _ _ _ => False) (retK Tryz.prog Tryz.f227.results.toList K) [x0, x1, out2, k_3, A3, A4, A5, A6, A7, A8, A9, C0, C1, C2, C3, C4] w) (by kernel_rfl : (cd Tryz.f227 [1, 1]) = (cd Tryz.f227 [1, 1]))) (drill_makers_7_P1_k h)
attribute [irreducible] drill_makers_7_P1 drill_makers_7_L1


theorem drill_makers_8_k {K : KV} {x0 : Value} {w : World}
    (h : box Tryz.prog 96 x0 (fun x1 w =>
    fldA Tryz.prog 96 x1 0 (fun A2 w =>
    fldA Tryz.prog 52 A2 2 (fun A3 w =>
    ld Tryz.prog 3 A3 (fun A4 w =>
    bld Tryz.prog 27 #[(0, (Value.int IntKind.u8 3)), (5, A4)] (fun A5 w =>
    call Tryz.prog 222 #[A5] (fun A6 w =>
    K A6 w) w) w) w) w) w) w) :
    cCode Tryz.prog (cd Tryz.f228 []) (retK Tryz.prog Tryz.f228.results.toList K) (fun _ _ _ => False) (retK Tryz.prog Tryz.f228.results.toList K) [x0, undef, undef, undef, undef, undef, undef, undef] w := Eq.mp (by kernel_rfl) h

theorem drill_makers_8_in {K : KV} {x0 : Value} {w : World}
    (h : box Tryz.prog 96 x0 (fun x1 w =>
    fldA Tryz.prog 96 x1 0 (fun A2 w =>
    fldA Tryz.prog 52 A2 2 (fun A3 w =>
    ld Tryz.prog 3 A3 (fun A4 w =>
    bld Tryz.prog 27 #[(0, (Value.int IntKind.u8 3)), (5, A4)] (fun A5 w =>
    call Tryz.prog 222 #[A5] (fun A6 w =>
    K A6 w) w) w) w) w) w) w) :
    Gives Tryz.prog 228 #[x0] w K := enter' Tryz.func228 (by kernel_rfl) (Eq.mp (congrArg (fun c => cCode Tryz.prog c (retK Tryz.prog Tryz.f228.results.toList K) (fun _ _ _ => False) (retK Tryz.prog Tryz.f228.results.toList K) [x0, undef, undef, undef, undef, undef, undef, undef] w) (by kernel_rfl : (cd Tryz.f228 []) = (cd Tryz.f228 []))) (drill_makers_8_k h))
theorem drill_makers_8_go : isGo Tryz.prog 228 := ⟨_, Tryz.func228, by kernel_rfl, by kernel_rfl⟩

def drill_makers_9_P1 (K : KV) : KE := cCode Tryz.prog (cd Tryz.f229 [1, 1]) (retK Tryz.prog Tryz.f229.results.toList K) (fun _ _ _ => False) (retK Tryz.prog Tryz.f229.results.toList K)
def drill_makers_9_L1 (K : KV) : KE := cCode Tryz.prog (cd Tryz.f229 [1, 0, 1, 0]) (drill_makers_9_P1 K) (fun i => @Bool.rec (fun _ => KE) ((fun _ _ _ => False) i) (drill_makers_9_P1 K) (Nat.beq i 0)) (retK Tryz.prog Tryz.f229.results.toList K)
theorem drill_makers_9_k {K : KV} {x0 : Value} {w : World}
    (h : box Tryz.prog 96 x0 (fun x1 w =>
    (cCode Tryz.prog (cd Tryz.f229 [1, 0, 1, 0]) (cCode Tryz.prog (cd Tryz.f229 [1, 1]) (retK Tryz.prog Tryz.f229.results.toList K) (fun _ _ _ => False) (retK Tryz.prog Tryz.f229.results.toList K)) (fun i => @Bool.rec (fun _ => KE) ((fun _ _ _ => False) i) (cCode Tryz.prog (cd Tryz.f229 [1, 1]) (retK Tryz.prog Tryz.f229.results.toList K) (fun _ _ _ => False) (retK Tryz.prog Tryz.f229.results.toList K)) (Nat.beq i 0)) (retK Tryz.prog Tryz.f229.results.toList K)) [x0, x1, (Value.slice none 0 0), (Value.int IntKind.i64 1), undef, undef, undef, undef, undef, undef, undef, undef, undef, undef, undef, undef] w) w) :
    cCode Tryz.prog (cd Tryz.f229 []) (retK Tryz.prog Tryz.f229.results.toList K) (fun _ _ _ => False) (retK Tryz.prog Tryz.f229.results.toList K) [x0, undef, undef, undef, undef, undef, undef, undef, undef, undef, undef, undef, undef, undef, undef, undef] w := Eq.mp (by kernel_rfl) h

theorem drill_makers_9_in {K : KV} {x0 : Value} {w : World}
    (h : box Tryz.prog 96 x0 (fun x1 w =>
    (drill_makers_9_L1 K) [x0, x1, (Value.slice none 0 0), (Value.int IntKind.i64 1), undef, undef, undef, undef, undef, undef, undef, undef, undef, undef, undef, undef] w) w) :
    Gives Tryz.prog 229 #[x0] w K := enter' Tryz.func229 (by kernel_rfl) (Eq.mp (congrArg (fun c => cCode Tryz.prog c (retK Tryz.prog Tryz.f229.results.toList K) (fun _ _ _ => False) (retK Tryz.prog Tryz.f229.results.toList K) [x0, undef, undef, undef, undef, undef, undef, undef, undef, undef, undef, undef, undef, undef, undef, undef] w) (by kernel_rfl : (cd Tryz.f229 []) = (cd Tryz.f229 []))) (drill_makers_9_k h))
theorem drill_makers_9_go : isGo Tryz.prog 229 := ⟨_, Tryz.func229, by kernel_rfl, by kernel_rfl⟩

theorem drill_makers_9_L1_k {K : KV} (B1 : KE) (qc0 : KE) {x0 x1 out2' i3' C4 : Value} {dd : Nat → Value} {w : World}
    (h : fldA Tryz.prog 96 x1 1 (fun A4 w =>
    ld Tryz.prog 3 A4 (fun A5 w =>
    bin Tryz.prog BinOp.leq 3 false false i3' A5 (fun A6 w =>
    cond A6
      (bld Tryz.prog 27 #[(0, (Value.int IntKind.u8 2)), (1, i3')] (fun C1 w =>
    bldS Tryz.prog 40 1 #[(0, C1)] (fun C2 w =>
    blt Tryz.prog Builtin.append #[40, 40] 40 #[false, false] #[out2', C2] (fun C3 w =>
    bin Tryz.prog BinOp.add 3 false true i3' (Value.int IntKind.i64 1) (fun A8 w =>
    B1 [x0, x1, C3, A8, i3', A4, A5, A6, i3', A8, out2', i3', C1, C2, C3, C4] w) w) w) w) w)
      (qc0 [x0, x1, out2', i3', i3', A4, A5, A6, (dd 8), (dd 9), (dd 10), (dd 11), (dd 12), (dd 13), (dd 14), C4] w)) w) w) w) :
    cCode Tryz.prog (cd Tryz.f229 [1, 0, 1, 0, 0]) B1 (fun i => @Bool.rec (fun _ => KE) ((fun _ _ _ => False) i) qc0 (Nat.beq i 0)) (retK Tryz.prog Tryz.f229.results.toList K) [x0, x1, out2', i3', (dd 4), (dd 5), (dd 6), (dd 7), (dd 8), (dd 9), (dd 10), (dd 11), (dd 12), (dd 13), (dd 14), C4] w := Eq.mp (by kernel_rfl) h

theorem drill_makers_9_L1_r {K : KV} {x0 x1 out2 i3 A3 A4 A5 A6 A7 A8 A9 C0 C1 C2 C3 C4 : Value} {w : World} (Inv : Value → Value → World → Prop) (μ : Value → Value → World → Nat) (h0 : Inv out2 i3 w)
    (hs : ∀ (out2' i3' : Value) (dd : Nat → Value) (w : World) (m : Nat), Inv out2' i3' w → m = μ out2' i3' w →
    fldA Tryz.prog 96 x1 1 (fun A4 w =>
    ld Tryz.prog 3 A4 (fun A5 w =>
    bin Tryz.prog BinOp.leq 3 false false i3' A5 (fun A6 w =>
    cond A6
      (bld Tryz.prog 27 #[(0, (Value.int IntKind.u8 2)), (1, i3')] (fun C1 w =>
    bldS Tryz.prog 40 1 #[(0, C1)] (fun C2 w =>
    blt Tryz.prog Builtin.append #[40, 40] 40 #[false, false] #[out2', C2] (fun C3 w =>
    bin Tryz.prog BinOp.add 3 false true i3' (Value.int IntKind.i64 1) (fun A8 w =>
    (Inv C3 A8 w ∧ μ C3 A8 w < m)) w) w) w) w)
      ((drill_makers_9_P1 K) [x0, x1, out2', i3', i3', A4, A5, A6, (dd 8), (dd 9), (dd 10), (dd 11), (dd 12), (dd 13), (dd 14), C4] w)) w) w) w) :
    drill_makers_9_L1 K [x0, x1, out2, i3, A3, A4, A5, A6, A7, A8, A9, C0, C1, C2, C3, C4] w := by
  refine loop_rule (cd Tryz.f229 [1, 0, 1, 0, 0]) [2, 3, 4, 5, 6, 7, 8, 9, 10, 11, 12, 13, 14] (by kernel_rfl) (fun e2 w2 => Inv (gd e2 2) (gd e2 3) w2) (fun e2 w2 => μ (gd e2 2) (gd e2 3) w2) h0 ?_
  intro e' w' hI
  have h := hs (gd e' 2) (gd e' 3) (fun i => gd e' i) w' _ hI rfl
  have h2 : cCode Tryz.prog (cd Tryz.f229 [1, 0, 1, 0, 0]) (fun e2 w2 => Inv (gd e2 2) (gd e2 3) w2 ∧ μ (gd e2 2) (gd e2 3) w2 < μ (gd e' 2) (gd e' 3) w') (fun i => @Bool.rec (fun _ => KE) ((fun _ _ _ => False) i) (drill_makers_9_P1 K) (Nat.beq i 0)) (retK Tryz.prog Tryz.f229.results.toList K) [x0, x1, (gd e' 2), (gd e' 3), (gd e' 4), (gd e' 5), (gd e' 6), (gd e' 7), (gd e' 8), (gd e' 9), (gd e' 10), (gd e' 11), (gd e' 12), (gd e' 13), (gd e' 14), C4] w' := drill_makers_9_L1_k (fun e2 w2 => Inv (gd e2 2) (gd e2 3) w2 ∧ μ (gd e2 2) (gd e2 3) w2 < μ (gd e' 2) (gd e' 3) w') (drill_makers_9_P1 K) (Eq.mp (by kernel_rfl) h)
  exact Eq.mp (by kernel_rfl) h2

theorem drill_makers_9_P1_k {K : KV} {x0 x1 out2 i3 A3 A4 A5 A6 A7 A8 A9 C0 C1 C2 C3 C4 : Value} {w : World}
    (h : K out2 w) :
    cCode Tryz.prog (cd Tryz.f229 [1, 1]) (retK Tryz.prog Tryz.f229.results.toList K) (fun _ _ _ => False) (retK Tryz.prog Tryz.f229.results.toList K) [x0, x1, out2, i3, A3, A4, A5, A6, A7, A8, A9, C0, C1, C2, C3, C4] w := Eq.mp (by kernel_rfl) h

theorem drill_makers_9_P1_r {K : KV} {x0 x1 out2 i3 A3 A4 A5 A6 A7 A8 A9 C0 C1 C2 C3 C4 : Value} {w : World}
    (h : K out2 w) :
    drill_makers_9_P1 K [x0, x1, out2, i3, A3, A4, A5, A6, A7, A8, A9, C0, C1, C2, C3, C4] w := by
  delta drill_makers_9_P1
  exact Eq.mp (congrArg (fun c => cCode Tryz.prog c (retK Tryz.prog Tryz.f229.results.toList K) (fun _ _ _ => False) (retK Tryz.prog Tryz.f229.results.toList K) [x0, x1, out2, i3, A3, A4, A5, A6, A7, A8, A9, C0, C1, C2, C3, C4] w) (by kernel_rfl : (cd Tryz.f229 [1, 1]) = (cd Tryz.f229 [1, 1]))) (drill_makers_9_P1_k h)
attribute [irreducible] drill_makers_9_P1 drill_makers_9_L1

end Go.Proofs.YtfjafbbalohmhaaGreatDoor
namespace Go.Proofs.YtfjafbbalohmhaaGreatDoor
set_option maxRecDepth 100000
open Go.RowKit

structure SD where
  d : Int
  who : Int
  k : Int
  j : Int
  n : Int
def scC (s : SD) : List Value := [.int .u8 s.d, i6 s.who, .int .u8 0, .int .u64 0, i6 0, i6 0, .int .u64 0, .int .u64 0, i6 s.k, i6 s.j, i6 s.n, .slice none 0 0]
def sdV (A i : Int) : Int := bitsOp .and .u8 (A.fdiv (2 ^ (min (i - 1).toNat IntKind.u8.bits))) 1
def celD (A i j : Int) : List SD := if sdV A i = sdV A j then [] else [⟨7, i, 0, j, 0⟩]
def rowD (A i : Int) (m : Nat) : List SD := (List.range m).flatMap fun d => celD A i (i + 1 + (d : Nat))
def splD (A : Int) (n m : Nat) : List SD := (List.range m).flatMap fun e => rowD A ((e : Nat) + 1) (n - (e + 1))
def loseD (u : Nat) : List SD := (List.range u).map fun _ => ⟨5, 0, 0, 0, 0⟩
def twiD (u : Nat) : List SD := (List.range u).map fun k => ⟨6, 0, (k : Nat), 0, 0⟩
def turD (n : Nat) : List SD := (List.range n).map fun i => ⟨2, (i : Nat) + 1, 0, 0, 0⟩
def stepsD (n kind A N under : Int) : List SD :=
  if n < 1 ∨ 6 < n ∨ kind < 1 ∨ 9 < kind then []
  else if kind = 1 then splD A n.toNat n.toNat
  else if kind = 2 then [⟨8, 0, 0, 0, 0⟩]
  else if kind = 3 then [⟨10, 1 + A.tmod n, 0, 0, 0⟩]
  else if kind = 4 then [⟨11, 1 + A.tmod n, 0, 0, 0⟩]
  else if kind = 5 then [⟨9, 1 + A.tmod n, 0, 0, N⟩]
  else if kind = 6 then loseD under.toNat
  else if kind = 7 then twiD under.toNat
  else if kind = 8 then [⟨3, 0, 0, 0, N⟩]
  else turD n.toNat
abbrev OS (w : World) (B : Nat) (a : Option Addr) (n c : Nat) (l : List SD) : Prop := w.ownsRow B 27 12 (.slice a n c) n (l.flatMap scC)
theorem fA_Scn_0 {w : World} {K : KV} {b o : Nat} (h : K (.pointer (some ⟨b, o + 0, none⟩)) w) : fldA Tryz.prog 96 (.pointer (some ⟨b, o, none⟩)) 0 K w := fldA_of (by kernel_rfl) h
theorem fA_Scn_1 {w : World} {K : KV} {b o : Nat} (h : K (.pointer (some ⟨b, o + 3, none⟩)) w) : fldA Tryz.prog 96 (.pointer (some ⟨b, o, none⟩)) 1 K w := fldA_of (by kernel_rfl) h
theorem fA_Scn_2 {w : World} {K : KV} {b o : Nat} (h : K (.pointer (some ⟨b, o + 4, none⟩)) w) : fldA Tryz.prog 96 (.pointer (some ⟨b, o, none⟩)) 2 K w := fldA_of (by kernel_rfl) h
theorem fA_Scn_3 {w : World} {K : KV} {b o : Nat} (h : K (.pointer (some ⟨b, o + 5, none⟩)) w) : fldA Tryz.prog 96 (.pointer (some ⟨b, o, none⟩)) 3 K w := fldA_of (by kernel_rfl) h
theorem fA_Evn_0 {w : World} {K : KV} {b o : Nat} (h : K (.pointer (some ⟨b, o + 0, none⟩)) w) : fldA Tryz.prog 52 (.pointer (some ⟨b, o, none⟩)) 0 K w := fldA_of (by kernel_rfl) h
theorem fA_Evn_1 {w : World} {K : KV} {b o : Nat} (h : K (.pointer (some ⟨b, o + 1, none⟩)) w) : fldA Tryz.prog 52 (.pointer (some ⟨b, o, none⟩)) 1 K w := fldA_of (by kernel_rfl) h
theorem fA_Evn_2 {w : World} {K : KV} {b o : Nat} (h : K (.pointer (some ⟨b, o + 2, none⟩)) w) : fldA Tryz.prog 52 (.pointer (some ⟨b, o, none⟩)) 2 K w := fldA_of (by kernel_rfl) h
theorem ownM {w : World} {B B' : Nat} {E : TypeId} {s n : Nat} {v : Value} {xs : List Value} (h : w.ownsRow B E s v n xs) (hb : B' ≤ B) : w.ownsRow B' E s v n xs := by
  refine ⟨h.1, ?_⟩
  rcases h.2 with h2 | ⟨g, cap, cur, hv, hg, r⟩
  · exact .inl h2
  · exact .inr ⟨g, cap, cur, hv, by omega, r⟩
theorem info_step : (Tryz.prog.info? 27).map (fun i => (i.zero, i.size, i.bytes)) = some (some (.agg stp0.toArray), 12, 112) := by kernel_rfl
theorem scC_len (s : SD) : (scC s).length = 12 := rfl
theorem scC_one (s : SD) : ∀ u ∈ scC s, u.oneCell' = true := by simp [scC, i6, Value.oneCell']
structure SCN where
  kind : Int
  A : Int
  N : Int
  n : Int
  who : Int
  under : Int
def snC (s : SCN) : List Value := [.int .u8 s.kind, .int .u8 s.A, i6 s.N, i6 s.n, i6 s.who, i6 s.under]
attribute [local irreducible] bin un conv call callV blt slc fldA fld idxA idx lkp mUpd mEnt eSt rng nxt ent ext alc box bld bldS ld sto nilC mkMap mkS ifc pick rdy wts gsel sti cond retM Gives cCode cGrp cSeq cOp
section
variable {w : World} {K : KV}
theorem lit1 {s : SD} (h : ∀ w', blk w' w.heap.size 27 (scC s) → Below w.heap.size w w' → w'.heap.size = w.heap.size + 1 → K (.slice (some ⟨w.heap.size, 0, none⟩) 1 1) w') : bldS Tryz.prog 40 1 #[(0, .agg (scC s).toArray)] K w :=
  bldSG (vs := [.agg (scC s).toArray]) Tryz.underlying40 (s := 12) (by kernel_rfl) (by kernel_rfl) (by omega) rfl (by simp) (by simp) (by simp) (by simp [Value.cells, scC]) fun w' hb b s => h w' (by simpa [Value.cells] using hb) b s
theorem apS {cs : Array Bool} {ty : TypeId} {B n c g : Nat} {a : Option Addr} {l : List SD} {x : SD} (ho : OS w B a n c l) (hg : blk w g 27 (scC x)) (hB : B ≤ w.heap.size) (hn : n ≤ 100000)
    (h : ∀ a' c' w', OS w' B a' (n + 1) c' (l ++ [x]) → Below B w w' → K (.slice a' (n + 1) c') w') :
    blt Tryz.prog .append #[40, 40] ty cs #[.slice a n c, .slice (some ⟨g, 0, none⟩) 1 1] K w := by
  obtain ⟨i, hi, hz, hsz, hby⟩ := info_parts info_step
  refine appA (base := B) (s := 12) (m := 1) (ys := scC x) Tryz.underlying40 hi hz hsz hby rfl (by omega) ho hg rfl (scC_one x) (by omega) (by omega) hB ?_
  intro a' c' w' ho' hgr _
  have e1 : (l ++ [x]).flatMap scC = l.flatMap scC ++ scC x := by simp
  refine h a' c' w' (by show World.ownsRow w' B _ 12 _ (n + 1) ((l ++ [x]).flatMap scC); rw [e1]; exact ho') (below_of_grown hgr hB (fun k hk => ?_))
  exact (World.ownsRow.lt ho k hk).1
theorem one_c {s : SD} (h : ∀ w' a c, OS w' w.heap.size a 1 c [s] → Below w.heap.size w w' → K (.slice a 1 c) w') : call Tryz.prog 222 #[.agg (scC s).toArray] K w := by
  refine call_of drill_one_go (drill_one_in ?_)
  refine box_of fun w1 hb b1 s1 => ?_
  have hb : blk w1 w.heap.size 27 (scC s) := hb
  refine ldA (n := 12) (vs := scC s) Tryz.underlying27 rfl (by kernel_rfl) hb rfl rfl ?_
  refine lit1 fun w2 g2 b2 s2 => ?_
  exact h w2 _ _ (ownLit g2 (by simp [scC]) (by omega) (by simp [maxLen])) (b1.trans (b2.mono (by omega)))
theorem regions_c {n : Int} (h : K (.bool (decide (1 ≤ n) && decide (n ≤ 6))) w) : call Tryz.prog 41 #[i6 n] K w := by
  refine call_of drill_regions_go (drill_regions_in ?_)
  unfold i6
  refine bin_geq ?_
  by_cases h1 : n ≥ 1
  · refine gsel_pt h1 ?_
    refine bin_leq ?_
    refine pick_t h1 ?_
    rw [show decide (1 ≤ n) = true from decide_eq_true h1, Bool.true_and] at h
    exact h
  · refine gsel_pf h1 ?_
    refine pick_f h1 ?_
    rw [show decide (1 ≤ n) = false from decide_eq_false h1, Bool.false_and] at h
    exact h
theorem side_c {x : Nat} {s : SCN} {i : Int} (hx : blk w x 96 (snC s)) (hi : 1 ≤ i) (h2 : i ≤ 9223372036854775807) (h : K (.int .u8 (sdV s.A i)) w) : call Tryz.prog 220 #[i6 i, .pointer (some ⟨x, 0, none⟩)] K w := by
  refine call_of drill_makers_1_1_go (drill_makers_1_1_in ?_)
  refine fA_Scn_0 ?_
  refine fA_Evn_1 ?_
  refine ld1 (v := .int .u8 s.A) (fun _ => by kernel_rfl) hx rfl ?_
  unfold i6
  refine sub64 (by omega) (by omega) ?_
  refine bin_shr (by omega) ?_
  refine bin_and ?_
  exact h
def HB (w : World) (K : KV) (l : List SD) : Prop := ∀ w' a c, OS w' w.heap.size a l.length c l → Below w.heap.size w w' → K (.slice a l.length c) w'
theorem mk2_c {s : SCN} (h : HB w K [⟨8, 0, 0, 0, 0⟩]) : call Tryz.prog 221 #[.agg (snC s).toArray] K w := by
  refine call_of drill_makers_2_go (drill_makers_2_in ?_)
  refine box_of fun w1 hb b1 s1 => ?_
  refine bld_of (vs := scC ⟨8, 0, 0, 0, 0⟩) (by kernel_rfl) ?_
  refine one_c fun w2 a c ho b2 => ?_
  exact h w2 a c (ownM ho (by omega)) (b1.trans (b2.mono (by omega)))
theorem mk3_c {s : SCN} (h : HB w K [⟨10, s.who, 0, 0, 0⟩]) : call Tryz.prog 223 #[.agg (snC s).toArray] K w := by
  refine call_of drill_makers_3_go (drill_makers_3_in ?_)
  refine box_of fun w1 hb b1 s1 => ?_
  have hb : blk w1 w.heap.size 96 (snC s) := hb
  refine fA_Scn_2 ?_
  refine ld1 (v := i6 s.who) (fun _ => by kernel_rfl) hb rfl ?_
  refine bld_of (vs := scC ⟨10, s.who, 0, 0, 0⟩) (by kernel_rfl) ?_
  refine one_c fun w2 a c ho b2 => ?_
  exact h w2 a c (ownM ho (by omega)) (b1.trans (b2.mono (by omega)))
theorem mk4_c {s : SCN} (h : HB w K [⟨11, s.who, 0, 0, 0⟩]) : call Tryz.prog 224 #[.agg (snC s).toArray] K w := by
  refine call_of drill_makers_4_go (drill_makers_4_in ?_)
  refine box_of fun w1 hb b1 s1 => ?_
  have hb : blk w1 w.heap.size 96 (snC s) := hb
  refine fA_Scn_2 ?_
  refine ld1 (v := i6 s.who) (fun _ => by kernel_rfl) hb rfl ?_
  refine bld_of (vs := scC ⟨11, s.who, 0, 0, 0⟩) (by kernel_rfl) ?_
  refine one_c fun w2 a c ho b2 => ?_
  exact h w2 a c (ownM ho (by omega)) (b1.trans (b2.mono (by omega)))
theorem mk5_c {s : SCN} (h : HB w K [⟨9, s.who, 0, 0, s.N⟩]) : call Tryz.prog 225 #[.agg (snC s).toArray] K w := by
  refine call_of drill_makers_5_go (drill_makers_5_in ?_)
  refine box_of fun w1 hb b1 s1 => ?_
  have hb : blk w1 w.heap.size 96 (snC s) := hb
  refine fA_Scn_2 ?_
  refine ld1 (v := i6 s.who) (fun _ => by kernel_rfl) hb rfl ?_
  refine fA_Scn_0 ?_
  refine fA_Evn_2 ?_
  refine ld1 (v := i6 s.N) (fun _ => by kernel_rfl) hb rfl ?_
  refine bld_of (vs := scC ⟨9, s.who, 0, 0, s.N⟩) (by kernel_rfl) ?_
  refine one_c fun w2 a c ho b2 => ?_
  exact h w2 a c (ownM ho (by omega)) (b1.trans (b2.mono (by omega)))
theorem mk8_c {s : SCN} (h : HB w K [⟨3, 0, 0, 0, s.N⟩]) : call Tryz.prog 228 #[.agg (snC s).toArray] K w := by
  refine call_of drill_makers_8_go (drill_makers_8_in ?_)
  refine box_of fun w1 hb b1 s1 => ?_
  have hb : blk w1 w.heap.size 96 (snC s) := hb
  refine fA_Scn_0 ?_
  refine fA_Evn_2 ?_
  refine ld1 (v := i6 s.N) (fun _ => by kernel_rfl) hb rfl ?_
  refine bld_of (vs := scC ⟨3, 0, 0, 0, s.N⟩) (by kernel_rfl) ?_
  refine one_c fun w2 a c ho b2 => ?_
  exact h w2 a c (ownM ho (by omega)) (b1.trans (b2.mono (by omega)))
theorem OS.bel {w' : World} {B n c : Nat} {a : Option Addr} {l : List SD} (h : OS w B a n c l) (hb : Below w.heap.size w w') : OS w' B a n c l := ownS h fun k hk => hb.block k (World.ownsRow.lt h k hk).2
theorem OS.nil (B : Nat) : OS w B none 0 0 [] := World.ownsRow_nil w B _ 12
theorem OS.len {B n c : Nat} {a : Option Addr} {l : List SD} (h : OS w B a n c l) : l.length = n := by
  have h1 := h.1
  have : ∀ l : List SD, (l.flatMap scC).length = l.length * 12 := by
    intro l
    induction l with
    | nil => rfl
    | cons x l ih => rw [List.flatMap_cons, List.length_append, ih, scC_len, List.length_cons]; omega
  rw [this] at h1
  omega
theorem mk6_c {s : SCN} (hu : s.under ≤ 1000) (h : HB w K (loseD s.under.toNat)) : call Tryz.prog 226 #[.agg (snC s).toArray] K w := by
  refine call_of drill_makers_6_go (drill_makers_6_in ?_)
  refine box_of fun w1 hb b1 s1 => ?_
  have hb : blk w1 w.heap.size 96 (snC s) := hb
  refine fA_Scn_3 ?_
  refine ld1 (v := i6 s.under) (fun _ => by kernel_rfl) hb rfl ?_
  refine drill_makers_6_L1_r (Inv := fun o i wr => ∃ (e : Nat) (a : Option Addr) (c : Nat), o = .slice a e c ∧ i = .int .i64 (e : Nat) ∧ e ≤ s.under.toNat ∧ OS wr w1.heap.size a e c (loseD e) ∧ Below w1.heap.size w1 wr)
    (μ := fun _ i _ => s.under.toNat - (intOf i).toNat) ⟨0, none, 0, rfl, rfl, by omega, OS.nil _, Below.refl _ _⟩ ?_
  rintro _ _ dd w2 m ⟨e, a, c, rfl, rfl, he, ho, b2⟩ hm
  unfold i6
  refine bin_lss ?_
  by_cases hlt : (e : Int) < s.under
  · refine cond_t hlt ?_
    refine bld_of (vs := scC ⟨5, 0, 0, 0, 0⟩) (by kernel_rfl) ?_
    refine lit1 fun w3 g3 b3 s3 => ?_
    refine apS (ho.bel b3) g3 (by have := b2.size; omega) (by omega) fun a' c' w4 ho4 b4 => ?_
    refine add64 (by omega) (by omega) ?_
    refine ⟨⟨e + 1, a', c', rfl, by simp, by omega, by rw [show loseD (e + 1) = loseD e ++ [⟨5, 0, 0, 0, 0⟩] by simp [loseD, List.range_succ]]; exact ho4, (b2.trans (b3.mono b2.size)).trans b4⟩, by rw [hm]; simp [intOf]; omega⟩
  · refine cond_f hlt ?_
    refine drill_makers_6_P1_r ?_
    have hel : e = s.under.toNat := by omega
    have hl := ho.len
    rw [hel] at ho hl ⊢
    have := h w2 a c (by rw [hl]; exact ownM ho (by omega)) (b1.trans (b2.mono (by omega)))
    rw [hl] at this
    exact this
theorem mk7_c {s : SCN} (hu : s.under ≤ 1000) (h : HB w K (twiD s.under.toNat)) : call Tryz.prog 227 #[.agg (snC s).toArray] K w := by
  refine call_of drill_makers_7_go (drill_makers_7_in ?_)
  refine box_of fun w1 hb b1 s1 => ?_
  have hb : blk w1 w.heap.size 96 (snC s) := hb
  refine fA_Scn_3 ?_
  refine ld1 (v := i6 s.under) (fun _ => by kernel_rfl) hb rfl ?_
  refine drill_makers_7_L1_r (Inv := fun o i wr => ∃ (e : Nat) (a : Option Addr) (c : Nat), o = .slice a e c ∧ i = .int .i64 (e : Nat) ∧ e ≤ s.under.toNat ∧ OS wr w1.heap.size a e c (twiD e) ∧ Below w1.heap.size w1 wr)
    (μ := fun _ i _ => s.under.toNat - (intOf i).toNat) ⟨0, none, 0, rfl, rfl, by omega, OS.nil _, Below.refl _ _⟩ ?_
  rintro _ _ dd w2 m ⟨e, a, c, rfl, rfl, he, ho, b2⟩ hm
  unfold i6
  refine bin_lss ?_
  by_cases hlt : (e : Int) < s.under
  · refine cond_t hlt ?_
    refine bld_of (vs := scC ⟨6, 0, (e : Nat), 0, 0⟩) (by kernel_rfl) ?_
    refine lit1 fun w3 g3 b3 s3 => ?_
    refine apS (ho.bel b3) g3 (by have := b2.size; omega) (by omega) fun a' c' w4 ho4 b4 => ?_
    refine add64 (by omega) (by omega) ?_
    refine ⟨⟨e + 1, a', c', rfl, by simp, by omega, by rw [show twiD (e + 1) = twiD e ++ [⟨6, 0, (e : Nat), 0, 0⟩] by simp [twiD, List.range_succ]]; exact ho4, (b2.trans (b3.mono b2.size)).trans b4⟩, by rw [hm]; simp [intOf]; omega⟩
  · refine cond_f hlt ?_
    refine drill_makers_7_P1_r ?_
    have hel : e = s.under.toNat := by omega
    have hl := ho.len
    rw [hel] at ho hl ⊢
    have := h w2 a c (by rw [hl]; exact ownM ho (by omega)) (b1.trans (b2.mono (by omega)))
    rw [hl] at this
    exact this
theorem mk9_c {s : SCN} (hn : 1 ≤ s.n ∧ s.n ≤ 6) (h : HB w K (turD s.n.toNat)) : call Tryz.prog 229 #[.agg (snC s).toArray] K w := by
  refine call_of drill_makers_9_go (drill_makers_9_in ?_)
  refine box_of fun w1 hb b1 s1 => ?_
  have hb : blk w1 w.heap.size 96 (snC s) := hb
  have hlt0 := hb.lt
  refine drill_makers_9_L1_r (Inv := fun o i wr => ∃ (e : Nat) (a : Option Addr) (c : Nat), o = .slice a e c ∧ i = .int .i64 ((e : Nat) + 1) ∧ e ≤ s.n.toNat ∧ OS wr w1.heap.size a e c (turD e) ∧ Below w1.heap.size w1 wr)
    (μ := fun _ i _ => s.n.toNat + 1 - (intOf i).toNat) ⟨0, none, 0, rfl, rfl, by omega, OS.nil _, Below.refl _ _⟩ ?_
  rintro _ _ dd w2 m ⟨e, a, c, rfl, rfl, he, ho, b2⟩ hm
  have hb2 : blk w2 w.heap.size 96 (snC s) := below_blk b2 hb hlt0
  refine fA_Scn_1 ?_
  refine ld1 (v := i6 s.n) (fun _ => by kernel_rfl) hb2 rfl ?_
  unfold i6
  refine bin_leq ?_
  by_cases hlt : (e : Int) + 1 ≤ s.n
  · refine cond_t hlt ?_
    refine bld_of (vs := scC ⟨2, (e : Nat) + 1, 0, 0, 0⟩) (by kernel_rfl) ?_
    refine lit1 fun w3 g3 b3 s3 => ?_
    refine apS (ho.bel b3) g3 (by have := b2.size; omega) (by omega) fun a' c' w4 ho4 b4 => ?_
    refine add64 (by omega) (by omega) ?_
    refine ⟨⟨e + 1, a', c', rfl, by simp, by omega, by rw [show turD (e + 1) = turD e ++ [⟨2, (e : Nat) + 1, 0, 0, 0⟩] by simp [turD, List.range_succ]]; exact ho4, (b2.trans (b3.mono b2.size)).trans b4⟩, by rw [hm]; simp [intOf]; omega⟩
  · refine cond_f hlt ?_
    refine drill_makers_9_P1_r ?_
    have hel : e = s.n.toNat := by omega
    have hl := ho.len
    rw [hel] at ho hl ⊢
    have := h w2 a c (by rw [hl]; exact ownM ho (by omega)) (b1.trans (b2.mono (by omega)))
    rw [hl] at this
    exact this
end
end Go.Proofs.YtfjafbbalohmhaaGreatDoor
namespace Go.Proofs.YtfjafbbalohmhaaGreatDoor
set_option maxRecDepth 100000
open Go.RowKit
theorem rowD_succ (A i : Int) (d : Nat) : rowD A i (d + 1) = rowD A i d ++ celD A i (i + 1 + (d : Nat)) := by simp [rowD, List.range_succ]
theorem splD_succ (A : Int) (n e : Nat) : splD A n (e + 1) = splD A n e ++ rowD A ((e : Nat) + 1) (n - (e + 1)) := by simp [splD, List.range_succ]
attribute [local irreducible] bin un conv call callV blt slc fldA fld idxA idx lkp mUpd mEnt eSt rng nxt ent ext alc box bld bldS ld sto nilC mkMap mkS ifc pick rdy wts gsel sti cond retM Gives cCode cGrp cSeq cOp
section
variable {w : World} {K : KV}
set_option maxHeartbeats 2000000 in
theorem mk1_c {s : SCN} (hn : 1 ≤ s.n ∧ s.n ≤ 6) (h : HB w K (splD s.A s.n.toNat s.n.toNat)) : call Tryz.prog 219 #[.agg (snC s).toArray] K w := by
  refine call_of drill_makers_1_go (drill_makers_1_in ?_)
  refine box_of fun w1 hb b1 s1 => ?_
  have hb : blk w1 w.heap.size 96 (snC s) := hb
  have hlt0 := hb.lt
  refine drill_makers_1_L1_r (Inv := fun o i wr => ∃ (e q : Nat) (a : Option Addr) (c : Nat), o = .slice a q c ∧ i = .int .i64 ((e : Nat) + 1) ∧ e ≤ s.n.toNat ∧ q ≤ 10 * e ∧ OS wr w1.heap.size a q c (splD s.A s.n.toNat e) ∧ Below w1.heap.size w1 wr)
    (μ := fun _ i _ => s.n.toNat + 1 - (intOf i).toNat) ⟨0, 0, none, 0, rfl, rfl, by omega, by omega, OS.nil _, Below.refl _ _⟩ ?_
  rintro _ _ dd w2 m ⟨e, q, a, c, rfl, rfl, he, hq, ho, b2⟩ hm
  have hb2 : blk w2 w.heap.size 96 (snC s) := below_blk b2 hb hlt0
  refine fA_Scn_1 ?_
  refine ld1 (v := i6 s.n) (fun _ => by kernel_rfl) hb2 rfl ?_
  unfold i6
  refine bin_leq ?_
  by_cases hlt : (e : Int) + 1 ≤ s.n
  · refine cond_t hlt ?_
    refine add64 (by omega) (by omega) ?_
    refine drill_makers_1_L2_r (Inv := fun o j wr => ∃ (d q : Nat) (a : Option Addr) (c : Nat), o = .slice a q c ∧ j = .int .i64 ((e : Nat) + 1 + 1 + (d : Nat)) ∧ d ≤ s.n.toNat - (e + 1) ∧ q ≤ 10 * e + d ∧ OS wr w1.heap.size a q c (splD s.A s.n.toNat e ++ rowD s.A ((e : Nat) + 1) d) ∧ Below w1.heap.size w1 wr)
      (μ := fun _ j _ => s.n.toNat + 2 - (intOf j).toNat) ⟨0, q, a, c, rfl, by simp, by omega, by omega, by simpa [rowD] using ho, b2⟩ ?_
    rintro _ _ dd2 w3 m2 ⟨d, q2, a2, c2, rfl, rfl, hd, hq2, ho3, b3⟩ hm2
    have hb3 : blk w3 w.heap.size 96 (snC s) := below_blk b3 hb hlt0
    refine fA_Scn_1 ?_
    refine ld1 (v := i6 s.n) (fun _ => by kernel_rfl) hb3 rfl ?_
    unfold i6
    refine bin_leq ?_
    by_cases hl2 : (e : Int) + 1 + 1 + d ≤ s.n
    · refine cond_t hl2 ?_
      refine drill_makers_1_A1_r ?_
      refine callV_of rfl (side_c hb3 (by omega) (by omega) ?_)
      refine callV_of rfl (side_c hb3 (by omega) (by omega) ?_)
      refine bin_neq ?_
      by_cases hne : sdV s.A ((e : Int) + 1) ≠ sdV s.A ((e : Int) + 1 + 1 + d)
      · refine cond_t hne ?_
        refine bld_of (vs := scC ⟨7, (e : Int) + 1, 0, (e : Int) + 1 + 1 + d, 0⟩) (by kernel_rfl) ?_
        refine lit1 fun w4 g4 b4 s4 => ?_
        refine apS (ho3.bel b4) g4 (by have := b3.size; omega) (by omega) fun a' c' w5 ho5 b5 => ?_
        refine drill_makers_1_P3_r ?_
        refine add64 (by omega) (by omega) ?_
        refine ⟨⟨d + 1, q2 + 1, a', c', rfl, congrArg (Value.int .i64) (by push_cast; omega), by omega, by omega, ?_, (b3.trans (b4.mono b3.size)).trans b5⟩, by rw [hm2]; show s.n.toNat + 2 - (((e : Int) + 1 + 1 + d + 1)).toNat < s.n.toNat + 2 - ((e : Int) + 1 + 1 + d).toNat; omega⟩
        rw [rowD_succ, ← List.append_assoc]
        have : celD s.A ((e : Nat) + 1) ((e : Nat) + 1 + 1 + (d : Nat)) = [⟨7, (e : Int) + 1, 0, (e : Int) + 1 + 1 + d, 0⟩] := by unfold celD; rw [if_neg hne]
        rw [this]
        exact ho5
      · refine cond_f hne ?_
        refine drill_makers_1_P3_r ?_
        refine add64 (by omega) (by omega) ?_
        refine ⟨⟨d + 1, q2, a2, c2, rfl, congrArg (Value.int .i64) (by push_cast; omega), by omega, by omega, ?_, b3⟩, by rw [hm2]; show s.n.toNat + 2 - (((e : Int) + 1 + 1 + d + 1)).toNat < s.n.toNat + 2 - ((e : Int) + 1 + 1 + d).toNat; omega⟩
        rw [rowD_succ, ← List.append_assoc]
        have : celD s.A ((e : Nat) + 1) ((e : Nat) + 1 + 1 + (d : Nat)) = [] := by unfold celD; rw [if_pos (by simpa using hne)]
        rw [this, List.append_nil]
        exact ho3
    · refine cond_f hl2 ?_
      refine drill_makers_1_P2_r ?_
      refine add64 (by omega) (by omega) ?_
      have hdd : d = s.n.toNat - (e + 1) := by omega
      refine ⟨⟨e + 1, q2, a2, c2, rfl, congrArg (Value.int .i64) (by push_cast; omega), by omega, by omega, ?_, b3⟩, by rw [hm]; show s.n.toNat + 1 - (((e : Int) + 1 + 1)).toNat < s.n.toNat + 1 - ((e : Int) + 1).toNat; omega⟩
      rw [splD_succ, ← hdd]
      exact ho3
  · refine cond_f hlt ?_
    refine drill_makers_1_P1_r ?_
    have hel : e = s.n.toNat := by omega
    have hl := ho.len
    rw [hel] at ho hl
    have := h w2 a c (by rw [hl]; exact ownM ho (by omega)) (b1.trans (b2.mono (by omega)))
    rw [hl] at this
    exact this
end
end Go.Proofs.YtfjafbbalohmhaaGreatDoor
namespace Go.Proofs.YtfjafbbalohmhaaGreatDoor
set_option maxRecDepth 100000
open Go.RowKit
def mkF (f : Nat) : Value := .func (.func f) #[] #[]
def mkL : List Value := [.nilFunc, mkF 219, mkF 221, mkF 223, mkF 224, mkF 225, mkF 226, mkF 227, mkF 228, mkF 229]
def mkAt (w : World) : Prop := ∃ E fr, w.heap[0]? = some (.cells mkL.toArray E fr)
theorem mkAt.bel {w w' : World} (h : mkAt w) (hb : Below w.heap.size w w') : mkAt w' := by
  obtain ⟨E, fr, he⟩ := h
  exact ⟨E, fr, by rw [hb.block _ (Array.getElem?_eq_some_iff.1 he).1]; exact he⟩
theorem mkAt.cell {w : World} (h : mkAt w) (o : Nat) : w.cell? ⟨0, o, none⟩ = mkL[o]? := by
  obtain ⟨E, fr, he⟩ := h
  unfold World.cell?
  rw [he]; simp
theorem stepsD_bad {n kind A N under : Int} (h : n < 1 ∨ 6 < n ∨ kind < 1 ∨ 9 < kind) : stepsD n kind A N under = [] := if_pos h
theorem stepsD_max {n kind A N under : Int} : stepsD n kind A N (if under < 0 then 0 else under) = stepsD n kind A N under := by
  unfold stepsD
  by_cases h : under < 0
  · rw [if_pos h, show under.toNat = 0 by omega]; rfl
  · rw [if_neg h]
attribute [local irreducible] bin un conv call callV blt slc fldA fld idxA idx lkp mUpd mEnt eSt rng nxt ent ext alc box bld bldS ld sto nilC mkMap mkS ifc pick rdy wts gsel sti cond retM Gives cCode cGrp cSeq cOp
section
variable {w : World} {K : KV}
theorem mk_c {s : SCN} {k : Nat} (hk : s.kind = (k : Nat)) (h1 : 1 ≤ k) (h9 : k ≤ 9) (hn : 1 ≤ s.n ∧ s.n ≤ 6) (hu : s.under ≤ 1000) (hw : s.who = 1 + s.A.tmod s.n)
    (h : HB w K (stepsD s.n s.kind s.A s.N s.under)) : callV Tryz.prog (mkL.getD k undef) #[.agg (snC s).toArray] K w := by
  have hs : stepsD s.n s.kind s.A s.N s.under = if k = 1 then splD s.A s.n.toNat s.n.toNat else if k = 2 then [⟨8, 0, 0, 0, 0⟩] else if k = 3 then [⟨10, s.who, 0, 0, 0⟩] else if k = 4 then [⟨11, s.who, 0, 0, 0⟩]
      else if k = 5 then [⟨9, s.who, 0, 0, s.N⟩] else if k = 6 then loseD s.under.toNat else if k = 7 then twiD s.under.toNat else if k = 8 then [⟨3, 0, 0, 0, s.N⟩] else turD s.n.toNat := by
    unfold stepsD
    rw [if_neg (by omega), hk, hw]
    have e1 : (((k : Nat) : Int) = 1) = (k = 1) := propext (by omega)
    have e2 : (((k : Nat) : Int) = 2) = (k = 2) := propext (by omega)
    have e3 : (((k : Nat) : Int) = 3) = (k = 3) := propext (by omega)
    have e4 : (((k : Nat) : Int) = 4) = (k = 4) := propext (by omega)
    have e5 : (((k : Nat) : Int) = 5) = (k = 5) := propext (by omega)
    have e6 : (((k : Nat) : Int) = 6) = (k = 6) := propext (by omega)
    have e7 : (((k : Nat) : Int) = 7) = (k = 7) := propext (by omega)
    have e8 : (((k : Nat) : Int) = 8) = (k = 8) := propext (by omega)
    simp only [e1, e2, e3, e4, e5, e6, e7, e8]
  rw [hs] at h
  have : k = 1 ∨ k = 2 ∨ k = 3 ∨ k = 4 ∨ k = 5 ∨ k = 6 ∨ k = 7 ∨ k = 8 ∨ k = 9 := by omega
  rcases this with rfl | rfl | rfl | rfl | rfl | rfl | rfl | rfl | rfl
  · exact callV_of rfl (mk1_c hn h)
  · exact callV_of rfl (mk2_c h)
  · exact callV_of rfl (mk3_c h)
  · exact callV_of rfl (mk4_c h)
  · exact callV_of rfl (mk5_c h)
  · exact callV_of rfl (mk6_c hu h)
  · exact callV_of rfl (mk7_c hu h)
  · exact callV_of rfl (mk8_c h)
  · exact callV_of rfl (mk9_c hn h)
set_option maxHeartbeats 2000000 in
theorem steps_c {n kind A N under : Int} (hg : mkAt w) (hA : 0 ≤ A ∧ A ≤ 255) (hu : under ≤ 1000) (h : HB w K (stepsD n kind A N under)) : call Tryz.prog 20 #[i6 n, .agg #[.int .u8 kind, .int .u8 A, i6 N], i6 under] K w := by
  have hnil : ∀ w', Below w.heap.size w w' → n < 1 ∨ 6 < n ∨ kind < 1 ∨ 9 < kind → K (.slice none 0 0) w' := fun w' b hb => by
    have h := h; unfold HB at h
    rw [stepsD_bad hb] at h
    exact h w' none 0 (OS.nil _) b
  refine call_of drill_Steps_go (drill_Steps_in ?_)
  refine box_of fun w1 hb b1 s1 => ?_
  have hb : blk w1 w.heap.size 52 [.int .u8 kind, .int .u8 A, i6 N] := hb
  have g1 : mkAt w1 := hg.bel b1
  refine regions_c ?_
  refine un_not ?_
  by_cases hn : 1 ≤ n ∧ n ≤ 6
  · rw [show (decide (1 ≤ n) && decide (n ≤ 6)) = true by simp [hn]]
    refine gsel_Fn ?_
    refine fA_Evn_0 ?_
    refine ld1 (v := .int .u8 kind) (fun _ => by kernel_rfl) hb rfl ?_
    refine bin_lss ?_
    refine pick_F ?_
    by_cases hk : kind < 1
    · refine gsel_nt hk ?_
      refine pick_t hk ?_
      refine cond_T ?_
      exact hnil w1 b1 (by omega)
    · refine gsel_nf hk ?_
      refine fA_Evn_0 ?_
      refine ld1 (v := .int .u8 kind) (fun _ => by kernel_rfl) hb rfl ?_
      refine bin_gtr ?_
      refine pick_f hk ?_
      by_cases hk9 : 9 < kind
      · refine cond_t hk9 ?_
        exact hnil w1 b1 (by omega)
      · refine cond_f hk9 ?_
        obtain ⟨k, rfl⟩ : ∃ k : Nat, kind = (k : Nat) := ⟨kind.toNat, by omega⟩
        refine hReg_of (fun x => blk x w.heap.size 52 [.int .u8 (k : Nat), .int .u8 A, i6 N] ∧ mkAt x) ⟨hb.drew, g1.bel (Below.refl _ w1).drew⟩ ?_
        refine hld_of (fun x hx K hK => fA_Evn_0 hK) ?_
        refine hld_of (v := .int .u8 (k : Nat)) (fun x hx K hK => ld1 (fun _ => by kernel_rfl) hx.1 rfl hK) ?_
        refine hld_of (v := .pointer (some ⟨0, 0 + ((k : Nat) : Int).toNat * 1, none⟩)) (fun x hx K hK => idxArr (n := 10) Tryz.underlying94 (fun _ => by kernel_rfl) (by omega) (by omega) hK) ?_
        refine hld_of (v := mkL.getD k undef) (fun x hx K hK => ld_cell (fun _ => by kernel_rfl) (by
          rw [hx.2.cell, show 0 + ((k : Nat) : Int).toNat * 1 = k by omega, List.getD_eq_getElem?_getD]
          have : k < mkL.length := by show k < 10; omega
          rw [List.getElem?_eq_getElem this]; rfl) hK) ?_
        refine hld_of (v := .agg #[.int .u8 (k : Nat), .int .u8 A, i6 N]) (fun x hx K hK => ldA (n := 3) (vs := [.int .u8 (k : Nat), .int .u8 A, i6 N]) Tryz.underlying52 rfl (by kernel_rfl) hx.1 rfl rfl hK) ?_
        refine hld_of (fun x hx K hK => fA_Evn_1 hK) ?_
        refine hld_of (v := .int .u8 A) (fun x hx K hK => ld1 (fun _ => by kernel_rfl) hx.1 rfl hK) ?_
        refine hld_of (v := .int .i64 A) (fun x hx K hK => conv_int Tryz.underlying5 Tryz.underlying3 (by rw [wrap_i64 (by omega) (by omega)]; exact hK)) ?_
        refine hld_of (v := .int .i64 (A.tmod n)) (fun x hx K hK => bin_rem (by omega) hK) ?_
        have ht := Int.tmod_nonneg n hA.1
        have ht2 := Int.tmod_lt_of_pos A (show 0 < n by omega)
        refine hld_of (v := .int .i64 (1 + A.tmod n)) (fun x hx K hK => add64 (by omega) (by omega) hK) ?_
        refine max2i ?_
        refine hSub_same ⟨hb.drew, g1.bel (Below.refl _ w1).drew⟩ ?_
        refine hld_of (v := .agg (snC ⟨k, A, N, n, 1 + A.tmod n, if under < 0 then 0 else under⟩).toArray) (fun x hx K hK => bld_of (by kernel_rfl) hK) ?_
        refine mk_c (s := ⟨k, A, N, n, 1 + A.tmod n, if under < 0 then 0 else under⟩) rfl (by omega) (by omega) hn (by show (if under < 0 then (0 : Int) else under) ≤ 1000; split <;> omega) rfl ?_
        intro w2 a c ho b2
        refine hReg_of (fun _ => True) trivial ?_
        rw [stepsD_max] at ho ⊢
        have b0 : Below w.heap.size w w1.drew := b1.drew
        exact h w2 a c (ownM ho (by have := b0.size; omega)) (b0.trans (b2.mono (by have := b0.size; omega)))
  · rw [show (decide (1 ≤ n) && decide (n ≤ 6)) = false by
      cases hh : (decide (1 ≤ n) && decide (n ≤ 6)) with
      | false => rfl
      | true => simp at hh; exact absurd hh hn]
    refine gsel_Tn ?_
    refine pick_T ?_
    refine gsel_Tn ?_
    refine pick_T ?_
    refine cond_T ?_
    exact hnil w1 b1 (by omega)
end
end Go.Proofs.YtfjafbbalohmhaaGreatDoor
