/- The rules by which a text of the second reading is gone through: each says what an operation leaves. Nothing of the program is named here. -/
import Derived.Test.YtnmjfakibhekmaaGreatDoorSh
import Derived.Test.YtnmjfakibhekmaaGreatDoorBase
import Derived.Lib.SlBytesConst
namespace Go.Proofs.YtnmjfakibhekmaaGreatDoor
set_option maxRecDepth 100000
open Go.RowKit

theorem wrap_i64 {n : Int} (h1 : -9223372036854775808 ≤ n) (h2 : n ≤ 9223372036854775807) : IntKind.i64.wrap n = n := IntWalk.i64_in n ⟨h1, h2⟩
theorem wrap_u64 (n : Int) : IntKind.u64.wrap n = n % 18446744073709551616 := by simp [IntKind.wrap, IntKind.signed, IntKind.bits]
theorem wrap_u32 (n : Int) : IntKind.u32.wrap n = n % 4294967296 := by simp [IntKind.wrap, IntKind.signed, IntKind.bits]
theorem wrap_u16 (n : Int) : IntKind.u16.wrap n = n % 65536 := by simp [IntKind.wrap, IntKind.signed, IntKind.bits]
theorem wrap_u8 (n : Int) : IntKind.u8.wrap n = n % 256 := by simp [IntKind.wrap, IntKind.signed, IntKind.bits]

section
variable {P : Program} {K : KV} {w : World} {t : TypeId} {cx cy : Bool}

theorem bin_of {op : BinOp} {x y v : Value} (hg : (eqG op t cx cy x y).run P w = .ok () w) (hb : (binOp op t x y).run P w = .ok v w) (h : K v w) : bin P op t cx cy x y K w := by
  unfold bin
  refine okV_of (w' := w) (v := v) ?_ h
  simp only [Sem.run_bind, hg, Result.andThen_ok, hb]

theorem eqG_int (op : BinOp) (k k' : IntKind) (a b : Int) : (eqG op t cx cy (.int k a) (.int k' b)).run P w = .ok () w := by
  unfold eqG eqGuard; cases op <;> simp [Sem.run_pure]
theorem eqG_bool (op : BinOp) (a b : Bool) : (eqG op t cx cy (.bool a) (.bool b)).run P w = .ok () w := by
  unfold eqG eqGuard; cases op <;> simp [Sem.run_pure]
theorem eqG_string (op : BinOp) (a b : ByteArray) : (eqG op t cx cy (.string a) (.string b)).run P w = .ok () w := by
  unfold eqG eqGuard; cases op <;> simp [Sem.run_pure]

variable {k : IntKind} {a b : Int}
theorem bin_eql (h : K (.bool (decide (a = b))) w) : bin P .eql t cx cy (.int k a) (.int k b) K w := by
  refine bin_of (eqG_int ..) ?_ h
  have : (a == b) = decide (a = b) := by by_cases hh : a = b <;> simp [hh]
  simp [binOp, Op.intCmp, Sem.run_pure, this]
theorem bin_neq (h : K (.bool (decide (a ≠ b))) w) : bin P .neq t cx cy (.int k a) (.int k b) K w := by
  refine bin_of (eqG_int ..) ?_ h
  have : (a != b) = decide (a ≠ b) := by by_cases hh : a = b <;> simp [hh]
  simp only [binOp, Op.intCmp, ne_eq, not_true_eq_false, if_false, Sem.run_pure, this]
theorem bin_lss (h : K (.bool (decide (a < b))) w) : bin P .lss t cx cy (.int k a) (.int k b) K w := by
  refine bin_of (eqG_int ..) ?_ h
  simp [binOp, Op.intCmp, Sem.run_pure]
theorem bin_leq (h : K (.bool (decide (a ≤ b))) w) : bin P .leq t cx cy (.int k a) (.int k b) K w := by
  refine bin_of (eqG_int ..) ?_ h
  simp [binOp, Op.intCmp, Sem.run_pure]
theorem bin_gtr (h : K (.bool (decide (b < a))) w) : bin P .gtr t cx cy (.int k a) (.int k b) K w := by
  refine bin_of (eqG_int ..) ?_ h
  simp [binOp, Op.intCmp, Sem.run_pure]
theorem bin_geq (h : K (.bool (decide (b ≤ a))) w) : bin P .geq t cx cy (.int k a) (.int k b) K w := by
  refine bin_of (eqG_int ..) ?_ h
  simp [binOp, Op.intCmp, Sem.run_pure]
theorem bin_add (h : K (.int k (k.wrap (a + b))) w) : bin P .add t cx cy (.int k a) (.int k b) K w := by
  refine bin_of (eqG_int ..) ?_ h
  simp [binOp, Op.intArith, Sem.run_pure]
theorem bin_sub (h : K (.int k (k.wrap (a - b))) w) : bin P .sub t cx cy (.int k a) (.int k b) K w := by
  refine bin_of (eqG_int ..) ?_ h
  simp [binOp, Op.intArith, Sem.run_pure]
theorem bin_mul (h : K (.int k (k.wrap (a * b))) w) : bin P .mul t cx cy (.int k a) (.int k b) K w := by
  refine bin_of (eqG_int ..) ?_ h
  simp [binOp, Op.intArith, Sem.run_pure]
theorem add64 (h1 : -9223372036854775808 ≤ a + b) (h2 : a + b ≤ 9223372036854775807) (h : K (.int .i64 (a + b)) w) : bin P .add t cx cy (.int .i64 a) (.int .i64 b) K w :=
  bin_add (by rw [wrap_i64 h1 h2]; exact h)
theorem sub64 (h1 : -9223372036854775808 ≤ a - b) (h2 : a - b ≤ 9223372036854775807) (h : K (.int .i64 (a - b)) w) : bin P .sub t cx cy (.int .i64 a) (.int .i64 b) K w :=
  bin_sub (by rw [wrap_i64 h1 h2]; exact h)
theorem mul64 (h1 : -9223372036854775808 ≤ a * b) (h2 : a * b ≤ 9223372036854775807) (h : K (.int .i64 (a * b)) w) : bin P .mul t cx cy (.int .i64 a) (.int .i64 b) K w :=
  bin_mul (by rw [wrap_i64 h1 h2]; exact h)
theorem bin_rem (hb : b ≠ 0) (h : K (.int k (a.tmod b)) w) : bin P .rem t cx cy (.int k a) (.int k b) K w := by
  refine bin_of (eqG_int ..) ?_ h
  simp [binOp, Op.intDiv, Sem.run_pure, hb]
theorem bin_quo (hb : b ≠ 0) (h : K (.int k (k.wrap (a.tdiv b))) w) : bin P .quo t cx cy (.int k a) (.int k b) K w := by
  refine bin_of (eqG_int ..) ?_ h
  simp [binOp, Op.intDiv, Sem.run_pure, hb]
/-- a % b of numbers that are not below 0. -/
theorem rem_nn (ha : 0 ≤ a) (hb : 0 < b) (h : K (.int k (a % b)) w) : bin P .rem t cx cy (.int k a) (.int k b) K w :=
  bin_rem (by omega) (by rw [Int.tmod_eq_emod_of_nonneg ha]; exact h)
theorem quo64 (ha : 0 ≤ a) (ha2 : a ≤ 9223372036854775807) (hb : 0 < b) (h : K (.int .i64 (a / b)) w) : bin P .quo t cx cy (.int .i64 a) (.int .i64 b) K w :=
  bin_quo (by omega) (by
    rw [Int.tdiv_eq_ediv_of_nonneg ha, wrap_i64 (Int.le_trans (by omega) (Int.ediv_nonneg ha (by omega))) (Int.le_trans (Int.ediv_le_self b ha) ha2)]
    exact h)
theorem bin_shl {k' : IntKind} (hb : 0 ≤ b) (h : K (.int k (k.wrap (a * 2 ^ (min b.toNat k.bits)))) w) : bin P .shl t cx cy (.int k a) (.int k' b) K w := by
  refine bin_of (eqG_int ..) ?_ h
  have : ¬ b < 0 := by omega
  simp [binOp, Op.shift, Sem.run_pure, this]
theorem bin_shr {k' : IntKind} (hb : 0 ≤ b) (h : K (.int k (a.fdiv (2 ^ (min b.toNat k.bits)))) w) : bin P .shr t cx cy (.int k a) (.int k' b) K w := by
  refine bin_of (eqG_int ..) ?_ h
  have : ¬ b < 0 := by omega
  simp [binOp, Op.shift, Sem.run_pure, this]
def bitsOp (op : BinOp) (k : IntKind) (x y : Int) : Int :=
  let a := BitVec.ofInt k.bits x
  let b := BitVec.ofInt k.bits y
  match op with
  | .and => k.wrap (a &&& b).toNat
  | .or => k.wrap (a ||| b).toNat
  | .xor => k.wrap (a ^^^ b).toNat
  | _ => k.wrap (a &&& ~~~b).toNat
theorem bin_and (h : K (.int k (bitsOp .and k a b)) w) : bin P .and t cx cy (.int k a) (.int k b) K w := by
  refine bin_of (eqG_int ..) ?_ h
  simp [binOp, Op.intBits, Sem.run_pure, bitsOp]
theorem bin_or (h : K (.int k (bitsOp .or k a b)) w) : bin P .or t cx cy (.int k a) (.int k b) K w := by
  refine bin_of (eqG_int ..) ?_ h
  simp [binOp, Op.intBits, Sem.run_pure, bitsOp]
theorem bin_xor (h : K (.int k (bitsOp .xor k a b)) w) : bin P .xor t cx cy (.int k a) (.int k b) K w := by
  refine bin_of (eqG_int ..) ?_ h
  simp [binOp, Op.intBits, Sem.run_pure, bitsOp]
theorem bin_eqlB {x y : Bool} (h : K (.bool (x == y)) w) (hg : P.underlying t = some .bool) : bin P .eql t cx cy (.bool x) (.bool y) K w := by
  refine bin_of (eqG_bool ..) ?_ h
  simp only [binOp, Sem.run_bind, run_equal_bool w t x y hg, Result.andThen_ok, Sem.run_pure]
theorem bin_neqB {x y : Bool} (h : K (.bool (x != y)) w) (hg : P.underlying t = some .bool) : bin P .neq t cx cy (.bool x) (.bool y) K w := by
  refine bin_of (eqG_bool ..) ?_ h
  simp only [binOp, Sem.run_bind, run_equal_bool w t x y hg, Result.andThen_ok, Sem.run_pure]
  rfl
theorem bin_eqlS {x y : List UInt8} (h : K (.bool (decide (x = y))) w) : bin P .eql t cx cy (.string (bstr x)) (.string (bstr y)) K w := by
  refine bin_of (eqG_string ..) ?_ h
  rw [binOp_bstr_eql, Sem.run_pure]
  by_cases hh : x = y <;> simp [hh]
theorem bin_neqS {x y : List UInt8} (h : K (.bool (decide (x ≠ y))) w) : bin P .neq t cx cy (.string (bstr x)) (.string (bstr y)) K w := by
  refine bin_of (eqG_string ..) ?_ h
  rw [binOp_bstr_neq, Sem.run_pure]
  by_cases hh : x = y <;> simp [hh]
theorem bin_lssS {x y : List UInt8} (h : K (.bool (Op.bytesLess x y)) w) : bin P .lss t cx cy (.string (bstr x)) (.string (bstr y)) K w := by
  refine bin_of (eqG_string ..) ?_ h
  rw [binOp_bstr_lss, Sem.run_pure]

theorem un_not {x : Bool} (h : K (.bool (!x)) w) : un P .not (.bool x) K w := by
  unfold un; exact okV_of (by simp [Op.unary, Sem.run_pure]) h
theorem un_notD {p : Prop} [Decidable p] (h : K (.bool (decide (¬ p))) w) : un P .not (.bool (decide p)) K w :=
  un_not (by rw [← decide_not]; exact h)
theorem un_neg (h : K (.int k (k.wrap (0 - a))) w) : un P .neg (.int k a) K w := by
  unfold un; exact okV_of (v := .int k (k.wrap (0 - a))) (w' := w) (by simp only [Op.unary, Op.intArith, Sem.run_pure]) h
theorem un_com (h : K (.int k (bitsOp .xor k (if k.signed then -1 else k.max) a)) w) : un P .xor (.int k a) K w := by
  unfold un; exact okV_of (by simp only [Op.unary, Op.intBits, Sem.run_pure]; rfl) h

theorem conv_int {s d : TypeId} {k' : IntKind} {ts : TypeDesc} (hs : P.underlying s = some ts) (hd : P.underlying d = some (.int k')) (h : K (.int k' (k'.wrap a)) w) : conv P s d (.int k a) K w := by
  unfold conv
  refine okV_of (w' := w) ?_ h
  cases ts <;> simp [convert, run_underlying hs, run_underlying hd, Conv.intToInt, Sem.run_pure]

theorem conv_str {s d e : TypeId} (hs : P.underlying s = some (.slice e)) (he : P.underlying e = some (.int .u8)) (hd : P.underlying d = some .string) {av : Option Addr} {n c : Nat} {l : List UInt8} (hr : RB w av n c l)
    (h : K (.string (bstr l)) w) : conv P s d (.slice av n c) K w := by
  unfold conv
  exact okV_of (run_bytes_str w s e d hs he hd hr) h

theorem ext_of {vs : Array Value} {i : Nat} {v : Value} (hv : vs[i]? = some v) (h : K v w) : ext P (.tuple vs) i K w := by
  unfold ext
  exact okV_of (by simp [Instr.extract, hv, Sem.run_pure]) h

theorem ext_a {a b : Value} (h : K a w) : ext P (.tuple #[a, b]) 0 K w := ext_of rfl h
theorem ext_b {a b : Value} (h : K b w) : ext P (.tuple #[a, b]) 1 K w := ext_of rfl h
theorem ext3_a {a b c : Value} (h : K a w) : ext P (.tuple #[a, b, c]) 0 K w := ext_of rfl h
theorem ext3_b {a b c : Value} (h : K b w) : ext P (.tuple #[a, b, c]) 1 K w := ext_of rfl h
theorem ext3_c {a b c : Value} (h : K c w) : ext P (.tuple #[a, b, c]) 2 K w := ext_of rfl h
theorem ext4_a {a b c d : Value} (h : K a w) : ext P (.tuple #[a, b, c, d]) 0 K w := ext_of rfl h
theorem ext4_b {a b c d : Value} (h : K b w) : ext P (.tuple #[a, b, c, d]) 1 K w := ext_of rfl h
theorem ext4_c {a b c d : Value} (h : K c w) : ext P (.tuple #[a, b, c, d]) 2 K w := ext_of rfl h
theorem ext4_d {a b c d : Value} (h : K d w) : ext P (.tuple #[a, b, c, d]) 3 K w := ext_of rfl h

theorem pick_of {x y : Value} {c : Bool} (h : K (if c then x else y) w) : pick (.bool c) x y K w := ⟨c, rfl, h⟩
theorem pick_t {x y : Value} {p : Prop} [Decidable p] (hp : p) (h : K x w) : pick (.bool (decide p)) x y K w := ⟨_, rfl, by simp [hp, h]⟩
theorem pick_f {x y : Value} {p : Prop} [Decidable p] (hp : ¬ p) (h : K y w) : pick (.bool (decide p)) x y K w := ⟨_, rfl, by simp [hp, h]⟩
theorem pick_T {x y : Value} (h : K x w) : pick (.bool true) x y K w := ⟨_, rfl, h⟩
theorem pick_F {x y : Value} (h : K y w) : pick (.bool false) x y K w := ⟨_, rfl, h⟩

theorem cond_p {p : Prop} [Decidable p] {A B : Prop} (h1 : p → A) (h2 : ¬ p → B) : cond (.bool (decide p)) A B := ⟨_, rfl, fun h => h1 (by simpa using h), fun h => h2 (by simpa using h)⟩
theorem cond_t {p : Prop} [Decidable p] {A B : Prop} (hp : p) (h : A) : cond (.bool (decide p)) A B := ⟨_, rfl, fun _ => h, fun hh => absurd hp (by simpa using hh)⟩
theorem cond_f {p : Prop} [Decidable p] {A B : Prop} (hp : ¬ p) (h : B) : cond (.bool (decide p)) A B := ⟨_, rfl, fun hh => absurd (by simpa using hh) hp, fun _ => h⟩
theorem cond_T {A B : Prop} (h : A) : cond (.bool true) A B := ⟨_, rfl, fun _ => h, (fun hh => by cases hh)⟩
theorem cond_F {A B : Prop} (h : B) : cond (.bool false) A B := ⟨_, rfl, (fun hh => by cases hh), fun _ => h⟩
theorem cond_b {c : Bool} {A B : Prop} (h1 : c = true → A) (h2 : c = false → B) : cond (.bool c) A B := ⟨c, rfl, h1, h2⟩

theorem sti_of {s : KV → World → Prop} {k : KV} {v : Value} (h : ∀ K : KV, K v w → s K w) (hk : k v w) : sti s k w := ⟨v, h _ ⟨rfl, rfl⟩, hk⟩

variable {A B : (List Value → World → Prop) → Prop} {KL : List Value → World → Prop}
theorem gsel_t {v : Value} {want : Bool} (hv : v = .bool want) (h : A KL) : gsel v want A B KL := ⟨fun _ => h, fun hh => absurd (by rw [hv]; rfl) hh⟩
theorem gsel_f {v : Value} {want : Bool} (hv : asB v ≠ some want) (h : B KL) : gsel v want A B KL := ⟨fun hh => absurd hh hv, fun _ => h⟩
theorem gsel_p {p : Prop} [Decidable p] (h1 : p → A KL) (h2 : ¬ p → B KL) : gsel (.bool (decide p)) true A B KL :=
  ⟨fun hh => h1 (by simpa [asB] using hh), fun hh => h2 (by simpa [asB] using hh)⟩
theorem gsel_n {p : Prop} [Decidable p] (h1 : ¬ p → A KL) (h2 : p → B KL) : gsel (.bool (decide p)) false A B KL :=
  ⟨fun hh => h1 (by simpa [asB] using hh), fun hh => h2 (by simpa [asB] using hh)⟩
theorem gsel_pt {p : Prop} [Decidable p] (hp : p) (h1 : A KL) : gsel (.bool (decide p)) true A B KL := gsel_t (by simp [hp]) h1
theorem gsel_pf {p : Prop} [Decidable p] (hp : ¬ p) (h1 : B KL) : gsel (.bool (decide p)) true A B KL := gsel_f (by simp [asB, hp]) h1
theorem gsel_nt {p : Prop} [Decidable p] (hp : p) (h1 : B KL) : gsel (.bool (decide p)) false A B KL := gsel_f (by simp [asB, hp]) h1
theorem gsel_nf {p : Prop} [Decidable p] (hp : ¬ p) (h1 : A KL) : gsel (.bool (decide p)) false A B KL := gsel_t (by simp [hp]) h1
theorem gsel_T (h1 : A KL) : gsel (.bool true) true A B KL := gsel_t rfl h1
theorem gsel_Tn (h1 : B KL) : gsel (.bool true) false A B KL := gsel_f (by simp [asB]) h1
theorem gsel_Fn (h1 : A KL) : gsel (.bool false) false A B KL := gsel_t rfl h1
theorem gsel_U {want : Bool} (h1 : B KL) : gsel undef want A B KL := gsel_f (fun h => by cases h) h1
theorem gsel_F (h1 : B KL) : gsel (.bool false) true A B KL := gsel_f (by simp [asB]) h1

theorem call_of {f : FuncId} {args : Array Value} (hg : isGo P f) (h : Gives P f args w K) : call P f args K w := ⟨hg, h⟩

theorem blt_of {bi : Builtin} {ats : Array TypeId} {ty : TypeId} {cs : Array Bool} {args : Array Value} {v : Value} {w' : World} (hr : (builtin bi ats ty cs args).run P w = .ok (.value v) w') (h : K v w') : blt P bi ats ty cs args K w := by
  unfold blt; rw [hr]; exact h

theorem len_slc {e ty : TypeId} {cs : Array Bool} {av : Option Addr} {n c : Nat} (ht : P.underlying t = some (.slice e)) (h : K (.int .i64 (n : Int)) w) : blt P .len #[t] ty cs #[.slice av n c] K w :=
  blt_of (by rw [BigFrame.builtin_len]; simp [Builtin.len_, run_underlying ht, Sem.run_pure, goInt]) h
theorem cap_slc {e ty : TypeId} {cs : Array Bool} {av : Option Addr} {n c : Nat} (ht : P.underlying t = some (.slice e)) (h : K (.int .i64 (c : Int)) w) : blt P .cap #[t] ty cs #[.slice av n c] K w :=
  blt_of (by rw [BigFrame.builtin_cap]; simp [Builtin.cap_, run_underlying ht, Sem.run_pure, goInt]) h
theorem bstr_size (l : List UInt8) : (bstr l).size = l.length := rfl
theorem len_str {ty : TypeId} {cs : Array Bool} {l : List UInt8} (ht : P.underlying t = some .string) (h : K (.int .i64 (l.length : Int)) w) : blt P .len #[t] ty cs #[.string (bstr l)] K w :=
  blt_of (by rw [BigFrame.builtin_len]; simp [Builtin.len_, run_underlying ht, Sem.run_pure, goInt, bstr_size]) h

theorem app_slc {e ty : TypeId} {cs : Array Bool} {base : Nat} {i : TypeInfo} {z : Value} {bytes : Nat} (ht : P.underlying t = some (.slice e)) (hi : P.info? e = some i) (hz : i.zero = some z)
    (hsize : i.size = 1) (hby : i.bytes = bytes) (hzs : z.cells.size = 1)
    {av : Option Addr} {n c : Nat} {xs : List Value} (hown : OV w base e av n c xs) {a2 : Option Addr} {m c2 : Nat} {ys : List Value} (hy : RV w a2 m c2 ys) (h1 : ∀ u ∈ ys, u.oneCell' = true)
    (hbytes : (n + m) * bytes ≤ 140737488355328) (h63 : n + m ≤ 9223372036854775807) (hbase : base ≤ w.heap.size)
    (h : ∀ a' c' w', OV w' base e a' (n + m) c' (xs ++ ys) → w.grownBy w' (Value.slice av n c).ownBlock → K (.slice a' (n + m) c') w') :
    blt P .append #[t, t] ty cs #[.slice av n c, .slice a2 m c2] K w := by
  obtain ⟨a', c', w', hr, h2, h3⟩ := run_append_ov (P := P) w base t ty e i z bytes ht hi hz hsize hby hzs hown hy h1 hbytes h63 hbase
  exact blt_of (by rw [BigFrame.builtin_append]; simp only [Sem.run_bind, hr, Result.andThen_ok, Sem.run_pure]) (h a' c' w' h2 h3)

theorem idx_slc {e : TypeId} (ht : P.underlying t = some (.slice e)) (hs : ∀ w, (sizeOf e).run P w = .ok 1 w) {av : Option Addr} {n c : Nat} {iv : Int}
    (h0 : 0 ≤ iv) (h1 : iv < n) (hsome : 0 < n → ∃ b o, av = some ⟨b, o, none⟩) (h : K (.pointer (some (slotA av iv.toNat))) w) : idxA P t (.slice av n c) (.int k iv) K w := by
  obtain ⟨b, o, rfl⟩ := hsome (by omega)
  have he : ((⟨b, o, none⟩ : Addr).add iv.toNat) = ⟨b, o + iv.toNat, none⟩ := by unfold Addr.add; split <;> simp_all
  unfold idxA
  refine okV_of (w' := w) ?_ h
  simp only [Instr.indexAt, asIntOf, Sem.run_bind, Sem.run_pure, Result.andThen_ok, run_underlying ht, hs, h0, h1, and_self, if_true, Nat.mul_one, he]
  rfl

theorem ld_of {ad : Addr} {v : Value} (hr : (loadVar t ad).run P w = .ok v w) (h : K v w) : ld P t (.pointer (some ad)) K w := by
  unfold ld
  exact okV_of (by simp only [Instr.loadAt, Instr.sureAddr, Sem.run_bind, Sem.run_pure, Result.andThen_ok, hr]) h

theorem ld_cell {ad : Addr} {v : Value} (ha : ∀ w, (isAgg t).run P w = .ok false w) (hc : w.cell? ad = some v) (h : K v w) : ld P t (.pointer (some ad)) K w := by
  refine ld_of ?_ h
  simp [loadVar, Sem.run_bind, ha, load, hc, Sem.run]

theorem sto_cell {ad : Addr} {v u : Value} (hs : ∀ w, (sizeOf t).run P w = .ok 1 w) (hv : v.oneCell' = true) (hv2 : v.cells = #[v]) (hc : w.cell? ad = some u) (hf : w.frozen? ad = false) (hsp : ad.spot = none)
    (h : K undef (w.setCell ad v)) : sto P t (.pointer (some ad)) v K w := by
  unfold sto
  have e0 : ad.add 0 = ad := rfl
  refine okU_of (w' := w.setCell ad v) (u := ()) ?_ h
  simp [Instr.storeAt, Instr.sureAddr, storeVar, Sem.run_bind, hs, hv2, storeCells, store, e0, hc, hf]
  cases v <;> simp_all [Value.oneCell', Sem.run]

theorem slc_of {e : TypeId} (ht : P.underlying t = some (.slice e)) (hs : ∀ w, (sizeOf e).run P w = .ok 1 w) {av : Option Addr} {n c : Nat} {l m : Nat} {xs : List Value} (hr : RV w av n c xs)
    {lo hi : Option Value} (hlo : (lo = none ∧ l = 0) ∨ ∃ k, lo = some (.int k (l : Int))) (hhi : (hi = none ∧ m = n) ∨ ∃ k, hi = some (.int k (m : Int))) (hlm : l ≤ m) (hmn : m ≤ n)
    (h : ∀ a', RV w a' (m - l) (c - l) ((xs.take m).drop l) → K (.slice a' (m - l) (c - l)) w) : slc P t (.slice av n c) lo hi none K w := by
  have hnc := hr.cap
  have sb : ∀ (k : IntKind) (i y : Nat) (code : BoundsCode), i ≤ y → (Instr.sliceBound (.int k (i : Int)) y code).run P w = .ok i w := by
    intro k i y code hi
    have := run_sliceBound (P := P) w k (i : Int) y code (by omega) (by omega)
    simpa using this
  have hb : (Instr.sliceBounds true n c lo hi none).run P w = .ok (l, m, c) w := by
    rcases hlo with ⟨rfl, rfl⟩ | ⟨kl, rfl⟩ <;> rcases hhi with ⟨rfl, rfl⟩ | ⟨kh, rfl⟩
    · simp [Instr.sliceBounds]
    · simp [Instr.sliceBounds, sb kh m c _ (by omega)]
    · simp [Instr.sliceBounds, sb kl l m _ hlm]
    · simp [Instr.sliceBounds, sb kh m c _ (by omega), sb kl l m _ hlm]
  unfold slc
  refine okV_of (w' := w) ?_ (h _ (hr.cut l m c hlm (by omega) hmn (Nat.le_refl _)))
  simp only [Instr.sliceAt, Instr.slice, Sem.run_bind, Sem.run_pure, Result.andThen_ok, run_underlying ht, hs, hb]

theorem bldS1 {e : TypeId} {i : TypeInfo} {z : Value} (ht : P.underlying t = some (.slice e)) (hi : P.info? e = some i) (hz : i.zero = some z) (hsize : i.size = 1) (hzs : z.cells.size = 1)
    {v : Value} (hv : v.cells = #[v])
    (h : RV (w.alloc (.cells #[v] e)) (some ⟨w.heap.size, 0, none⟩) 1 1 [v] → K (.slice (some ⟨w.heap.size, 0, none⟩) 1 1) (w.alloc (.cells #[v] e))) : bldS P t 1 #[(0, v)] K w := by
  unfold bldS
  refine okV_of (run_build1 w t e i z ht hi hz hsize hzs v hv) (h ⟨rfl, Nat.le_refl _, fun _ => ⟨_, _, rfl⟩, (fun h => by simp at h), fun j u hu => ?_⟩)
  have : j = 0 := by
    have := (List.getElem?_eq_some_iff.1 hu).1
    simpa using this
  subst this
  simp at hu
  subst hu
  rw [slotA_some, World.cell?_alloc_at _ _ _ _ rfl]; rfl

/-- make([]T, 0, n). -/
theorem mkS0 {e : TypeId} {base : Nat} {i : TypeInfo} {z : Value} {bytes : Nat} (ht : P.underlying t = some (.slice e)) (hi : P.info? e = some i) (hz : i.zero = some z) (hsize : i.size = 1) (hby : i.bytes = bytes)
    {kl kc : IntKind} {C : Int} {n : Nat} (hC : C = (n : Int)) (b2 : bytes * n ≤ 281474976710656) (b3 : n ≤ 9223372036854775807) (hbase : base ≤ w.heap.size)
    (h : ∀ a' w', OV w' base e a' 0 n [] → Below w.heap.size w w' → K (.slice a' 0 n) w') : mkS P t (.int kl 0) (.int kc C) K w := by
  subst hC
  obtain ⟨w', hrun, r1, r2⟩ := run_make_own (P := P) w base t e i z 1 ht hi hz hsize kl kc n (by rw [hby]; exact b2) (by simp only [maxLen]; omega) hbase
  unfold mkS
  exact okV_of hrun (h _ w' r1 (below_of_grown r2 (Nat.le_refl _) (fun k hk => by cases hk)))
/-- An empty slice that is not nil. -/
theorem bldS0 {e : TypeId} {i : TypeInfo} {base : Nat} (ht : P.underlying t = some (.slice e)) (hi : P.info? e = some i) (hsize : i.size = 1) (hbase : base ≤ w.heap.size)
    (h : ∀ a' w', OV w' base e a' 0 0 [] → Below w.heap.size w w' → K (.slice a' 0 0) w') : bldS P t 0 #[] K w := by
  unfold bldS
  refine okV_of (w' := w.alloc (.cells #[] e)) (v := .slice (some ⟨w.heap.size, 0, none⟩) 0 0) ?_ (h _ _ (World.ownsRow_made w #[] 0 hbase (Nat.zero_le _) rfl) (below_of_grown (World.grownBy_alloc _ _ none) (Nat.le_refl _) (fun k hk => by cases hk)))
  have e0 : ∀ f : Nat → Value, (Array.range 0).map f = #[] := fun f => by apply Array.ext <;> simp
  simp [Instr.buildSlice, Instr.fill, run_underlying ht, sizeOf, typeInfo, hi, hsize, newRow, e0]

/-- b == nil. -/
theorem eql_nilS {e : TypeId} {av : Option Addr} {n c : Nat} (ht : P.underlying t = some (.slice e)) (h : K (.bool av.isNone) w) : bin P .eql t cx cy (.slice av n c) (.slice none 0 0) K w := by
  refine bin_of (by unfold eqG eqGuard; simp [Sem.run_pure]) ?_ h
  simp only [binOp, Sem.run_bind, run_equal_slice_nil w t e av n c ht, Result.andThen_ok, Sem.run_pure]
theorem neq_nilS {e : TypeId} {av : Option Addr} {n c : Nat} (ht : P.underlying t = some (.slice e)) (h : K (.bool (!av.isNone)) w) : bin P .neq t cx cy (.slice av n c) (.slice none 0 0) K w := by
  refine bin_of (by unfold eqG eqGuard; simp [Sem.run_pure]) ?_ h
  simp only [binOp, Sem.run_bind, run_equal_slice_nil w t e av n c ht, Result.andThen_ok, Sem.run_pure]

/-- Two numbers of which one stands behind the other's bits. -/
theorem or_byte {n c : Nat} (hn : n < 72057594037927936) (hc : c < 256) : bitsOp .or .u64 (IntKind.u64.wrap ((n : Int) * 2 ^ (min (8 : Int).toNat IntKind.u64.bits))) (c : Int) = ((n * 256 + c : Nat) : Int) := by
  have h8 : (2 : Int) ^ (min (8 : Int).toNat IntKind.u64.bits) = 256 := rfl
  rw [h8, wrap_u64]
  have e1 : ((n : Int) * 256) % 18446744073709551616 = ((n * 256 : Nat) : Int) := by omega
  rw [e1]
  unfold bitsOp
  have hb : IntKind.u64.bits = 64 := rfl
  simp only [hb, wrap_u64]
  have : (BitVec.ofInt 64 ((n * 256 : Nat) : Int) ||| BitVec.ofInt 64 ((c : Nat) : Int)).toNat = n * 256 + c := by
    rw [BitVec.toNat_or, BitVec.ofInt_natCast, BitVec.ofInt_natCast, BitVec.toNat_ofNat, BitVec.toNat_ofNat]
    rw [Nat.mod_eq_of_lt (by omega), Nat.mod_eq_of_lt (by omega)]
    have h2 := Nat.shiftLeft_add_eq_or_of_lt (i := 8) (b := c) (by omega) n
    rw [Nat.shiftLeft_eq] at h2
    rw [← h2]
  show ((BitVec.ofInt 64 ((n * 256 : Nat) : Int) ||| BitVec.ofInt 64 ((c : Nat) : Int)).toNat : Int) % 18446744073709551616 = _
  rw [this]
  omega
/-- The parts of a literal that fills a slice. -/
def partsOf : Nat → List Value → List (Nat × Value)
  | _, [] => []
  | k, v :: vs => (k, v) :: partsOf (k + 1) vs

theorem fill_parts (z : Value) : ∀ (vs : List Value) (pre : List Value) (suf : Nat), (∀ v ∈ vs, v.cells = #[v]) → vs.length ≤ suf →
    Instr.fill (fun i => some (i * 1, 1)) (pre ++ List.replicate suf z).toArray (partsOf pre.length vs) = some (pre ++ vs ++ List.replicate (suf - vs.length) z).toArray := by
  intro vs
  induction vs with
  | nil => intro pre suf _ _; simp [partsOf, Instr.fill]
  | cons v vs ih =>
    intro pre suf hv hl
    simp only [List.length_cons] at hl
    obtain ⟨suf', rfl⟩ : ∃ s, suf = s + 1 := ⟨suf - 1, by omega⟩
    have h1 := hv v (List.mem_cons_self ..)
    have hih := ih (pre ++ [v]) suf' (fun x hx => hv x (List.mem_cons_of_mem _ hx)) (by omega)
    simp only [List.length_append, List.length_cons, List.length_nil, Nat.zero_add] at hih
    simp only [partsOf, Instr.fill, h1]
    rw [if_neg (by simp)]
    have : (#[v].zipIdx.foldl (fun cs (c, j) => cs.setIfInBounds (pre.length * 1 + j) c) (pre ++ List.replicate (suf' + 1) z).toArray) = (pre ++ [v] ++ List.replicate suf' z).toArray := by
      simp [List.replicate_succ]
    rw [this, hih]
    simp [List.append_assoc]

theorem run_buildN {e : TypeId} {i : TypeInfo} {z : Value} (ht : P.underlying t = some (.slice e)) (hi : P.info? e = some i) (hz : i.zero = some z) (hsize : i.size = 1) (hzs : z.cells = #[z])
    (vs : List Value) (hn : vs.length ≠ 0) (h24 : vs.length ≤ 1000000) (hv : ∀ v ∈ vs, v.cells = #[v]) :
    (Instr.buildSlice t vs.length (partsOf 0 vs).toArray).run P w = .ok (.slice (some ⟨w.heap.size, 0, none⟩) vs.length vs.length) (w.alloc (.cells vs.toArray e)) := by
  have hr : (Array.range (vs.length * 1)).map (fun k => z.cells[k % z.cells.size]!) = (([] : List Value) ++ List.replicate vs.length z).toArray := by
    rw [hzs]
    apply Array.ext
    · simp
    · intro j h1 h2
      simp [Nat.mod_one]
  have hf := fill_parts z vs [] vs.length hv (Nat.le_refl _)
  simp only [List.length_nil, List.nil_append, Nat.sub_self, List.replicate_zero, List.append_nil] at hf hr
  have h0 : ¬ (16777216 < vs.length) := by omega
  have hn' : ¬ vs = [] := fun e => hn (by rw [e]; rfl)
  simp only [Nat.mul_one] at hr hf
  rw [List.toArray_replicate] at hf hr
  simp [Instr.buildSlice, run_underlying ht, sizeOf, typeInfo, hi, hsize, zeroValue, hz, newRow, hr, hf, hn', h0]

theorem bldS_of {e : TypeId} {i : TypeInfo} {z : Value} {n : Nat} {ps : Array (Nat × Value)} {vs : List Value} (hn : n = vs.length) (hps : ps = (partsOf 0 vs).toArray)
    (ht : P.underlying t = some (.slice e)) (hi : P.info? e = some i) (hz : i.zero = some z) (hsize : i.size = 1) (hzs : z.cells = #[z])
    (h0 : vs.length ≠ 0) (h24 : vs.length ≤ 1000000) (hv : ∀ v ∈ vs, v.cells = #[v])
    (h : OV (w.alloc (.cells vs.toArray e)) w.heap.size e (some ⟨w.heap.size, 0, none⟩) vs.length vs.length vs → Below w.heap.size w (w.alloc (.cells vs.toArray e)) →
      K (.slice (some ⟨w.heap.size, 0, none⟩) vs.length vs.length) (w.alloc (.cells vs.toArray e))) : bldS P t n ps K w := by
  subst hn hps
  unfold bldS
  refine okV_of (run_buildN ht hi hz hsize hzs vs h0 h24 hv) (h ⟨by simp, .inr ⟨w.heap.size, vs.length, vs.toArray, rfl, Nat.le_refl _, heap_alloc_new w _, Nat.le_refl _, ?_, by simp, by simp⟩⟩ (below_of_grown (World.grownBy_alloc _ _ none) (Nat.le_refl _) (fun k hk => by cases hk)))
  simp only [maxLen]; omega

/-- []byte of a constant. -/
theorem constB {K2 : Value → KV} {e : TypeId} {i : TypeInfo} {z : Value} {n : Nat} {ps : Array (Nat × Value)} {l : List UInt8} (hn : n = l.length) (hps : ps = (partsOf 0 (l.map u8v)).toArray)
    (ht : P.underlying t = some (.slice e)) (he : P.underlying e = some (.int .u8)) (hi : P.info? e = some i) (hz : i.zero = some z) (hsize : i.size = 1) (hzs : z.cells = #[z])
    (h0 : l.length ≠ 0) (h24 : l.length ≤ 1000000)
    (h : ∀ a' w', RB w' a' n n l → Below w.heap.size w w' → K2 (.slice (some ⟨w.heap.size, 0, none⟩) n n) (.slice a' n n) w') : bldS P t n ps (fun v w => conv P t t v (K2 v) w) w := by
  subst hn
  have hl : (l.map u8v).length = l.length := by simp
  refine bldS_of (vs := l.map u8v) (by rw [hl]) hps ht hi hz hsize hzs (by rw [hl]; exact h0) (by rw [hl]; exact h24) (fun v hv => by obtain ⟨c, _, rfl⟩ := List.mem_map.1 hv; rfl) ?_
  intro ho hb
  have hr := ho.rv
  unfold conv
  refine okV_of (Lib.run_convert_bytes_const (P := P) w t e (l.map u8v).toArray _ _ ht he) ?_
  rw [hl] at *
  refine h _ _ ⟨by simp, Nat.le_refl _, fun _ => ⟨_, _, rfl⟩, (fun hh => by simp at hh), fun j v hj => ?_⟩ (below_of_grown (World.grownBy_alloc _ _ none) (Nat.le_refl _) (fun k hk => by cases hk))
  have hlt := (List.getElem?_eq_some_iff.1 hj).1
  rw [slotA_some]
  unfold World.cell?
  rw [heap_alloc_new]
  simpa using hj

/-- make([]T, 0, n), the block told whole. -/
theorem mkS0x {e : TypeId} {i : TypeInfo} {z : Value} {bytes : Nat} (ht : P.underlying t = some (.slice e)) (hi : P.info? e = some i) (hz : i.zero = some z) (hsize : i.size = 1) (hby : i.bytes = bytes) (hzs : z.cells = #[z])
    {kl kc : IntKind} {C : Int} {n : Nat} (hC : C = (n : Int)) (b2 : bytes * n ≤ 281474976710656) (b3 : n ≤ 9223372036854775807)
    (h : ∀ w', w'.heap[w.heap.size]? = some (.cells (List.replicate n z).toArray e (0, 0)) → Below w.heap.size w w' → w'.heap.size = w.heap.size + 1 → K (.slice (some ⟨w.heap.size, 0, none⟩) 0 n) w') : mkS P t (.int kl 0) (.int kc C) K w := by
  subst hC
  have hrun := run_make (P := P) w t e i z ht hi hz kl kc 0 n (by omega) (by omega) (by rw [hby]; omega) (by omega)
  rw [hsize, hzs] at hrun
  have hm : madeCells #[z] (((n : Int)).toNat * 1) = (List.replicate n z).toArray := by
    have := toList_madeCells_one z n
    rw [← this]; simp
  rw [hm] at hrun
  unfold mkS
  exact okV_of hrun (h _ (heap_alloc_new w _) (below_of_grown (World.grownBy_alloc _ _ none) (Nat.le_refl _) (fun k hk => by cases hk)) (by simp))

/-- append within the capacity, the block told whole. -/
theorem app_x {e ty : TypeId} {cs : Array Bool} {i : TypeInfo} (ht : P.underlying t = some (.slice e)) (hi : P.info? e = some i) (hsize : i.size = 1)
    {g n c : Nat} {cur : Array Value} (hg : w.heap[g]? = some (.cells cur e (0, 0))) (hcs : cur.size = c) {a2 : Option Addr} {m c2 : Nat} {ys : List Value} (hy : RV w a2 m c2 ys) (h1 : ∀ u ∈ ys, u.oneCell' = true)
    (hroom : n + m ≤ c)
    (h : ∀ w', w'.heap[g]? = some (.cells (cur.toList.take n ++ ys ++ cur.toList.drop (n + m)).toArray e (0, 0)) → (∀ k, k ≠ g → w'.heap[k]? = w.heap[k]?) → w'.os = w.os → w'.tape = w.tape → w'.output = w.output → w'.heap.size = w.heap.size →
      K (.slice (some ⟨g, 0, none⟩) (n + m) c) w') :
    blt P .append #[t, t] ty cs #[.slice (some ⟨g, 0, none⟩) n c, .slice a2 m c2] K w := by
  cases a2 with
  | none =>
    obtain ⟨rfl, rfl⟩ := hy.nil_ rfl
    have : ys = [] := List.eq_nil_of_length_eq_zero hy.len
    subst this
    refine blt_of (v := .slice (some ⟨g, 0, none⟩) (n + 0) c) (w' := w) ?_ (h w (by simpa using hg) (fun _ _ => rfl) rfl rfl rfl rfl)
    rw [BigFrame.builtin_append]
    simp [Builtin.append_, run_underlying ht, sizeOf, typeInfo, hi, Builtin.lenOf, Builtin.firstCells, show n ≤ c by omega, storeCells]
  | some ad =>
    have hn : ∀ j u, ys[j]? = some u → w.cell? (ad.add j) = some u := by
      intro j u hj
      have hlt : j < m := by rw [← hy.len]; exact (List.getElem?_eq_some_iff.1 hj).1
      obtain ⟨b, o, hbo⟩ := hy.some_ (by omega)
      have hc := hy.cell j u hj
      cases hbo
      rw [slotA_some] at hc
      have he : ((⟨b, o, none⟩ : Addr).add j) = ⟨b, o + j, none⟩ := by unfold Addr.add; split <;> simp_all
      rw [he]; exact hc
    have hr := run_append_room (P := P) w t ty e i ht hi g n c cur hg ad m c2 ys (by simp [hy.len, hsize]) hn h1 hroom (by rw [hsize, hcs, hy.len]; omega)
    rw [hsize, hy.len, Nat.mul_one] at hr
    exact blt_of (by rw [BigFrame.builtin_append]; simp only [Sem.run_bind, hr, Result.andThen_ok, Sem.run_pure]) (h _ (setRow_heap w g cur _ e _ hg) (fun k hk => setRow_other w g k _ hk) rfl rfl rfl (by simp [World.setRow]))

/-- x[:m] up to a place within the capacity. -/
theorem slc_up {e : TypeId} (ht : P.underlying t = some (.slice e)) (hs : ∀ w, (sizeOf e).run P w = .ok 1 w) {av : Option Addr} {n c m : Nat} {k : IntKind} (hm : m ≤ c) (h : K (.slice av m c) w) :
    slc P t (.slice av n c) none (some (.int k (m : Int))) none K w := by
  have hb : (Instr.sliceBounds true n c none (some (.int k (m : Int))) none).run P w = .ok (0, m, c) w := by
    have := run_sliceBound (P := P) w k (m : Int) c .sliceAcap (by omega) (by omega)
    simp [Instr.sliceBounds] at this ⊢
    rw [this]; simp
  unfold slc
  refine okV_of (w' := w) ?_ h
  simp only [Instr.sliceAt, Instr.slice, Sem.run_bind, Sem.run_pure, Result.andThen_ok, run_underlying ht, hs, hb]
  cases av <;> simp [Addr.add]
end
end Go.Proofs.YtnmjfakibhekmaaGreatDoor
