/- slices.Sort of numbers, on: the pivot, and breaking patterns. -/
import Derived.Test.YtcieejlkdfdpiaaSSort3
import Derived.Test.YtcieejlkdfdpiaaSSort4
import Derived.Test.YtcieejlkdfdpiaaSort8
namespace Go.Proofs.Ytcieejlkdfdpiaa
set_option maxRecDepth 100000
open Go.RowKit
/-- Of the blocks that were there only g was written. -/
structure Ots (g : Nat) (w w' : World) : Prop where
  os : w'.os = w.os
  tape : w'.tape = w.tape
  output : w'.output = w.output
  size : w.heap.size ≤ w'.heap.size
  other : ∀ k, k < w.heap.size → k ≠ g → w'.heap[k]? = w.heap[k]?
theorem Ots.refl (w : World) (g : Nat) : Ots g w w := ⟨rfl, rfl, rfl, Nat.le_refl _, fun _ _ _ => rfl⟩
theorem Ots.of_oth {g : Nat} {w w' : World} (h : Oth g w w') : Ots g w w' := ⟨h.os, h.tape, h.output, by have := h.size; omega, fun k _ hk => h.other k hk⟩
theorem Ots.of_below {g : Nat} {w w' : World} (h : Below w.heap.size w w') : Ots g w w' := ⟨h.os, h.tape, h.output, h.size, fun k hk _ => h.block k hk⟩
theorem Ots.trans {g : Nat} {a b c : World} (h : Ots g a b) (k : Ots g b c) : Ots g a c :=
  ⟨k.os.trans h.os, k.tape.trans h.tape, k.output.trans h.output, Nat.le_trans h.size k.size, fun i hi hn => (k.other i (by have := h.size; omega) hn).trans (h.other i hi hn)⟩
theorem Ots.drew {g : Nat} {w w' : World} (h : Ots g w w') : Ots g w w'.drew := ⟨h.os, h.tape, h.output, h.size, h.other⟩
theorem Ots.undrew {g : Nat} {w w' : World} (h : Ots g w.drew w') : Ots g w w' := ⟨h.os, h.tape, h.output, h.size, h.other⟩
/-- A block made since was written, too. -/
theorem Ots.new {g p : Nat} {a b c : World} (h : Ots g a b) (k : Oth p b c) (hp : a.heap.size ≤ p) : Ots g a c :=
  ⟨k.os.trans h.os, k.tape.trans h.tape, k.output.trans h.output, by have := h.size; have := k.size; omega, fun i hi hn => (k.other i (by omega)).trans (h.other i hi hn)⟩
theorem Ots.below {g B : Nat} {w w' : World} (h : Ots g w w') (hB : B ≤ g) (hs : B ≤ w.heap.size) : Below B w w' := ⟨h.os, h.tape, h.output, h.size, fun k hk => h.other k (by omega) (by omega)⟩
theorem SD.oth {w w' : World} {g n c p : Nat} {xs : List Int} (h : SD w g n c xs) (o : Oth p w w') (hp : p ≠ g) : SD w' g n c xs := by
  obtain ⟨rest, q1, q2⟩ := h; exact ⟨rest, o.blk q1 (fun e => hp e.symm), q2⟩
theorem SD.below {w w' : World} {g n c : Nat} {xs : List Int} (h : SD w g n c xs) (o : Below w.heap.size w w') : SD w' g n c xs := by
  obtain ⟨rest, q1, q2⟩ := h; exact ⟨rest, below_blk o q1 q1.lt, q2⟩
theorem SD.lt {w : World} {g n c : Nat} {xs : List Int} (h : SD w g n c xs) : g < w.heap.size := by
  obtain ⟨rest, q1, q2⟩ := h; exact q1.lt

/-! ## The length in bits -/
def tabOK (l : List UInt8) : Bool := (List.range 256).all fun i => i == 0 || decide (2 ^ (l.getD i 0).toNat ≤ 2 * i)
section
variable {P : Program} {w : World} {K : KV} {t : TypeId}
theorem idx_tab (ht : P.underlying t = some .string) {l : List UInt8} (hl : l.length = 256) (hok : tabOK l = true) {k : IntKind} {i : Nat} (h1 : 1 ≤ i) (hi : i < 256)
    (h : ∀ r : Nat, r < 64 → 2 ^ r ≤ 2 * i → K (.int .u8 (r : Int)) w) : idx P t (.string (bstr l)) (.int k (i : Nat)) K w := by
  have hb : 2 ^ (l.getD i 0).toNat ≤ 2 * i := by
    have := (List.all_eq_true.1 hok) i (List.mem_range.2 hi)
    simp only [Bool.or_eq_true, beq_iff_eq, decide_eq_true_eq] at this
    rcases this with h | h
    · omega
    · exact h
  have hr : (l.getD i 0).toNat < 64 := by
    rcases Nat.lt_or_ge (l.getD i 0).toNat 64 with h | h
    · exact h
    · have : 2 ^ 64 ≤ 2 ^ (l.getD i 0).toNat := Nat.pow_le_pow_right (by omega) h
      omega
  refine idx_of (w' := w) (v := .int .u8 ((l.getD i 0).toNat : Int)) ?_ (h _ hr hb)
  have hs : (bstr l).size = 256 := by simp [bstr, ByteArray.size, hl]
  have e : (bstr l)[i]? = some (l.getD i 0) := by
    rw [getElem?_pos (bstr l) i (by omega)]
    congr 1
    simp [bstr, ByteArray.getElem_eq_getElem_data, List.getD, show i < l.length by omega]
  simp [Instr.index, asIntOf, run_underlying ht, e]
end
theorem and_lt {x : Int} {m : Nat} (hm : m < 18446744073709551616) : ∃ r : Nat, bitsOp .and .u64 x (m : Nat) = (r : Int) ∧ r ≤ m := by
  refine ⟨(BitVec.ofInt 64 x &&& BitVec.ofInt 64 (m : Int)).toNat, ?_, ?_⟩
  · unfold bitsOp
    have hb : IntKind.u64.bits = 64 := rfl
    show IntKind.u64.wrap ((BitVec.ofInt 64 x &&& BitVec.ofInt 64 (m : Int)).toNat : Int) = _
    rw [wrap_u64]
    have := (BitVec.ofInt 64 x &&& BitVec.ofInt 64 (m : Int)).isLt
    omega
  · rw [BitVec.toNat_and, BitVec.ofInt_natCast, BitVec.toNat_ofNat, Nat.mod_eq_of_lt (a := m) (by omega)]
    exact Nat.and_le_right
attribute [local irreducible] bin un conv call callV blt slc fldA fld idxA idx lkp mUpd mEnt eSt rng nxt ent ext alc box bld bldS ld sto nilC mkMap mkS ifc pick rdy wts gsel sti cond retM Gives cCode cGrp cSeq cOp
section
variable {w w0 w' : World} {K : KV} {g n c : Nat} {xs : List Int}
theorem lenc_c (h1 : 1 ≤ n) (hn : n < 256) (h : ∀ r : Nat, r < 64 → 2 ^ r ≤ 2 * n → K (.int .i64 (r : Int)) w) : call Try.prog 25 #[.int .u64 (n : Nat)] K w := by
  refine call_of math_bits_Len_go (math_bits_Len_in ?_)
  (repeat (first | refine cond_F ?_))
  refine call_of math_bits_Len64_go (math_bits_Len64_in ?_)
  (repeat (first | refine math_bits_Len64_P1_r ?_ | refine math_bits_Len64_A1_r ?_ | refine math_bits_Len64_P2_r ?_ | refine math_bits_Len64_A2_r ?_ | refine math_bits_Len64_P3_r ?_ | refine math_bits_Len64_A3_r ?_ | refine bin_geq ?_ | refine cond_f (by omega) ?_))
  refine conv_int Try.underlying33 Try.underlying5 ?_
  rw [wrap_u8, show ((n : Nat) : Int) % 256 = (n : Nat) by omega]
  refine idx_tab Try.underlying9 rfl (by decide +kernel) h1 hn ?_
  intro b hb hb2
  refine conv_int Try.underlying5 Try.underlying3 ?_
  rw [wrap_i64 (by omega) (by omega)]
  (repeat (first | refine add64 (by omega) (by omega) ?_))
  have := h b hb hb2
  rwa [Int.zero_add]
theorem npow_c (h1 : 1 ≤ n) (hn : n < 256) (h : ∀ m : Nat, 1 ≤ m → m ≤ 2 * n → K (.int .u64 (m : Int)) w) : call Try.prog 38 #[.int .i64 (n : Nat)] K w := by
  refine call_of slices_nextPowerOfTwo_go (slices_nextPowerOfTwo_in ?_)
  refine conv_int Try.underlying3 Try.underlying56 ?_
  rw [wrap_u64, show ((n : Nat) : Int) % 18446744073709551616 = (n : Nat) by omega]
  refine lenc_c h1 hn ?_
  intro r hr hr2
  refine bin_shl (by omega) ?_
  have hp : 0 < 2 ^ r := Nat.two_pow_pos r
  have e : IntKind.u64.wrap (1 * 2 ^ (min ((r : Int).toNat) IntKind.u64.bits)) = ((2 ^ r : Nat) : Int) := by
    have hb : IntKind.u64.bits = 64 := rfl
    rw [hb, show min ((r : Int).toNat) 64 = r by omega, Int.one_mul, wrap_u64]
    have e2 : (2 : Int) ^ r = ((2 ^ r : Nat) : Int) := by simp
    rw [e2]
    omega
  rw [e]
  exact h _ hp hr2
set_option maxHeartbeats 1000000 in
theorem xnext_c {p : Nat} {x : Int} (hd : blk w p 96 [.int .u64 x]) (h : ∀ w' y, blk w' p 96 [.int .u64 y] → Oth p w w' → K (.int .u64 y) w') :
    call Try.prog 39 #[.pointer (some ⟨p, 0, none⟩)] K w := by
  have sz : ∀ w, (sizeOf 96).run Try.prog w = .ok 1 w := fun _ => by kernel_rfl
  have na : ∀ w, (isAgg 96).run Try.prog w = .ok false w := fun _ => by kernel_rfl
  refine call_of slices_xorshift_Next_go (slices_xorshift_Next_in ?_)
  refine sti_of (fun K hK => nilC_p hK) ?_
  refine sti_of (fun K hK => ld1 na hd rfl hK) ?_
  refine sti_of (fun K hK => nilC_p hK) ?_
  refine sti_of (fun K hK => ld1 na hd rfl hK) ?_
  refine sti_of (fun K hK => bin_shl (by omega) hK) ?_
  refine sti_of (fun K hK => bin_xor hK) ?_
  refine sti_of (fun K hK => nilC_p hK) ?_
  refine sto1 sz hd.drew (by simp) rfl ?_
  intro w1 d1 o1
  refine sti_of (fun K hK => nilC_p hK) ?_
  refine sti_of (fun K hK => ld1 na d1 rfl hK) ?_
  refine sti_of (fun K hK => nilC_p hK) ?_
  refine sti_of (fun K hK => ld1 na d1 rfl hK) ?_
  refine sti_of (fun K hK => bin_shr (by omega) hK) ?_
  refine sti_of (fun K hK => bin_xor hK) ?_
  refine sti_of (fun K hK => nilC_p hK) ?_
  refine sto1 sz d1.drew (by simp) rfl ?_
  intro w2 d2 o2
  refine sti_of (fun K hK => nilC_p hK) ?_
  refine sti_of (fun K hK => ld1 na d2 rfl hK) ?_
  refine sti_of (fun K hK => nilC_p hK) ?_
  refine sti_of (fun K hK => ld1 na d2 rfl hK) ?_
  refine sti_of (fun K hK => bin_shl (by omega) hK) ?_
  refine sti_of (fun K hK => bin_xor hK) ?_
  refine sti_of (fun K hK => nilC_p hK) ?_
  refine sto1 sz d2.drew (by simp) rfl ?_
  intro w3 d3 o3
  refine nilC_p ?_
  refine ld1 na d3 rfl ?_
  exact h w3 _ d3 (oth_trans (oth_trans (oth_drew (oth_refl _ _)) (oth_trans o1 (oth_drew (oth_refl _ _)))) (oth_trans o2 (oth_trans (oth_drew (oth_refl _ _)) o3)))
set_option maxHeartbeats 1000000 in
theorem bpat_c {a b : Nat} (hd : SD w g n c xs) (hab : a ≤ b) (hb : b ≤ n) (hn : n < 256) (h : ∀ w' ys, SD w' g n c ys → Ots g w w' → Rng a b xs ys → K (.tuple #[]) w') :
    call Try.prog 28 #[.slice (some ⟨g, 0, none⟩) n c, .int .i64 (a : Nat), .int .i64 (b : Nat)] K w := by
  refine call_of slices_breakPatternsOrdered_uint64_go (slices_breakPatternsOrdered_uint64_in ?_)
  refine sub64 (by omega) (by omega) ?_
  rw [csub hab]
  refine bin_geq ?_
  by_cases h8 : 8 ≤ b - a
  rotate_left
  · refine cond_f (by omega) ?_
    exact h _ xs hd (Ots.refl _ _) (Rng.refl _ _ _)
  refine cond_t (by omega) ?_
  refine conv_int Try.underlying3 Try.underlying96 ?_
  refine alc_of (z := .int .u64 0) (by kernel_rfl) ?_
  intro w1 hb1 b1 s1
  have hd1 := hd.below b1
  have hgl := hd.lt
  refine sto1 (fun _ => by kernel_rfl) hb1 (by simp [Value.cells]) rfl ?_
  intro w2 hb2 o2
  have hd2 := hd1.oth o2 (by omega)
  have hb2 : blk w2 w.heap.size 96 [.int .u64 (IntKind.u64.wrap ((b - a : Nat) : Int))] := hb2
  refine npow_c (by omega) (by omega) ?_
  intro m hm1 hm2
  refine quo64 (by omega) (by omega) (by omega) ?_
  refine mul64 (by omega) (by omega) ?_
  refine add64 (by omega) (by omega) ?_
  refine sub64 (by omega) (by omega) ?_
  have t2 : Ots g w w2 := (Ots.of_below b1).new o2 (Nat.le_refl _)
  refine slices_breakPatternsOrdered_uint64_L1_r (Inv := fun i wr => ∃ (q : Nat) (x : Int) (z : List Int), i = .int .i64 (q : Nat) ∧ (a ≤ q) ∧ SD wr g n c z ∧ blk wr w.heap.size 96 [.int .u64 x] ∧ Ots g w wr ∧ Rng a b xs z) (μ := fun i _ => b - (intOf i).toNat)
    ⟨a + (b - a) / 4 * 2 - 1, _, xs, by congr 1; omega, by omega, hd2, hb2, t2, Rng.refl _ _ _⟩ ?_
  rintro _ _ w3 m3 ⟨q, x, z, rfl, hq, hd3, hb3, t3, r3⟩ hm3
  have lz := hd3.len
  refine quo64 (by omega) (by omega) (by omega) ?_
  refine mul64 (by omega) (by omega) ?_
  refine add64 (by omega) (by omega) ?_
  refine add64 (by omega) (by omega) ?_
  refine bin_leq ?_
  by_cases hle : (q : Int) ≤ (a : Int) + ((b - a : Nat) : Int) / 4 * 2 + 1
  rotate_left
  · refine cond_f hle ?_
    exact h _ z hd3 t3 r3
  refine cond_t hle ?_
  refine xnext_c hb3 ?_
  intro w4 y hb4 o4
  have hd4 := hd3.oth o4 (by omega)
  have t4 := t3.new o4 (Nat.le_refl _)
  refine bin_sub ?_
  rw [wrap_u64, show ((m : Int) - 1) % 18446744073709551616 = ((m - 1 : Nat) : Int) by omega]
  refine bin_and ?_
  obtain ⟨r, hr1, hr2⟩ := and_lt (x := y) (m := m - 1) (by omega)
  rw [hr1]
  refine conv_int Try.underlying56 Try.underlying3 ?_
  rw [wrap_i64 (by omega) (by omega)]
  refine bin_geq ?_
  refine slices_breakPatternsOrdered_uint64_A1_r ?_
  have go : ∀ (o : Nat) {B1 : List Value → World → Prop} {data0 a1 b2 data3 a4 b5 length6 random7 modulus8 idx9 other10 t11 t12 t13 t14 t15 t16 t17 t18 t19 t20 t21 t22 t23 t24 t25 t26 t27 t28 t29 t30 t31 t32 t33 t34 t35 t36 t37 t38 t39 t40 t41 t42 t43 t44 t45 t46 t47 t48 t49 t50 t51 t52 t53 t54 t55 t56 t57 t58 t59 t60 t61 t62 t63 t64 : Value}, o < b - a → data0 = .slice (some ⟨g, 0, none⟩) n c → a1 = .int .i64 (a : Nat) → idx9 = .int .i64 (q : Nat) → other10 = .int .i64 (o : Nat) →
      (∀ e w', gd e 9 = .int .i64 ((q + 1 : Nat) : Int) → SD w' g n c (swp z q (a + o)) → Oth g w4 w' → B1 e w') → slices_breakPatternsOrdered_uint64_P2 K B1 ((data0 :: a1 :: b2 :: data3 :: a4 :: b5 :: length6 :: random7 :: modulus8 :: idx9 :: other10 :: t11 :: t12 :: t13 :: t14 :: t15 :: t16 :: t17 :: t18 :: t19 :: t20 :: t21 :: t22 :: t23 :: t24 :: t25 :: t26 :: t27 :: t28 :: t29 :: t30 :: t31 :: t32 :: t33 :: t34 :: t35 :: t36 :: t37 :: t38 :: t39 :: t40 :: t41 :: t42 :: t43 :: t44 :: t45 :: t46 :: t47 :: t48 :: t49 :: t50 :: t51 :: t52 :: t53 :: t54 :: t55 :: t56 :: t57 :: t58 :: t59 :: t60 :: t61 :: t62 :: t63 :: t64 :: [])) w4 := by
    intro o
    intros
    rename_i ho e0 e1 e9 e10 hB
    subst e0 e1 e9 e10
    refine slices_breakPatternsOrdered_uint64_P2_r ?_
    refine hReg_of (fun x => SD x g n c z) hd4.drew ?_
    refine hld_of (fun x hx K hK => add64 (by omega) (by omega) hK) ?_
    refine hld_of (fun x hx K hK => add64 (by omega) (by omega) hK) ?_
    rw [cadd]
    refine swapI_c hd4.drew (i := q) (j := a + o) (by omega) (by omega) ?_
    intro w5 d5 o5
    refine slices_breakPatternsOrdered_uint64_P1_r ?_
    refine add64 (by omega) (by omega) ?_
    rw [cadd1]
    exact hB _ _ rfl d5 (oth_trans (oth_drew (oth_refl _ _)) o5)
  have fin : ∀ (o : Nat), o < b - a → ∀ e w', gd e 9 = .int .i64 ((q + 1 : Nat) : Int) → SD w' g n c (swp z q (a + o)) → Oth g w4 w' → (∃ (q : Nat) (x : Int) (z : List Int), gd e 9 = .int .i64 (q : Nat) ∧ (a ≤ q) ∧ SD w' g n c z ∧ blk w' w.heap.size 96 [.int .u64 x] ∧ Ots g w w' ∧ Rng a b xs z) ∧ b - (intOf (gd e 9)).toNat < m3 := by
    intro o ho e w5 e9 d5 o5
    refine ⟨⟨q + 1, y, _, e9, by omega, d5, o5.blk hb4 (by omega), t4.trans (Ots.of_oth o5), r3.trans (Rng.swp (by omega) (by omega) (by omega) (by omega))⟩, ?_⟩
    rw [e9, hm3]; simp only [intOf]; omega
  by_cases hge : b - a ≤ r
  · refine cond_t (by omega) ?_
    refine sub64 (by omega) (by omega) ?_
    rw [csub hge]
    exact go (r - (b - a)) (by omega) rfl rfl rfl rfl (fin _ (by omega))
  · refine cond_f (by omega) ?_
    exact go r (by omega) rfl rfl rfl rfl (fin _ (by omega))

/-! ## The pivot -/
abbrev I64 : TypeId := 3
theorem order2_c {p i j : Nat} {s : Int} (hd : SD w g n c xs) (hp : blk w p I64 [.int .i64 s]) (hpg : p ≠ g) (hi : i < n) (hj : j < n)
    (h : ∀ w' x y s', (x = i ∨ x = j) → (y = i ∨ y = j) → SD w' g n c xs → blk w' p I64 [.int .i64 s'] → Oth p w w' → K (.tuple #[.int .i64 (x : Nat), .int .i64 (y : Nat)]) w') :
    call Try.prog 43 #[.slice (some ⟨g, 0, none⟩) n c, .int .i64 (i : Nat), .int .i64 (j : Nat), .pointer (some ⟨p, 0, none⟩)] K w := by
  refine call_of slices_order2Ordered_uint64_go (slices_order2Ordered_uint64_in ?_)
  refine hReg_of (fun x => SD x g n c xs) hd.drew ?_
  refine hld_of (fun x hx K hK => idxS hj hK) ?_
  refine hld_of (fun x hx K hK => ldS hx hj hK) ?_
  refine hld_of (fun x hx K hK => idxS hi hK) ?_
  refine hld_of (fun x hx K hK => ldS hx hi hK) ?_
  refine less_c ?_
  by_cases hlt : G xs j < G xs i
  · refine cond_t hlt ?_
    refine nilC_p ?_
    refine ld1 (v := .int .i64 s) (fun _ => by kernel_rfl) hp.drew rfl ?_
    refine bin_add ?_
    refine nilC_p ?_
    refine sto1 (fun _ => by kernel_rfl) hp.drew (by simp) rfl ?_
    intro w2 hp2 o2
    have o02 := oth_trans (oth_drew (oth_refl w p)) o2
    exact h _ j i _ (.inr rfl) (.inl rfl) (hd.oth o02 hpg) hp2 o02
  · refine cond_f hlt ?_
    exact h _ i j s (.inl rfl) (.inr rfl) hd.drew hp.drew (oth_drew (oth_refl _ _))
theorem median_c {p i j k : Nat} {s : Int} (hd : SD w g n c xs) (hp : blk w p I64 [.int .i64 s]) (hpg : p ≠ g) (hi : i < n) (hj : j < n) (hk : k < n)
    (h : ∀ w' x s', (x = i ∨ x = j ∨ x = k) → SD w' g n c xs → blk w' p I64 [.int .i64 s'] → Oth p w w' → K (.int .i64 (x : Nat)) w') :
    call Try.prog 41 #[.slice (some ⟨g, 0, none⟩) n c, .int .i64 (i : Nat), .int .i64 (j : Nat), .int .i64 (k : Nat), .pointer (some ⟨p, 0, none⟩)] K w := by
  refine call_of slices_medianOrdered_uint64_go (slices_medianOrdered_uint64_in ?_)
  refine order2_c hd hp hpg hi hj ?_
  intro w1 x1 y1 s1 hx1 hy1 d1 p1 o1
  refine ext_a ?_
  refine ext_b ?_
  refine order2_c d1 p1 hpg (by omega) hk ?_
  intro w2 x2 y2 s2 hx2 hy2 d2 p2 o2
  refine ext_a ?_
  refine ext_b ?_
  refine order2_c d2 p2 hpg (by omega) (by omega) ?_
  intro w3 x3 y3 s3 hx3 hy3 d3 p3 o3
  refine ext_a ?_
  refine ext_b ?_
  exact h _ y3 s3 (by omega) d3 p3 (oth_trans (oth_trans o1 o2) o3)
theorem madj_c {p i : Nat} {s : Int} (hd : SD w g n c xs) (hp : blk w p I64 [.int .i64 s]) (hpg : p ≠ g) (h1 : 1 ≤ i) (hi : i + 1 < n) (hn : n < 256)
    (h : ∀ w' x s', i - 1 ≤ x → x ≤ i + 1 → SD w' g n c xs → blk w' p I64 [.int .i64 s'] → Oth p w w' → K (.int .i64 (x : Nat)) w') :
    call Try.prog 40 #[.slice (some ⟨g, 0, none⟩) n c, .int .i64 (i : Nat), .pointer (some ⟨p, 0, none⟩)] K w := by
  refine call_of slices_medianAdjacentOrdered_uint64_go (slices_medianAdjacentOrdered_uint64_in ?_)
  refine sub64 (by omega) (by omega) ?_
  rw [csub1 (by omega)]
  refine add64 (by omega) (by omega) ?_
  rw [cadd1]
  refine median_c hd hp hpg (by omega) (by omega) (by omega) ?_
  intro w1 x s1 hx d1 p1 o1
  exact h _ x s1 (by omega) (by omega) d1 p1 o1
set_option maxHeartbeats 1000000 in
theorem cpiv_c {a b : Nat} (hd : SD w g n c xs) (hab : a + 8 ≤ b) (hb : b ≤ n) (hn : n < 256) (h : ∀ w' (p : Nat) (u : Int), a ≤ p → p < b → SD w' g n c xs → Ots g w w' → K (.tuple #[.int .i64 (p : Nat), .int .i64 u]) w') :
    call Try.prog 29 #[.slice (some ⟨g, 0, none⟩) n c, .int .i64 (a : Nat), .int .i64 (b : Nat)] K w := by
  refine call_of slices_choosePivotOrdered_uint64_go (slices_choosePivotOrdered_uint64_in ?_)
  refine sub64 (by omega) (by omega) ?_
  rw [csub (by omega)]
  refine alc_of (z := .int .i64 0) (by kernel_rfl) ?_
  intro w1 hb1 b1 s1
  have hd1 := hd.below b1
  have hgl := hd.lt
  have hb1 : blk w1 w.heap.size I64 [.int .i64 0] := hb1
  obtain ⟨l, hl⟩ : ∃ l, b - a = l := ⟨_, rfl⟩
  rw [hl]
  obtain ⟨q, hq⟩ : ∃ q, l / 4 = q := ⟨_, rfl⟩
  have hq' : ((l : Nat) : Int) / 4 = (q : Nat) := by omega
  have st : ∀ {K' : KV} {t : TypeId} {cx cy : Bool}, K' (.int .i64 (q : Nat)) w1 → bin Try.prog .quo t cx cy (.int .i64 (l : Nat)) (.int .i64 4) K' w1 := by
    intro K' t cx cy hK
    refine quo64 (by omega) (by omega) (by omega) ?_
    rw [hq']; exact hK
  refine st ?_
  refine mul64 (by omega) (by omega) ?_
  rw [show ((q : Nat) : Int) * 1 = ((q * 1 : Nat) : Int) by omega]
  refine add64 (by omega) (by omega) ?_
  rw [cadd]
  refine st ?_
  refine mul64 (by omega) (by omega) ?_
  rw [show ((q : Nat) : Int) * 2 = ((q * 2 : Nat) : Int) by omega]
  refine add64 (by omega) (by omega) ?_
  rw [cadd]
  refine st ?_
  refine mul64 (by omega) (by omega) ?_
  rw [show ((q : Nat) : Int) * 3 = ((q * 3 : Nat) : Int) by omega]
  refine add64 (by omega) (by omega) ?_
  rw [cadd]
  refine slices_choosePivotOrdered_uint64_A1_r ?_
  refine bin_geq ?_
  refine slices_choosePivotOrdered_uint64_A2_r ?_
  refine cond_t (by omega) ?_
  refine bin_geq ?_
  refine slices_choosePivotOrdered_uint64_A3_r ?_
  have go : ∀ {w2 : World} {s2 : Int} (x y z : Nat) {data0 a1 b2 data3 a4 b5 pivot6 hint7 l8 swaps9 i10 j11 k_12 t13 t14 t15 t16 t17 t18 t19 t20 t21 t22 t23 t24 t25 t26 t27 t28 t29 t30 t31 t32 t33 t34 t35 t36 t37 t38 t39 t40 t41 t42 t43 t44 t45 t46 t47 t48 t49 t50 t51 t52 t53 t54 t55 t56 : Value}, a ≤ x ∧ x < b → a ≤ y ∧ y < b → a ≤ z ∧ z < b → SD w2 g n c xs → blk w2 w.heap.size I64 [.int .i64 s2] → Ots g w w2 →
      data0 = .slice (some ⟨g, 0, none⟩) n c → i10 = .int .i64 (x : Nat) → j11 = .int .i64 (y : Nat) → k_12 = .int .i64 (z : Nat) → swaps9 = .pointer (some ⟨w.heap.size, 0, none⟩) → slices_choosePivotOrdered_uint64_P2 K ((data0 :: a1 :: b2 :: data3 :: a4 :: b5 :: pivot6 :: hint7 :: l8 :: swaps9 :: i10 :: j11 :: k_12 :: t13 :: t14 :: t15 :: t16 :: t17 :: t18 :: t19 :: t20 :: t21 :: t22 :: t23 :: t24 :: t25 :: t26 :: t27 :: t28 :: t29 :: t30 :: t31 :: t32 :: t33 :: t34 :: t35 :: t36 :: t37 :: t38 :: t39 :: t40 :: t41 :: t42 :: t43 :: t44 :: t45 :: t46 :: t47 :: t48 :: t49 :: t50 :: t51 :: t52 :: t53 :: t54 :: t55 :: t56 :: [])) w2 := by
    intro w2 s2 x y z
    intros
    rename_i hx hy hz d2 p2 t2 e0 e10 e11 e12 e9
    subst e0 e10 e11 e12 e9
    refine slices_choosePivotOrdered_uint64_P2_r ?_
    refine median_c d2 p2 (by omega) (by omega) (by omega) (by omega) ?_
    intro w3 v s3 hv d3 p3 o3
    have t3 := t2.new o3 (Nat.le_refl _)
    refine slices_choosePivotOrdered_uint64_P1_r ?_
    refine ld1 (v := .int .i64 s3) (fun _ => by kernel_rfl) p3 rfl ?_
    refine bin_eql ?_
    refine cond_p (fun _ => h _ v _ (by omega) (by omega) d3 t3) (fun _ => ?_)
    refine bin_eql ?_
    exact cond_p (fun _ => h _ v _ (by omega) (by omega) d3 t3) (fun _ => h _ v _ (by omega) (by omega) d3 t3)
  by_cases h50 : 50 ≤ l
  · refine cond_t (by omega) ?_
    refine madj_c hd1 hb1 (by omega) (by omega) (by omega) hn ?_
    intro w2 x s2 hx1 hx2 d2 p2 o2
    refine madj_c d2 p2 (by omega) (by omega) (by omega) hn ?_
    intro w3 y s3 hy1 hy2 d3 p3 o3
    refine madj_c d3 p3 (by omega) (by omega) (by omega) hn ?_
    intro w4 z s4 hz1 hz2 d4 p4 o4
    exact go x y z (by omega) (by omega) (by omega) d4 p4 ((((Ots.of_below b1).new o2 (Nat.le_refl _)).new o3 (Nat.le_refl _)).new o4 (Nat.le_refl _)) rfl rfl rfl rfl rfl
  · refine cond_f (by omega) ?_
    exact go _ _ _ (by omega) (by omega) (by omega) hd1 hb1 (Ots.of_below b1) rfl rfl rfl rfl rfl
end
end Go.Proofs.Ytcieejlkdfdpiaa
