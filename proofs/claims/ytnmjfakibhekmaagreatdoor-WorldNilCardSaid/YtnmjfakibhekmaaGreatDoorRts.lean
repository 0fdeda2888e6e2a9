/- What a region may still take, of numbers that stand in memory (rights.sum, rights.local). -/
import Derived.Test.YtnmjfakibhekmaaGreatDoorOwn
import Derived.Test.YtnmjfakibhekmaaGreatDoorSRts
import Derived.Test.YtnmjfakibhekmaaGreatDoorTypes
namespace Go.Proofs.YtnmjfakibhekmaaGreatDoor
set_option maxRecDepth 100000
open Go.RowKit

def iv (x : Int) : Value := .int .i64 x
abbrev MXA : Int := 1125899906842624
def okA (x : Int) : Bool := decide (0 ≤ x) && decide (x ≤ MXA)
/-- A sum, of numbers that may be. -/
def sumS (l : List Int) : Int × Bool := match l.all okA with | true => (l.sum, true) | false => (0, false)
def nA (A : List Int) (i : Nat) : Int := A.getD i 0
def outL (A : List Int) (k j : Nat) : List Int := nA A (6 + k) :: (List.range j).map fun j => nA A (18 + 6 * k + j)
def inL (A : List Int) (k j : Nat) : List Int := nA A k :: nA A (12 + k) :: (List.range j).map fun j => nA A (18 + 6 * j + k)
def locS (A : List Int) (k : Nat) : Int × Bool := ((sumS (inL A k 6)).1 - (sumS (outL A k 6)).1, (sumS (outL A k 6)).2 && (sumS (inL A k 6)).2)
theorem okA_iff {x : Int} : okA x = true ↔ 0 ≤ x ∧ x ≤ MXA := by simp [okA]
theorem sum_bounds : ∀ {l : List Int}, l.all okA = true → 0 ≤ l.sum ∧ l.sum ≤ MXA * l.length
  | [], _ => by simp
  | x :: l, h => by
    rw [List.all_cons, Bool.and_eq_true] at h
    have h1 := okA_iff.1 h.1
    have h2 := sum_bounds h.2
    simp only [List.sum_cons, List.length_cons]
    simp only [MXA] at *
    omega
attribute [local irreducible] bin un conv call callV blt slc fldA fld idxA idx lkp mUpd mEnt eSt rng nxt ent ext alc box bld bldS ld sto nilC mkMap mkS ifc pick rdy wts gsel sti cond retM Gives cCode cGrp cSeq cOp
section
variable {w : World} {K : KV}
theorem rsum_c {a : Option Addr} {n c : Nat} {l : List Int} (hr : RV w a n c (l.map iv)) (hn : n ≤ 1000) (h : K (.tuple #[iv (sumS l).1, .bool (sumS l).2]) w) : call Tryz.prog 247 #[.slice a n c] K w := by
  have hl : l.length = n := by simpa using hr.len
  refine call_of rights_sum_go (rights_sum_in ?_)
  refine len_slc Tryz.underlying391 ?_
  refine rights_sum_L1_r (Inv := fun s i _ _ wr => ∃ j : Nat, s = iv (l.take j).sum ∧ i = .int .i64 (j : Nat) ∧ j ≤ n ∧ wr = w ∧ (l.take j).all okA = true) (μ := fun _ i _ _ _ => n - (intOf i).toNat) ⟨0, by simp [iv], rfl, by omega, rfl, by simp⟩ ?_
  rintro _ _ _ _ dd _ m ⟨j, rfl, rfl, hj, rfl, hall⟩ hm
  by_cases hjn : j < n
  · (repeat (first | refine bin_lss ?_ | refine cond_t (by omega) ?_))
    have hv : (l.map iv)[j]? = some (iv (nA l j)) := by
      simp [nA, List.getD, List.getElem?_eq_getElem (show j < l.length by omega)]
    refine idx_slc Tryz.underlying391 (fun _ => by kernel_rfl) (by omega) (by omega) hr.some_ ?_
    rw [Int.toNat_natCast]
    refine ld_cell (fun _ => by kernel_rfl) (hr.cell _ _ hv) ?_
    have hx : nA l j = l[j] := by simp [nA, List.getD, show j < l.length by omega]
    have hall' : l.all okA = true → okA (nA l j) = true := fun h => by rw [hx]; exact List.all_eq_true.1 h _ (List.getElem_mem _)
    have bad : okA (nA l j) = false → sumS l = (0, false) := fun hb => by
      unfold sumS
      cases hq : l.all okA with
      | false => rfl
      | true => rw [hall' hq] at hb; cases hb
    have ht : l.take (j + 1) = l.take j ++ [nA l j] := by rw [hx, List.take_append_getElem (by omega)]
    unfold iv
    refine bin_lss ?_
    by_cases h0 : nA l j < 0
    · refine gsel_nt h0 ?_
      refine pick_t h0 ?_
      refine cond_T ?_
      have : okA (nA l j) = false := by
        cases hq : okA (nA l j) with
        | false => rfl
        | true => have := okA_iff.1 hq; omega
      rw [bad this] at h
      exact h
    · refine gsel_nf h0 ?_
      refine bin_gtr ?_
      refine pick_f h0 ?_
      by_cases h1 : nA l j > 1125899906842624
      · refine cond_t h1 ?_
        have : okA (nA l j) = false := by
          cases hq : okA (nA l j) with
          | false => rfl
          | true => have := okA_iff.1 hq; simp only [MXA] at this; omega
        rw [bad this] at h
        exact h
      · refine cond_f h1 ?_
        have hok : okA (nA l j) = true := okA_iff.2 ⟨by omega, by simp only [MXA]; omega⟩
        have hsb := sum_bounds hall
        have hlen : (l.take j).length = j := by rw [List.length_take]; omega
        rw [hlen] at hsb
        simp only [MXA] at hsb
        refine add64 (by omega) (by omega) ?_
        refine add64 (by omega) (by omega) ?_
        refine ⟨⟨j + 1, ?_, by simp, by omega, rfl, ?_⟩, ?_⟩
        · rw [ht]; simp [iv]
        · rw [ht, List.all_append, hall]; simp [hok]
        · rw [hm]; simp [intOf]; omega
  · obtain rfl : j = n := by omega
    (repeat (first | refine rights_sum_P1_r ?_ | refine bin_lss ?_ | refine cond_f (by omega) ?_))
    rw [List.take_of_length_le (by omega)] at hall ⊢
    unfold sumS at h
    rw [hall] at h
    exact h
/-! ## Rows of numbers of the call's own. -/
abbrev OI (w : World) (B p n c : Nat) (l : List Int) : Prop := OV w B 2 (some ⟨p, 0, none⟩) n c (l.map iv)
theorem OI.lt {B p n c : Nat} {l : List Int} (h : OI w B p n c l) : B ≤ p ∧ p < w.heap.size := OV.block h p rfl
theorem OI.keep {w' : World} {B p n c : Nat} {l : List Int} (h : OI w B p n c l) (hk : w'.heap[p]? = w.heap[p]?) : OI w' B p n c l := ownS h fun k e => by cases e; exact hk
theorem bl1 {x : Int} (h : ∀ w', blk w' w.heap.size 2 [iv x] → Below w.heap.size w w' → w'.heap.size = w.heap.size + 1 → K (.slice (some ⟨w.heap.size, 0, none⟩) 1 1) w') : bldS Tryz.prog 391 1 #[(0, iv x)] K w :=
  bldSG (vs := [iv x]) Tryz.underlying391 (s := 1) (by kernel_rfl) (by kernel_rfl) (by omega) rfl (by simp) (by simp) (by simp) (by simp [Value.cells, iv]) fun w' hb b s => h w' (by simpa [iv, Value.cells] using hb) b s
theorem bl2 {x y : Int} (h : ∀ w', blk w' w.heap.size 2 [iv x, iv y] → Below w.heap.size w w' → w'.heap.size = w.heap.size + 1 → K (.slice (some ⟨w.heap.size, 0, none⟩) 2 2) w') : bldS Tryz.prog 391 2 #[(0, iv x), (1, iv y)] K w :=
  bldSG (vs := [iv x, iv y]) Tryz.underlying391 (s := 1) (by kernel_rfl) (by kernel_rfl) (by omega) rfl (by simp) (by simp) (by simp) (by simp [Value.cells, iv]) fun w' hb b s => h w' (by simpa [iv, Value.cells] using hb) b s
theorem info_i64 : (Tryz.prog.info? 2).map (fun i => (i.zero, i.size, i.bytes)) = some (some (.int .i64 0), 1, 8) := by kernel_rfl
theorem ap1 {cs : Array Bool} {ty : TypeId} {B p n c g : Nat} {l : List Int} {x : Int} (ho : OI w B p n c l) (hg : blk w g 2 [iv x]) (hB : B ≤ w.heap.size) (hn : n ≤ 1000)
    (h : ∀ p' c' w', OI w' B p' (n + 1) c' (l ++ [x]) → (p' = p ∨ p' = w.heap.size) → (∀ k, k < w.heap.size → k ≠ p → w'.heap[k]? = w.heap[k]?) → Below B w w' → K (.slice (some ⟨p', 0, none⟩) (n + 1) c') w') :
    blt Tryz.prog .append #[391, 391] ty cs #[.slice (some ⟨p, 0, none⟩) n c, .slice (some ⟨g, 0, none⟩) 1 1] K w := by
  obtain ⟨i, hi, hz, hsz, hby⟩ := info_parts info_i64
  refine appA (base := B) (s := 1) (m := 1) (ys := [iv x]) Tryz.underlying391 hi hz hsz hby rfl (by omega) ho hg rfl (by simp [iv, Value.oneCell']) (by omega) (by omega) hB ?_
  intro a' c' w' ho' hgr hat
  have hb : Below B w w' := below_of_grown hgr hB (fun k hk => by cases hk; exact ho.lt.1)
  have hne : ∀ k, k < w.heap.size → k ≠ p → w'.heap[k]? = w.heap[k]? := fun k hk hkp => hgr.block k hk fun e => hkp (by cases e; rfl)
  have hq : ∀ p', a' = some ⟨p', 0, none⟩ → K (.slice a' (n + 1) c') w' := by
    rintro p' rfl
    refine h p' c' w' (by simpa [OV] using ho') ?_ hne hb
    rcases hat with e | e
    · cases e; exact .inl rfl
    · cases e; exact .inr rfl
  rcases ho'.2 with ⟨hv, hz'⟩ | ⟨g', cap, cur, hv, _⟩
  · omega
  · simp only [Value.slice.injEq] at hv
    exact hq g' hv.1
end
/-- Numbers that stand in a row. -/
structure RtA (w : World) (b o : Nat) (E : TypeId) (cs : List Value) (A : List Int) : Prop where
  bk : blk w b E cs
  cut : (cs.drop o).take 54 = A.map iv
  len : A.length = 54
theorem RtA.get {w : World} {b o i : Nat} {E : TypeId} {cs : List Value} {A : List Int} (h : RtA w b o E cs A) (hi : i < 54) : cs[o + i]? = some (iv (nA A i)) := by
  have h1 : ((cs.drop o).take 54)[i]? = (A.map iv)[i]? := by rw [h.cut]
  rw [List.getElem?_take_of_lt hi, List.getElem?_drop] at h1
  rw [h1]
  have := h.len
  simp [nA, List.getD, show i < A.length by omega]
theorem RtA.below {w w' : World} {B b o : Nat} {E : TypeId} {cs : List Value} {A : List Int} (h : RtA w b o E cs A) (hb : Below B w w') (hB : b < B) : RtA w' b o E cs A := ⟨below_blk hb h.bk hB, h.cut, h.len⟩
section
variable {w : World} {K : KV}
theorem outL_succ (A : List Int) (k j : Nat) : outL A k (j + 1) = outL A k j ++ [nA A (18 + 6 * k + j)] := by simp [outL, List.range_succ]
theorem inL_succ (A : List Int) (k j : Nat) : inL A k (j + 1) = inL A k j ++ [nA A (18 + 6 * j + k)] := by simp [inL, List.range_succ]
theorem outL_len (A : List Int) (k j : Nat) : (outL A k j).length = 1 + j := by simp [outL]; omega
theorem inL_len (A : List Int) (k j : Nat) : (inL A k j).length = 2 + j := by simp [inL]; omega
/-- Both rows, of two blocks. -/
def Two (w : World) (B p n c q m d : Nat) (l r : List Int) : Prop := p ≠ q ∧ OI w B p n c l ∧ OI w B q m d r
theorem Two.bel {w' : World} {B p n c q m d : Nat} {l r : List Int} (h : Two w B p n c q m d l r) (hb : Below w.heap.size w w') : Two w' B p n c q m d l r :=
  ⟨h.1, h.2.1.keep (hb.block _ h.2.1.lt.2), h.2.2.keep (hb.block _ h.2.2.lt.2)⟩
theorem apL {cs : Array Bool} {ty : TypeId} {B p n c q m d g : Nat} {l r : List Int} {x : Int} (h2 : Two w B p n c q m d l r) (hg : blk w g 2 [iv x]) (hB : B ≤ w.heap.size) (hn : n ≤ 1000)
    (h : ∀ p' c' w', Two w' B p' (n + 1) c' q m d (l ++ [x]) r → (∀ k, k < w.heap.size → k ≠ p → w'.heap[k]? = w.heap[k]?) → Below B w w' → K (.slice (some ⟨p', 0, none⟩) (n + 1) c') w') :
    blt Tryz.prog .append #[391, 391] ty cs #[.slice (some ⟨p, 0, none⟩) n c, .slice (some ⟨g, 0, none⟩) 1 1] K w := by
  obtain ⟨hne, hl, hr⟩ := h2
  refine ap1 hl hg hB hn fun p' c' w' ho hp hk hb => h p' c' w' ⟨?_, ho, hr.keep (hk q hr.lt.2 (Ne.symm hne))⟩ hk hb
  have := hr.lt
  rcases hp with rfl | rfl <;> omega
theorem apR {cs : Array Bool} {ty : TypeId} {B p n c q m d g : Nat} {l r : List Int} {x : Int} (h2 : Two w B p n c q m d l r) (hg : blk w g 2 [iv x]) (hB : B ≤ w.heap.size) (hn : m ≤ 1000)
    (h : ∀ q' d' w', Two w' B p n c q' (m + 1) d' l (r ++ [x]) → (∀ k, k < w.heap.size → k ≠ q → w'.heap[k]? = w.heap[k]?) → Below B w w' → K (.slice (some ⟨q', 0, none⟩) (m + 1) d') w') :
    blt Tryz.prog .append #[391, 391] ty cs #[.slice (some ⟨q, 0, none⟩) m d, .slice (some ⟨g, 0, none⟩) 1 1] K w := by
  obtain ⟨hne, hl, hr⟩ := h2
  refine ap1 hr hg hB hn fun q' d' w' ho hp hk hb => h q' d' w' ⟨?_, hl.keep (hk p hl.lt.2 hne), ho⟩ hk hb
  have := hl.lt
  rcases hp with rfl | rfl <;> omega
set_option maxHeartbeats 4000000 in
theorem local_L1_c {b o k B p q : Nat} {E : TypeId} {cs : List Value} {A : List Int} {r0 k_1 r2 k_3 t4 t5 out6 in7 j8 less9 one10 more11 two12 t13 t14 t15 t16 t17 t18 t19 t20 t21 t22 t23 t24 t25 t26 t27 t28 t29 t30 t31 t32 t33 t34 t35 t36 t37 t38 t39 t40 t41 t42 t43 t44 t45 t46 t47 t48 t49 t50 t51 t52 t53 t54 t55 t56 t57 t58 t59 t60 t61 t62 t63 t64 t65 t66 t67 t68 t69 t70 t71 t72 t73 t74 t75 : Value} (hA : RtA w b o E cs A) (hbB : b < B) (hB : B ≤ w.heap.size) (hk : k < 6) (h2 : Two w B p 1 1 q 2 2 (outL A k 0) (inL A k 0))
    (h : ∀ w', Below B w w' → K (.tuple #[iv (locS A k).1, .bool (locS A k).2]) w')
    (e0 : r0 = .pointer (some ⟨b, o, none⟩)) (e1 : k_1 = .int .i64 (k : Nat)) (e2 : out6 = .slice (some ⟨p, 0, none⟩) 1 1) (e3 : in7 = .slice (some ⟨q, 0, none⟩) 2 2) (e4 : t33 = .int .i64 0) : rights_local_L1 K ((r0 :: k_1 :: r2 :: k_3 :: t4 :: t5 :: out6 :: in7 :: j8 :: less9 :: one10 :: more11 :: two12 :: t13 :: t14 :: t15 :: t16 :: t17 :: t18 :: t19 :: t20 :: t21 :: t22 :: t23 :: t24 :: t25 :: t26 :: t27 :: t28 :: t29 :: t30 :: t31 :: t32 :: t33 :: t34 :: t35 :: t36 :: t37 :: t38 :: t39 :: t40 :: t41 :: t42 :: t43 :: t44 :: t45 :: t46 :: t47 :: t48 :: t49 :: t50 :: t51 :: t52 :: t53 :: t54 :: t55 :: t56 :: t57 :: t58 :: t59 :: t60 :: t61 :: t62 :: t63 :: t64 :: t65 :: t66 :: t67 :: t68 :: t69 :: t70 :: t71 :: t72 :: t73 :: t74 :: t75 :: [])) w := by
  subst e0 e1 e2 e3 e4
  refine rights_local_L1_r (Inv := fun a c i wr => ∃ (j p q c1 d1 : Nat), j ≤ 6 ∧ a = .slice (some ⟨p, 0, none⟩) (1 + j) c1 ∧ c = .slice (some ⟨q, 0, none⟩) (2 + j) d1 ∧ i = .int .i64 (j : Nat) ∧ Two wr B p (1 + j) c1 q (2 + j) d1 (outL A k j) (inL A k j) ∧ Below B w wr)
    (μ := fun _ _ i _ => 6 - (intOf i).toNat) ⟨0, p, q, 1, 2, by omega, rfl, rfl, rfl, h2, Below.refl _ _⟩ ?_
  rintro _ _ _ dd w1 m ⟨j, p1, q1, c1, d1, hj, rfl, rfl, rfl, ht, hb1⟩ hm
  have hA1 : RtA w1 b o E cs A := hA.below hb1 hbB
  have hB1 : B ≤ w1.heap.size := Nat.le_trans hB hb1.size
  refine bin_lss ?_
  by_cases hj6 : j < 6
  · refine cond_t (by omega) ?_
    have fin : ∀ {p2 q2 c2 d2 : Nat} {w2 : World}, Two w2 B p2 (1 + j + 1) c2 q2 (2 + j + 1) d2 (outL A k j ++ [nA A (18 + 6 * k + j)]) (inL A k j ++ [nA A (18 + 6 * j + k)]) → Below B w1 w2 →
        (∃ (j' p q c1 d1 : Nat), j' ≤ 6 ∧ Value.slice (some ⟨p2, 0, none⟩) (1 + j + 1) c2 = .slice (some ⟨p, 0, none⟩) (1 + j') c1 ∧ Value.slice (some ⟨q2, 0, none⟩) (2 + j + 1) d2 = .slice (some ⟨q, 0, none⟩) (2 + j') d1 ∧ Value.int .i64 ((j : Int) + 1) = .int .i64 (j' : Nat) ∧ Two w2 B p (1 + j') c1 q (2 + j') d1 (outL A k j') (inL A k j') ∧ Below B w w2) ∧
          6 - (intOf (.int .i64 ((j : Int) + 1))).toNat < m := by
      intro p2 q2 c2 d2 w2 ht2 hb2
      refine ⟨⟨j + 1, p2, q2, c2, d2, by omega, rfl, rfl, by simp, ?_, hb1.trans hb2⟩, by rw [hm]; simp [intOf]; omega⟩
      rw [outL_succ, inL_succ]
      exact ht2
    have sB : ∀ {wa wb : World}, B ≤ wa.heap.size → Below wa.heap.size wa wb → Below B wa wb := fun h hb => hb.mono h
    refine hReg_of (fun x => RtA x b o E cs A) ⟨hA1.bk.drew, hA1.cut, hA1.len⟩ ?_
    refine hld_of (fun x hx K hK => nilC_p hK) ?_
    refine hld_of (fun x hx K hK => fldA_of (off := 18) (by kernel_rfl) hK) ?_
    refine hld_of (fun x hx K hK => idxArr Tryz.underlying121 (s := 6) (fun _ => by kernel_rfl) (by omega) (by omega) hK) ?_
    refine hld_of (fun x hx K hK => idxArr Tryz.underlying82 (s := 1) (fun _ => by kernel_rfl) (by omega) (by omega) hK) ?_
    refine hld_of (v := iv (nA A (18 + 6 * k + j))) (fun x hx K hK => ld1 (fun _ => by kernel_rfl) hx.bk (by rw [← hx.get (i := 18 + 6 * k + j) (by omega)]; congr 1; simp; omega) hK) ?_
    refine hld_of (fun x hx K hK => nilC_p hK) ?_
    refine hld_of (fun x hx K hK => fldA_of (off := 18) (by kernel_rfl) hK) ?_
    refine hld_of (fun x hx K hK => idxArr Tryz.underlying121 (s := 6) (fun _ => by kernel_rfl) (by omega) (by omega) hK) ?_
    refine hld_of (fun x hx K hK => idxArr Tryz.underlying82 (s := 1) (fun _ => by kernel_rfl) (by omega) (by omega) hK) ?_
    refine hld_of (v := iv (nA A (18 + 6 * j + k))) (fun x hx K hK => ld1 (fun _ => by kernel_rfl) hx.bk (by rw [← hx.get (i := 18 + 6 * j + k) (by omega)]; congr 1; simp; omega) hK) ?_
    have htd : Two w1.drew B p1 (1 + j) c1 q1 (2 + j) d1 (outL A k j) (inL A k j) := ht
    have hBd : B ≤ w1.drew.heap.size := hB1
    have hAd : RtA w1.drew b o E cs A := ⟨hA1.bk.drew, hA1.cut, hA1.len⟩
    have b0 : Below B w1 w1.drew := (Below.refl B w1).drew
    generalize w1.drew = w2 at *
    refine ⟨?_, ?_⟩
    · refine bl1 fun w3 g3 b3 s3 => ?_
      have t3 := htd.bel b3
      have B3 : B ≤ w3.heap.size := by omega
      have bb3 := b0.trans (sB hBd b3)
      refine hSub_same (hAd.below (sB hBd b3) hbB) ?_
      refine ⟨?_, ?_⟩
      · refine apL t3 g3 B3 (by omega) fun p4 c4 w4 t4 k4 b4 => ?_
        refine hSub_same ((hAd.below (sB hBd b3) hbB).below b4 hbB) ?_
        refine bl1 fun w5 g5 b5 s5 => ?_
        have B4 := Nat.le_trans B3 b4.size
        refine hReg_of (fun _ => True) trivial ?_
        refine apR (t4.bel b5) g5 (by omega) (by omega) fun q6 d6 w6 t6 k6 b6 => ?_
        refine hReg_of (fun _ => True) trivial ?_
        refine add64 (by omega) (by omega) ?_
        exact fin t6 (((bb3.trans b4).trans (sB B4 b5)).trans b6)
      · refine bl1 fun w4 g4 b4 s4 => ?_
        refine hReg_of (fun _ => True) trivial ?_
        have g3' : blk w4 w2.heap.size 2 [iv (nA A (18 + 6 * k + j))] := below_blk b4 g3 (by omega)
        refine apL (t3.bel b4) g3' (by omega) (by omega) fun p5 c5 w5 t5 k5 b5 => ?_
        refine hReg_of (fun _ => True) trivial ?_
        have g4' : blk w5 w3.heap.size 2 [iv (nA A (18 + 6 * j + k))] := by
          unfold blk; rw [k5 _ (by omega) (by have := t3.2.1.lt; omega)]; exact g4
        refine apR t5 g4' (by have := b5.size; omega) (by omega) fun q6 d6 w6 t6 k6 b6 => ?_
        refine hReg_of (fun _ => True) trivial ?_
        refine add64 (by omega) (by omega) ?_
        exact fin t6 (((bb3.trans (sB B3 b4)).trans b5).trans b6)
    · refine bl1 fun w3 g3 b3 s3 => ?_
      have t3 := htd.bel b3
      have B3 : B ≤ w3.heap.size := by omega
      have bb3 := b0.trans (sB hBd b3)
      refine hSub_same (hAd.below (sB hBd b3) hbB) ?_
      refine bl1 fun w4 g4 b4 s4 => ?_
      refine hReg_of (fun _ => True) trivial ?_
      refine apL (t3.bel b4) g4 (by omega) (by omega) fun p5 c5 w5 t5 k5 b5 => ?_
      refine hReg_of (fun _ => True) trivial ?_
      have g3' : blk w5 w2.heap.size 2 [iv (nA A (18 + 6 * j + k))] := by
        unfold blk; rw [k5 _ (by omega) (by have := htd.2.1.lt; omega)]; exact below_blk b4 g3 (by omega)
      refine apR t5 g3' (by have := b5.size; omega) (by omega) fun q6 d6 w6 t6 k6 b6 => ?_
      refine hReg_of (fun _ => True) trivial ?_
      refine add64 (by omega) (by omega) ?_
      exact fin t6 (((bb3.trans (sB B3 b4)).trans b5).trans b6)
  · obtain rfl : j = 6 := by omega
    refine cond_f (by omega) ?_
    refine rights_local_P1_r ?_
    refine rsum_c ht.2.1.rv (by omega) ?_
    refine ext_a ?_
    refine ext_b ?_
    refine rsum_c ht.2.2.rv (by omega) ?_
    refine ext_a ?_
    refine ext_b ?_
    have bd : ∀ l : List Int, l.length ≤ 8 → 0 ≤ (sumS l).1 ∧ (sumS l).1 ≤ 9007199254740992 := by
      intro l hl
      unfold sumS
      cases hq : l.all okA with
      | false => simp
      | true =>
        have := sum_bounds hq
        simp only [MXA] at this
        simp only
        omega
    have h1 := bd (outL A k 6) (by rw [outL_len]; omega)
    have h3 := bd (inL A k 6) (by rw [inL_len]; omega)
    unfold iv at *
    refine sub64 (by omega) (by omega) ?_
    have hl : locS A k = ((sumS (inL A k 6)).1 - (sumS (outL A k 6)).1, (sumS (outL A k 6)).2 && (sumS (inL A k 6)).2) := rfl
    cases hq : (sumS (outL A k 6)).2 with
    | true =>
      refine gsel_T ?_
      refine pick_T ?_
      rw [hl, hq] at h
      exact h w1 hb1
    | false =>
      refine gsel_F ?_
      refine pick_F ?_
      rw [hl, hq] at h
      exact h w1 hb1
set_option maxHeartbeats 2000000 in
theorem local_c {b o k : Nat} {E : TypeId} {cs : List Value} {A : List Int} (hA : RtA w b o E cs A) (hk : k < 6) (h : ∀ w', Below w.heap.size w w' → K (.tuple #[iv (locS A k).1, .bool (locS A k).2]) w') :
    call Tryz.prog 195 #[.pointer (some ⟨b, o, none⟩), .int .i64 (k : Nat)] K w := by
  have hlt := hA.bk.lt
  refine call_of rights_local_go (rights_local_in ?_)
  refine hReg_of (fun x => RtA x b o E cs A) ⟨hA.bk.drew, hA.cut, hA.len⟩ ?_
  refine hld_of (fun x hx K hK => nilC_p hK) ?_
  refine hld_of (fun x hx K hK => fldA_of (off := 6) (by kernel_rfl) hK) ?_
  refine hld_of (fun x hx K hK => idxArr Tryz.underlying82 (s := 1) (fun _ => by kernel_rfl) (by omega) (by omega) hK) ?_
  refine hld_of (v := iv (nA A (6 + k))) (fun x hx K hK => ld1 (fun _ => by kernel_rfl) hx.bk (by rw [← hx.get (i := 6 + k) (by omega)]; congr 1; simp; omega) hK) ?_
  refine hld_of (fun x hx K hK => nilC_p hK) ?_
  refine hld_of (fun x hx K hK => fldA_of (off := 0) (by kernel_rfl) hK) ?_
  refine hld_of (fun x hx K hK => idxArr Tryz.underlying82 (s := 1) (fun _ => by kernel_rfl) (by omega) (by omega) hK) ?_
  refine hld_of (v := iv (nA A k)) (fun x hx K hK => ld1 (fun _ => by kernel_rfl) hx.bk (by rw [← hx.get (i := k) (by omega)]; congr 1; simp) hK) ?_
  refine hld_of (fun x hx K hK => nilC_p hK) ?_
  refine hld_of (fun x hx K hK => fldA_of (off := 12) (by kernel_rfl) hK) ?_
  refine hld_of (fun x hx K hK => idxArr Tryz.underlying82 (s := 1) (fun _ => by kernel_rfl) (by omega) (by omega) hK) ?_
  refine hld_of (v := iv (nA A (12 + k))) (fun x hx K hK => ld1 (fun _ => by kernel_rfl) hx.bk (by rw [← hx.get (i := 12 + k) (by omega)]; congr 1; simp; omega) hK) ?_
  have hAd : RtA w.drew b o E cs A := ⟨hA.bk.drew, hA.cut, hA.len⟩
  have b0 : Below w.heap.size w w.drew := (Below.refl _ w).drew
  have s0 : w.drew.heap.size = w.heap.size := rfl
  generalize w.drew = w2 at *
  have two : ∀ {p q : Nat} {wz : World}, p ≠ q → blk wz p 2 [iv (nA A (6 + k))] → blk wz q 2 [iv (nA A k), iv (nA A (12 + k))] → w.heap.size ≤ p → w.heap.size ≤ q → Two wz w.heap.size p 1 1 q 2 2 (outL A k 0) (inL A k 0) :=
    fun hne hp hq h1 h2 => ⟨hne, ownLit hp rfl h1 (by simp [maxLen]), ownLit hq rfl h2 (by simp [maxLen])⟩
  refine ⟨?_, ?_⟩
  · refine bl1 fun w3 g3 b3 s3 => ?_
    refine hSub_same (hAd.below b3 (by omega)) ?_
    refine bl2 fun w4 g4 b4 s4 => ?_
    refine hSub_same ((hAd.below b3 (by omega)).below b4 (by omega)) ?_
    refine local_L1_c ((hA.below b0 hlt).below (b3.trans (b4.mono (by omega))) (by omega)) hlt (by omega) hk (two (by omega) (below_blk b4 g3 (by omega)) g4 (by omega) (by omega)) (fun w' hb => h w' ?_) rfl rfl rfl rfl rfl
    exact ((b0.trans (b3.mono (by omega))).trans (b4.mono (by omega))).trans hb
  · refine bl2 fun w3 g3 b3 s3 => ?_
    refine hSub_same (hAd.below b3 (by omega)) ?_
    refine bl1 fun w4 g4 b4 s4 => ?_
    refine hReg_of (fun _ => True) trivial ?_
    refine local_L1_c ((hA.below b0 hlt).below (b3.trans (b4.mono (by omega))) (by omega)) hlt (by omega) hk (two (by omega) g4 (below_blk b4 g3 (by omega)) (by omega) (by omega)) (fun w' hb => h w' ?_) rfl rfl rfl rfl rfl
    exact ((b0.trans (b3.mono (by omega))).trans (b4.mono (by omega))).trans hb
end
end Go.Proofs.YtnmjfakibhekmaaGreatDoor
