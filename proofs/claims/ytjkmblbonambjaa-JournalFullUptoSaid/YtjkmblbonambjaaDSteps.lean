/- Steps of a disk as the law is handed them; whether there are few; what a step does. -/
import Derived.Test.YtjkmblbonambjaaSDKeeps
import Derived.Test.YtjkmblbonambjaaDLaw
import Derived.Test.YtjkmblbonambjaaDFrame
import Derived.Test.YtjkmblbonambjaaBulk
import Derived.Test.YtjkmblbonambjaaMem2
import Derived.Deep.Slices
namespace Go.Proofs.Ytjkmblbonambjaa
set_option maxRecDepth 100000
open Go.ChangeShapes Go.WideShapes Go.ChangeAt Go.RowKit Go.Deep

structure Stp where
  d : Int
  f : Int
  n : Int
  b : List UInt8
  picks : List Int
deriving Inhabited

def i64ok (x : Int) : Prop := -9223372036854775808 ≤ x ∧ x ≤ 9223372036854775807

/-- The cells of a step. -/
def STC (w : World) (cs : List Value) (s : Stp) : Prop :=
  ∃ v pv : Option Addr × Nat × Nat, cs = [.int .i64 s.d, .int .i64 s.f, .int .i64 s.n, slv v, slv pv] ∧ RB w v.1 v.2.1 v.2.2 s.b ∧ RI w pv.1 pv.2.1 pv.2.2 s.picks ∧ i64ok s.d ∧ i64ok s.f ∧ i64ok s.n ∧ s.b.length ≤ 1048576 ∧ s.picks.length ≤ 1048576

/-- A slice of steps. -/
def RST (w : World) (a : Option Addr) (n c : Nat) (L : List Stp) : Prop :=
  L.length = n ∧ n ≤ c ∧ ∀ (i : Nat) (s : Stp), L[i]? = some s → ∃ b o cs, a = some ⟨b, o, none⟩ ∧ STC w cs s ∧ ∀ (j : Nat) (u : Value), cs[j]? = some u → w.cell? ⟨b, o + i * 5 + j, none⟩ = some u

theorem STC.below {w w' : World} {B : Nat} {cs : List Value} {s : Stp} (h : STC w cs s) (hb : Below B w w') (hB : w.heap.size ≤ B) : STC w' cs s := by
  obtain ⟨v, pv, e, h1, h2, r⟩ := h
  exact ⟨v, pv, e, h1.below hb hB, h2.below hb hB, r⟩
theorem RST.below {w w' : World} {B : Nat} {a : Option Addr} {n c : Nat} {L : List Stp} (h : RST w a n c L) (hb : Below B w w') (hB : w.heap.size ≤ B) : RST w' a n c L :=
  ⟨h.1, h.2.1, fun i s hs => by
    obtain ⟨b, o, cs, e, h1, h2⟩ := h.2.2 i s hs
    refine ⟨b, o, cs, e, h1.below hb hB, fun j u hu => ?_⟩
    have := h2 j u hu
    have hlt := World.block_lt_of_cell? w _ this
    rw [hb.cell (p := ⟨b, o + i * 5 + j, none⟩) (Nat.lt_of_lt_of_le hlt hB)]; exact this⟩

section
variable {H : Type} {enc : TypeId × Value → H} {W : World} {base : Nat} {held : Bool}

theorem rb_of_trod1 {fuel : Nat} {v : Value} {x : DataW H × List MemPlace} (hf : DataW.trod enc Try.prog W base (fun _ => true) held fuel 29 [v] = some x) :
    ∃ u l, v = slv u ∧ RB W u.1 u.2.1 u.2.2 l ∧ l.length + 1 ≤ Rows.uptoBulk x.1 := by
  rcases open_ints Try.underlying29 Try.underlying5 (by kernel_rfl) hf with ⟨hcs, hx⟩ | ⟨ad, l, c, zs, hcs, _, hl, hm, hz, hx, hcell, hwz⟩
  · simp only [List.cons.injEq, and_true] at hcs
    refine ⟨(none, 0, 0), [], hcs, RV.nil W, ?_⟩
    rw [hx]; simp [Rows.uptoBulk]
  · simp only [List.cons.injEq, and_true] at hcs
    refine ⟨(some ad, l, c), _, hcs, rb_of_nums hl (by simpa using hz) hcell hwz, ?_⟩
    rw [hx]
    have := bulks.slice_le (H := H) (lits .u8 (zs.take l)) (lits .u8 (zs.drop l))
    simp only [lits, List.length_map, List.length_take, List.length_drop] at this ⊢
    simp only [if_true] at hz
    omega
theorem ri_of_trod1 {fuel : Nat} {v : Value} {x : DataW H × List MemPlace} (hf : DataW.trod enc Try.prog W base (fun _ => true) held fuel 30 [v] = some x) :
    ∃ u l, v = slv u ∧ RI W u.1 u.2.1 u.2.2 l ∧ l.length + 1 ≤ Rows.uptoBulk x.1 := by
  rcases open_ints Try.underlying30 Try.underlying3 (by kernel_rfl) hf with ⟨hcs, hx⟩ | ⟨ad, l, c, zs, hcs, _, hl, hm, hz, hx, hcell, hwz⟩
  · simp only [List.cons.injEq, and_true] at hcs
    refine ⟨(none, 0, 0), [], hcs, RV.nil W, ?_⟩
    rw [hx]; simp [Rows.uptoBulk]
  · simp only [List.cons.injEq, and_true] at hcs
    refine ⟨(some ad, l, c), _, hcs, ri_of_nums hl (by simpa using hz) hcell, ?_⟩
    rw [hx]
    have := bulks.slice_le (H := H) (lits .i64 (zs.take l)) (lits .i64 (zs.drop l))
    simp only [lits, List.length_map, List.length_take, List.length_drop] at this ⊢
    simp only [if_true] at hz
    omega

theorem open_step {fuel : Nat} {cs : List Value} {x : DataW H × List MemPlace} (h : DataW.trod enc Try.prog W base (fun _ => true) held fuel 32 cs = some x) (hb : Rows.uptoBulk x.1 ≤ 1048576) : ∃ s, STC W cs s := by
  obtain ⟨xs, n, rfl, rfl, hlen, hxl, hf⟩ := DataW.trod_struct Try.underlying32 h
  have h5 : cs.length = 5 := by rw [hlen]; kernel_rfl
  match cs, h5 with
  | [c0, c1, c2, c3, c4], _ =>
    have hx5 : xs.length = 5 := hxl
    match xs, hx5 with
    | [x0, x1, x2, x3, x4], _ =>
      have h0 : DataW.trod enc Try.prog W base (fun _ => true) held n 3 [c0] = some x0 := Eq.mp (by kernel_rfl) (hf 0 _ rfl)
      have h1 : DataW.trod enc Try.prog W base (fun _ => true) held n 3 [c1] = some x1 := Eq.mp (by kernel_rfl) (hf 1 _ rfl)
      have h2 : DataW.trod enc Try.prog W base (fun _ => true) held n 3 [c2] = some x2 := Eq.mp (by kernel_rfl) (hf 2 _ rfl)
      have h3 : DataW.trod enc Try.prog W base (fun _ => true) held n 29 [c3] = some x3 := Eq.mp (by kernel_rfl) (hf 3 _ rfl)
      have h4 : DataW.trod enc Try.prog W base (fun _ => true) held n 30 [c4] = some x4 := Eq.mp (by kernel_rfl) (hf 4 _ rfl)
      obtain ⟨z0, e0, _, w0⟩ := DataW.trod_int Try.underlying3 h0
      obtain ⟨z1, e1, _, w1⟩ := DataW.trod_int Try.underlying3 h1
      obtain ⟨z2, e2, _, w2⟩ := DataW.trod_int Try.underlying3 h2
      obtain ⟨u3, l3, e3, r3, b3⟩ := rb_of_trod1 h3
      obtain ⟨u4, l4, e4, r4, b4⟩ := ri_of_trod1 h4
      simp only [List.cons.injEq, and_true] at e0 e1 e2
      subst e0 e1 e2 e3 e4
      simp only [List.map_cons, List.map_nil, Rows.uptoBulk, Rows.uptoBulkAll] at hb
      have ok : ∀ z, (Lit.int .i64 z).wf = true → i64ok z := fun z hz => by simpa [i64ok, Lit.wf, IntKind.min, IntKind.max, IntKind.signed, IntKind.bits] using hz
      exact ⟨⟨z0, z1, z2, l3, l4⟩, u3, u4, rfl, r3, r4, ok _ w0, ok _ w1, ok _ w2, by show l3.length ≤ _; omega, by show l4.length ≤ _; omega⟩

theorem rst_of_trodU {fuel : Nat} {cs : List Value} {a : Option Addr} {n c : Nat} {d : DataW H} {p : List MemPlace} (hc : cs = [.slice a n c])
    (hf : DataW.trod enc Try.prog W base (fun _ => true) held fuel 22 cs = some (d, p)) (hb : Rows.uptoBulk d ≤ 1048576) : (∃ L, RST W a n c L) ∧ n ≤ c ∧ c ≤ 9223372036854775807 := by
  rcases open_slice Try.underlying22 hf with ⟨hcs, _⟩ | ⟨ad, len, cap, m, k, D, Pl, hcs, hb0, hl, hm, hmm, hx, hall⟩
  · rw [hc] at hcs
    simp only [List.cons.injEq, Value.slice.injEq, and_true] at hcs
    obtain ⟨rfl, rfl, rfl⟩ := hcs
    exact ⟨⟨[], rfl, Nat.le_refl _, fun i s h => by simp at h⟩, by omega, by omega⟩
  · rw [hc] at hcs
    simp only [List.cons.injEq, Value.slice.injEq, and_true] at hcs
    obtain ⟨rfl, rfl, rfl⟩ := hcs
    simp only [if_true] at hmm
    subst hmm
    refine ⟨?_, hl, by simpa [maxLen] using hm⟩
    simp only [Prod.mk.injEq] at hx
    have hD : ∀ i, i < n → Rows.uptoBulk (D i) ≤ 1048576 := by
      intro i hi
      have h1 := bulks.part_le (H := H) (d := D i) (l := (List.range n).map D) (List.mem_map.2 ⟨i, List.mem_range.2 hi, rfl⟩)
      have h2 := bulks.slice_elems (H := H) ((List.range n).map D) ((List.range (m - n)).map fun j => D (n + j))
      rw [hx.1] at hb
      omega
    have h5 : Try.prog.cellsOf 32 = 5 := by kernel_rfl
    have each : ∀ i, i < n → ∃ q : List Value × Stp, STC W q.1 q.2 ∧ q.1.length = 5 ∧ ∀ j u, q.1[j]? = some u → W.cell? ((ad.add (i * 5)).add j) = some u := by
      intro i hi
      obtain ⟨cs', hcl, htr⟩ := hall i (by omega)
      rw [h5] at hcl
      obtain ⟨_, hlen, hcell⟩ := World.cells?_some hcl
      obtain ⟨s, hs⟩ := open_step htr (hD i hi)
      refine ⟨(cs', s), hs, hlen, fun j u hu => ?_⟩
      have hj := (List.getElem?_eq_some_iff.1 hu).1
      have hj : j < cs'.length := hj
      rw [hcell j (by omega)]; exact hu
    obtain ⟨Q, hQ⟩ := choose_lt each
    refine ⟨(List.range n).map fun i => (Q i).2, by simp, hl, fun i s hs => ?_⟩
    have hi : i < n := by have := (List.getElem?_eq_some_iff.1 hs).1; simpa using this
    simp only [List.getElem?_map, List.getElem?_range hi, Option.map_some, Option.some.injEq] at hs
    subst hs
    obtain ⟨q1, q2, q3⟩ := hQ i hi
    have hsp : ad.spot = none := by
      obtain ⟨q1', _, q3'⟩ := hQ 0 (by omega)
      obtain ⟨v, pv, e, _⟩ := q1'
      have := World.cell?_spot (q3' 0 _ (by rw [e]; rfl))
      exact this
    obtain ⟨b, o, sp⟩ := ad
    cases hsp
    refine ⟨b, o, (Q i).1, rfl, q1, fun j u hu => ?_⟩
    have := q3 j u hu
    rw [add_p, add_p] at this
    exact this
end

section
attribute [local irreducible] bin un conv call callV blt slc fldA fld idxA idx lkp mUpd mEnt eSt rng nxt ent ext alc box bld bldS ld sto nilC mkMap mkS ifc pick rdy wts gsel sti cond retM Gives cCode cGrp cSeq cOp
/-- How many bytes and numbers the first j steps hold. -/
def cum (L : List Stp) (j : Nat) : Nat := ((L.map fun s => s.b.length + s.picks.length).take j).sum
theorem cum_zero (L : List Stp) : cum L 0 = 0 := by simp [cum]
def fewS (L : List Stp) : Bool := decide (L.length ≤ 60) && decide (cum L L.length ≤ 8192)

theorem idxSt {w : World} {K : KV} {a : Option Addr} {n c : Nat} {L : List Stp} {i : Nat} {k : IntKind} (hr : RST w a n c L) (hi : i < n)
    (h : ∀ b o cs s, L[i]? = some s → STC w cs s → (∀ (j : Nat) (u : Value), cs[j]? = some u → w.cell? ⟨b, o + i * 5 + j, none⟩ = some u) → K (.pointer (some ⟨b, o + i * 5, none⟩)) w) :
    idxA Try.prog 22 (.slice a n c) (.int k (i : Nat)) K w := by
  have hl : i < L.length := by rw [hr.1]; exact hi
  obtain ⟨b, o, cs, rfl, h1, h2⟩ := hr.2.2 i L[i] (List.getElem?_eq_getElem hl)
  refine idxRow (s := 5) Try.underlying22 (fun _ => by kernel_rfl) (by omega) (by omega) ?_
  exact h b o cs L[i] (List.getElem?_eq_getElem hl) h1 h2

theorem fA_Step_0 {w : World} {K : KV} {b o : Nat} (h : K (.pointer (some ⟨b, o + 0, none⟩)) w) : fldA Try.prog 32 (.pointer (some ⟨b, o, none⟩)) 0 K w := fldA_of (by kernel_rfl) h
theorem fA_Step_1 {w : World} {K : KV} {b o : Nat} (h : K (.pointer (some ⟨b, o + 1, none⟩)) w) : fldA Try.prog 32 (.pointer (some ⟨b, o, none⟩)) 1 K w := fldA_of (by kernel_rfl) h
theorem fA_Step_2 {w : World} {K : KV} {b o : Nat} (h : K (.pointer (some ⟨b, o + 2, none⟩)) w) : fldA Try.prog 32 (.pointer (some ⟨b, o, none⟩)) 2 K w := fldA_of (by kernel_rfl) h
theorem fA_Step_3 {w : World} {K : KV} {b o : Nat} (h : K (.pointer (some ⟨b, o + 3, none⟩)) w) : fldA Try.prog 32 (.pointer (some ⟨b, o, none⟩)) 3 K w := fldA_of (by kernel_rfl) h
theorem fA_Step_4 {w : World} {K : KV} {b o : Nat} (h : K (.pointer (some ⟨b, o + 4, none⟩)) w) : fldA Try.prog 32 (.pointer (some ⟨b, o, none⟩)) 4 K w := fldA_of (by kernel_rfl) h
theorem lenSt {w : World} {K : KV} {ty : TypeId} {cs : Array Bool} {av : Option Addr} {n c : Nat} (h : K (.int .i64 (n : Int)) w) : blt Try.prog .len #[22] ty cs #[.slice av n c] K w := len_slc Try.underlying22 h
theorem lenIn {w : World} {K : KV} {ty : TypeId} {cs : Array Bool} {av : Option Addr} {n c : Nat} (h : K (.int .i64 (n : Int)) w) : blt Try.prog .len #[30] ty cs #[.slice av n c] K w := len_slc Try.underlying30 h
theorem ldC8 {w : World} {K : KV} {ad : Addr} {v : Value} (hc : w.cell? ad = some v) (h : K v w) : ld Try.prog 29 (.pointer (some ad)) K w := ld_cell (fun _ => by kernel_rfl) hc h
theorem ldCI {w : World} {K : KV} {ad : Addr} {v : Value} (hc : w.cell? ad = some v) (h : K v w) : ld Try.prog 30 (.pointer (some ad)) K w := ld_cell (fun _ => by kernel_rfl) hc h

theorem sum_snoc (L : List Nat) (j x : Nat) (h : L[j]? = some x) : (L.take (j + 1)).sum = (L.take j).sum + x := by
  have hl := (List.getElem?_eq_some_iff.1 h)
  rw [List.take_succ_eq_append_getElem hl.1, List.sum_append]
  simp [hl.2]
theorem sum_le (L : List Nat) (m : Nat) (h : ∀ x ∈ L, x ≤ m) : L.sum ≤ L.length * m := by
  induction L with
  | nil => simp
  | cons x L ih =>
    have h1 := h x (List.mem_cons_self ..)
    have h2 := ih fun y hy => h y (List.mem_cons_of_mem _ hy)
    simp only [List.sum_cons, List.length_cons, Nat.add_mul, Nat.one_mul]; omega

theorem few_c {w : World} {K : KV} {a : Option Addr} {n c : Nat} {L : List Stp} (hr : RST w a n c L) (hn : n ≤ 9223372036854775807) (h : ∀ w', Below w.heap.size w w' → K (.bool (fewS L)) w') :
    call Try.prog 9 #[.slice a n c] K w := by
  have hl := hr.1
  refine call_of leatlaw04_Few_go (leatlaw04_Few_in ?_)
  by_cases h60 : 60 < n
  · rw [show fewS L = false by unfold fewS; rw [decide_eq_false (by omega)]; rfl] at h
    (repeat (first | refine lenSt ?_ | refine bin_gtr ?_ | refine cond_t (by omega) ?_))
    exact h w (Below.refl _ _)
  (repeat (first | refine lenSt ?_ | refine bin_gtr ?_ | refine cond_f (by omega) ?_))
  have hlen : ∀ s ∈ L, s.b.length + s.picks.length ≤ 2097152 := by
    intro s hs
    obtain ⟨i, hi, rfl⟩ := List.getElem_of_mem hs
    obtain ⟨b, o, cs, _, ⟨v, pv, _, _, _, _, _, _, h1, h2⟩, _⟩ := hr.2.2 i _ (List.getElem?_eq_getElem hi)
    omega
  have htot : ∀ j, cum L j ≤ 125829120 := by
    intro j
    unfold cum
    have h1 := sum_le ((L.map fun s => s.b.length + s.picks.length).take j) 2097152 (fun x hx => by
      obtain ⟨s, hs, rfl⟩ := List.mem_map.1 (List.mem_of_mem_take hx)
      exact hlen s hs)
    have h2 : ((L.map fun s => s.b.length + s.picks.length).take j).length ≤ 60 := by simp; omega
    have h3 := Nat.mul_le_mul_right 2097152 h2
    omega
  refine leatlaw04_Few_L1_r (Inv := fun x i wr => ∃ j : Nat, j ≤ n ∧ i = .int .i64 (j : Nat) ∧ x = .int .i64 (cum L j : Nat) ∧ Below w.heap.size w wr)
    (μ := fun _ i _ => n - (intOf i).toNat) ⟨0, by omega, rfl, by rw [cum_zero]; rfl, Below.refl _ _⟩ ?_
  rintro _ _ _ w2 m ⟨j, hj, rfl, rfl, hb2⟩ hm
  by_cases hjn : j < n
  · (repeat (first | refine lenSt ?_ | refine bin_lss ?_ | refine cond_t (by omega) ?_))
    have hr2 := (hr.below hb2 (Nat.le_refl _)).below (hb2.drew |> fun _ => (Below.refl w2.heap.size w2).drew) (Nat.le_refl _)
    obtain ⟨b, o, cs, e, ⟨v, pv, ecs, r1, r2, k1, k2, k3, k4, k5⟩, hcell⟩ := hr2.2.2 j _ (List.getElem?_eq_getElem (by omega))
    subst ecs
    have hv := r1.len
    have hpv := r2.len
    have hs := htot (j + 1)
    have hsn : cum L (j + 1) = cum L j + _ := sum_snoc (L.map fun s => s.b.length + s.picks.length) j (L[j].b.length + L[j].picks.length) (by rw [List.getElem?_map, List.getElem?_eq_getElem (by omega)]; rfl)
    have hidx : ∀ K : KV, K (.pointer (some ⟨b, o + j * 5, none⟩)) w2.drew → idxA Try.prog 22 (.slice a n c) (.int .i64 (j : Nat)) K w2.drew := by
      intro K hK
      subst e
      exact idxRow (s := 5) Try.underlying22 (fun _ => by kernel_rfl) (by omega) (by omega) hK
    refine sti_of (fun K hK => hidx K hK) ?_
    refine sti_of (fun K hK => fA_Step_3 hK) ?_
    refine sti_of (fun K hK => ldC8 (hcell 3 _ rfl) hK) ?_
    (repeat (first | refine sti_of (fun _ hK => add64 (by omega) (by omega) hK) ?_ | refine sti_of (fun _ hK => len8 hK) ?_))
    refine sti_of (fun K hK => hidx K hK) ?_
    refine sti_of (fun K hK => fA_Step_4 hK) ?_
    refine sti_of (fun K hK => ldCI (hcell 4 _ rfl) hK) ?_
    refine sti_of (fun K hK => lenIn hK) ?_
    (repeat (first | refine add64 (by omega) (by omega) ?_ | refine sti_of (fun _ hK => add64 (by omega) (by omega) hK) ?_))
    refine ⟨⟨j + 1, by omega, by simp, ?_, hb2.drew⟩, by rw [hm]; simp only [intOf]; omega⟩
    rw [hsn]
    congr 1
    omega
  · have : j = n := by omega
    subst this
    (repeat (first | refine lenSt ?_ | refine leatlaw04_Few_P1_r ?_ | refine bin_lss ?_ | refine bin_leq ?_ | refine cond_f (by omega) ?_))
    have e : fewS L = decide ((cum L j : Nat) ≤ (8192 : Int)) := by
      unfold fewS
      rw [decide_eq_true (by omega), Bool.true_and, hl]
      exact decide_eq_decide.2 (by omega)
    rw [← e]
    exact h w2 hb2
end
end Go.Proofs.Ytjkmblbonambjaa
