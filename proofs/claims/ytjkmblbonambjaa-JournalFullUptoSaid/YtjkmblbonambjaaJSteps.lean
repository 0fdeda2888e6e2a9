/- Steps of a journal as the law is handed them; whether there are few. -/
import Derived.Test.YtjkmblbonambjaaSJKeeps
import Derived.Test.YtjkmblbonambjaaJLaw
import Derived.Test.YtjkmblbonambjaaRows2
import Derived.Test.YtjkmblbonambjaaDSteps
import Derived.Test.YtjkmblbonambjaaFrame2
namespace Go.Proofs.Ytjkmblbonambjaa
set_option maxRecDepth 100000
open Go.ChangeShapes Go.WideShapes Go.ChangeAt Go.RowKit Go.Deep

structure Stp5 where
  d : Int
  L : List (List UInt8)
  n : Int
  picks : List Int
deriving Inhabited

/-- The cells of a step. -/
def STC5 (w : World) (cs : List Value) (s : Stp5) : Prop :=
  ∃ (v pv : Option Addr × Nat × Nat) (vs : List (Option Addr × Nat × Nat)), cs = [.int .i64 s.d, slv v, .int .i64 s.n, slv pv] ∧ RBB w v.1 v.2.1 v.2.2 vs s.L ∧ RI w pv.1 pv.2.1 pv.2.2 s.picks ∧ i64ok s.d ∧ i64ok s.n ∧ s.L.length + vast s.L ≤ 1048576 ∧ s.picks.length ≤ 1048576
def RST5 (w : World) (a : Option Addr) (n c : Nat) (L : List Stp5) : Prop :=
  L.length = n ∧ n ≤ c ∧ ∀ (i : Nat) (s : Stp5), L[i]? = some s → ∃ b o cs, a = some ⟨b, o, none⟩ ∧ STC5 w cs s ∧ ∀ (j : Nat) (u : Value), cs[j]? = some u → w.cell? ⟨b, o + i * 4 + j, none⟩ = some u

theorem STC5.below {w w' : World} {B : Nat} {cs : List Value} {s : Stp5} (h : STC5 w cs s) (hb : Below B w w') (hB : w.heap.size ≤ B) : STC5 w' cs s := by
  obtain ⟨v, pv, vs, e, h1, h2, r⟩ := h
  exact ⟨v, pv, vs, e, h1.below hb hB, h2.below hb hB, r⟩
theorem RST5.below {w w' : World} {B : Nat} {a : Option Addr} {n c : Nat} {L : List Stp5} (h : RST5 w a n c L) (hb : Below B w w') (hB : w.heap.size ≤ B) : RST5 w' a n c L :=
  ⟨h.1, h.2.1, fun i s hs => by
    obtain ⟨b, o, cs, e, h1, h2⟩ := h.2.2 i s hs
    refine ⟨b, o, cs, e, h1.below hb hB, fun j u hu => ?_⟩
    have := h2 j u hu
    have hlt := World.block_lt_of_cell? w _ this
    rw [hb.cell (p := ⟨b, o + i * 4 + j, none⟩) (Nat.lt_of_lt_of_le hlt hB)]; exact this⟩

section
variable {H : Type} {enc : TypeId × Value → H} {W : World} {base : Nat} {held : Bool}

theorem rbb_of_trod1 {fuel : Nat} {v : Value} {x : DataW H × List MemPlace} (hf : DataW.trod enc Try.prog W base (fun _ => true) held fuel 50 [v] = some x) :
    ∃ u vs L, v = slv u ∧ RBB W u.1 u.2.1 u.2.2 vs L ∧ L.length + vast L + 1 ≤ Rows.uptoBulk x.1 := by
  have e : ∃ u, v = slv u := by
    rcases open_int_rows Try.underlying50 Try.underlying29 Try.underlying5 (by kernel_rfl) (by kernel_rfl) hf with ⟨hcs, hx⟩ | ⟨ad, len, cap, A, L, C, Z, hcs, _, hl, hm, hx, hall⟩
    · simp only [List.cons.injEq, and_true] at hcs; exact ⟨(none, 0, 0), hcs⟩
    · simp only [List.cons.injEq, and_true] at hcs; exact ⟨(some ad, len, cap), hcs⟩
  obtain ⟨u, rfl⟩ := e
  obtain ⟨⟨vs, L, h1, h2⟩, _⟩ := rbb_of_trod_cap (a := u.1) (n := u.2.1) (c := u.2.2) rfl hf
  exact ⟨u, vs, L, rfl, h1, by rw [h1.lenL]; exact h2⟩

theorem open_step5 {fuel : Nat} {cs : List Value} {x : DataW H × List MemPlace} (h : DataW.trod enc Try.prog W base (fun _ => true) held fuel 54 cs = some x) (hb : Rows.uptoBulk x.1 ≤ 1048576) : ∃ s, STC5 W cs s := by
  obtain ⟨xs, n, rfl, rfl, hlen, hxl, hf⟩ := DataW.trod_struct Try.underlying54 h
  have h5 : cs.length = 4 := by rw [hlen]; kernel_rfl
  match cs, h5 with
  | [c0, c1, c2, c3], _ =>
    have hx5 : xs.length = 4 := hxl
    match xs, hx5 with
    | [x0, x1, x2, x3], _ =>
      have h0 : DataW.trod enc Try.prog W base (fun _ => true) held n 3 [c0] = some x0 := Eq.mp (by kernel_rfl) (hf 0 _ rfl)
      have h1 : DataW.trod enc Try.prog W base (fun _ => true) held n 50 [c1] = some x1 := Eq.mp (by kernel_rfl) (hf 1 _ rfl)
      have h2 : DataW.trod enc Try.prog W base (fun _ => true) held n 3 [c2] = some x2 := Eq.mp (by kernel_rfl) (hf 2 _ rfl)
      have h3 : DataW.trod enc Try.prog W base (fun _ => true) held n 30 [c3] = some x3 := Eq.mp (by kernel_rfl) (hf 3 _ rfl)
      obtain ⟨z0, e0, _, w0⟩ := DataW.trod_int Try.underlying3 h0
      obtain ⟨z2, e2, _, w2⟩ := DataW.trod_int Try.underlying3 h2
      obtain ⟨u1, vs1, l1, e1, r1, b1⟩ := rbb_of_trod1 h1
      obtain ⟨u3, l3, e3, r3, b3⟩ := ri_of_trod1 h3
      simp only [List.cons.injEq, and_true] at e0 e2
      subst e0 e1 e2 e3
      simp only [List.map_cons, List.map_nil, Rows.uptoBulk, Rows.uptoBulkAll] at hb
      have ok : ∀ z, (Lit.int .i64 z).wf = true → i64ok z := fun z hz => by simpa [i64ok, Lit.wf, IntKind.min, IntKind.max, IntKind.signed, IntKind.bits] using hz
      exact ⟨⟨z0, l1, z2, l3⟩, u1, u3, vs1, rfl, r1, r3, ok _ w0, ok _ w2, by show l1.length + vast l1 ≤ _; omega, by show l3.length ≤ _; omega⟩

theorem rst5_of_trodU {fuel : Nat} {cs : List Value} {a : Option Addr} {n c : Nat} {d : DataW H} {p : List MemPlace} (hc : cs = [.slice a n c])
    (hf : DataW.trod enc Try.prog W base (fun _ => true) held fuel 47 cs = some (d, p)) (hb : Rows.uptoBulk d ≤ 1048576) : (∃ L, RST5 W a n c L) ∧ n ≤ c ∧ c ≤ 9223372036854775807 := by
  rcases open_slice Try.underlying47 hf with ⟨hcs, _⟩ | ⟨ad, len, cap, m, k, D, Pl, hcs, hb0, hl, hm, hmm, hx, hall⟩
  · rw [hc] at hcs
    simp only [List.cons.injEq, Value.slice.injEq, and_true] at hcs
    obtain ⟨rfl, rfl, rfl⟩ := hcs
    exact ⟨⟨[], rfl, Nat.le_refl _, fun i s h => by simp at h⟩, by omega, by omega⟩
  · rw [hc] at hcs
    simp only [List.cons.injEq, Value.slice.injEq, and_true] at hcs
    obtain ⟨rfl, rfl, rfl⟩ := hcs
    simp only [if_true] at hmm
    subst hmm
    refine ⟨?_, hl, by simpa [maxLen] using hm⟩
    simp only [Prod.mk.injEq] at hx
    have hD : ∀ i, i < n → Rows.uptoBulk (D i) ≤ 1048576 := by
      intro i hi
      have h1 := bulks.part_le (H := H) (d := D i) (l := (List.range n).map D) (List.mem_map.2 ⟨i, List.mem_range.2 hi, rfl⟩)
      have h2 := bulks.slice_elems (H := H) ((List.range n).map D) ((List.range (m - n)).map fun j => D (n + j))
      rw [hx.1] at hb
      omega
    have h5 : Try.prog.cellsOf 54 = 4 := by kernel_rfl
    have each : ∀ i, i < n → ∃ q : List Value × Stp5, STC5 W q.1 q.2 ∧ q.1.length = 4 ∧ ∀ j u, q.1[j]? = some u → W.cell? ((ad.add (i * 4)).add j) = some u := by
      intro i hi
      obtain ⟨cs', hcl, htr⟩ := hall i (by omega)
      rw [h5] at hcl
      obtain ⟨_, hlen, hcell⟩ := World.cells?_some hcl
      obtain ⟨s, hs⟩ := open_step5 htr (hD i hi)
      refine ⟨(cs', s), hs, hlen, fun j u hu => ?_⟩
      have hj := (List.getElem?_eq_some_iff.1 hu).1
      have hj : j < cs'.length := hj
      rw [hcell j (by omega)]; exact hu
    obtain ⟨Q, hQ⟩ := choose_lt each
    refine ⟨(List.range n).map fun i => (Q i).2, by simp, hl, fun i s hs => ?_⟩
    have hi : i < n := by have := (List.getElem?_eq_some_iff.1 hs).1; simpa using this
    simp only [List.getElem?_map, List.getElem?_range hi, Option.map_some, Option.some.injEq] at hs
    subst hs
    obtain ⟨q1, q2, q3⟩ := hQ i hi
    have hsp : ad.spot = none := by
      obtain ⟨q1', _, q3'⟩ := hQ 0 (by omega)
      obtain ⟨v, pv, vs, e, _⟩ := q1'
      have := World.cell?_spot (q3' 0 _ (by rw [e]; rfl))
      exact this
    obtain ⟨b, o, sp⟩ := ad
    cases hsp
    refine ⟨b, o, (Q i).1, rfl, q1, fun j u hu => ?_⟩
    have := q3 j u hu
    rw [add_p, add_p] at this
    exact this
end

section
attribute [local irreducible] bin un conv call callV blt slc fldA fld idxA idx lkp mUpd mEnt eSt rng nxt ent ext alc box bld bldS ld sto nilC mkMap mkS ifc pick rdy wts gsel sti cond retM Gives cCode cGrp cSeq cOp
theorem fA_Step5_0 {w : World} {K : KV} {b o : Nat} (h : K (.pointer (some ⟨b, o + 0, none⟩)) w) : fldA Try.prog 54 (.pointer (some ⟨b, o, none⟩)) 0 K w := fldA_of (by kernel_rfl) h
theorem fA_Step5_1 {w : World} {K : KV} {b o : Nat} (h : K (.pointer (some ⟨b, o + 1, none⟩)) w) : fldA Try.prog 54 (.pointer (some ⟨b, o, none⟩)) 1 K w := fldA_of (by kernel_rfl) h
theorem fA_Step5_2 {w : World} {K : KV} {b o : Nat} (h : K (.pointer (some ⟨b, o + 2, none⟩)) w) : fldA Try.prog 54 (.pointer (some ⟨b, o, none⟩)) 2 K w := fldA_of (by kernel_rfl) h
theorem fA_Step5_3 {w : World} {K : KV} {b o : Nat} (h : K (.pointer (some ⟨b, o + 3, none⟩)) w) : fldA Try.prog 54 (.pointer (some ⟨b, o, none⟩)) 3 K w := fldA_of (by kernel_rfl) h
theorem lenSt5 {w : World} {K : KV} {ty : TypeId} {cs : Array Bool} {av : Option Addr} {n c : Nat} (h : K (.int .i64 (n : Int)) w) : blt Try.prog .len #[47] ty cs #[.slice av n c] K w := len_slc Try.underlying47 h
theorem ldCR {w : World} {K : KV} {ad : Addr} {v : Value} (hc : w.cell? ad = some v) (h : K v w) : ld Try.prog 50 (.pointer (some ad)) K w := ld_cell (fun _ => by kernel_rfl) hc h
theorem idxSt5 {w : World} {K : KV} {a : Option Addr} {n c : Nat} {L : List Stp5} {i : Nat} {k : IntKind} (hr : RST5 w a n c L) (hi : i < n)
    (h : ∀ b o cs s, L[i]? = some s → STC5 w cs s → (∀ (j : Nat) (u : Value), cs[j]? = some u → w.cell? ⟨b, o + i * 4 + j, none⟩ = some u) → K (.pointer (some ⟨b, o + i * 4, none⟩)) w) :
    idxA Try.prog 47 (.slice a n c) (.int k (i : Nat)) K w := by
  have hl : i < L.length := by rw [hr.1]; exact hi
  obtain ⟨b, o, cs, rfl, h1, h2⟩ := hr.2.2 i L[i] (List.getElem?_eq_getElem hl)
  refine idxRow (s := 4) Try.underlying47 (fun _ => by kernel_rfl) (by omega) (by omega) ?_
  exact h b o cs L[i] (List.getElem?_eq_getElem hl) h1 h2

/-- A step, as it is read in any world in which nothing of the input has turned. -/
theorem RST5.get {W : World} {a : Option Addr} {n c : Nat} {L : List Stp5} (hr : RST5 W a n c L) {i : Nat} (hi : i < n) :
    ∃ (b o : Nat) (v pv : Option Addr × Nat × Nat) (vs : List (Option Addr × Nat × Nat)) (s : Stp5), a = some ⟨b, o, none⟩ ∧ L[i]? = some s ∧ RBB W v.1 v.2.1 v.2.2 vs s.L ∧ RI W pv.1 pv.2.1 pv.2.2 s.picks ∧ i64ok s.d ∧ i64ok s.n ∧ s.L.length + vast s.L ≤ 1048576 ∧
      ∀ w', Below W.heap.size W w' → ∀ (j : Nat) (u : Value), [Value.int .i64 s.d, slv v, .int .i64 s.n, slv pv][j]? = some u → w'.cell? ⟨b, o + i * 4 + j, none⟩ = some u := by
  have hl : i < L.length := by rw [hr.1]; exact hi
  obtain ⟨b, o, cs, e, ⟨v, pv, vs, ecs, r1, r2, d1, d2, d3, d4⟩, hcell⟩ := hr.2.2 i L[i] (List.getElem?_eq_getElem hl)
  subst ecs
  refine ⟨b, o, v, pv, vs, L[i], e, List.getElem?_eq_getElem hl, r1, r2, d1, d2, d3, fun w' hb j u hu => ?_⟩
  have := hcell j u hu
  rw [hb.cell (p := ⟨b, o + i * 4 + j, none⟩) (World.block_lt_of_cell? W _ this)]; exact this
theorem srs {W w : World} {a : Option Addr} {n c : Nat} {vs : List (Option Addr × Nat × Nat)} {L : List (List UInt8)} (h : RBB W a n c vs L) (hb : Below W.heap.size W w) :
    ∀ (i : Nat) (u : Option Addr × Nat × Nat) (l : List UInt8), vs[i]? = some u → L[i]? = some l → SR W.heap.size w u l := fun i u l hu hl => SR.of_arg (h.each i u l hu hl) hb

/-- All records of the first j steps. -/
def flat5 (L : List Stp5) (j : Nat) : List (List UInt8) := ((L.take j).map Stp5.L).flatten
theorem flat5_succ {L : List Stp5} {j : Nat} {s : Stp5} (h : L[j]? = some s) : flat5 L (j + 1) = flat5 L j ++ s.L := by
  unfold flat5
  rw [List.take_add_one, h]; simp
def sz (L : List (List UInt8)) : Nat := L.length + vast L
theorem sz_app (x y : List (List UInt8)) : sz (x ++ y) = sz x + sz y := by unfold sz; rw [vast_app]; simp; omega

theorem few5_c {w : World} {K : KV} {a : Option Addr} {n c : Nat} {L : List Stp5} (hr : RST5 w a n c L) (hn : n ≤ 9223372036854775807)
    (h0 : ∀ w', Below w.heap.size w w' → K (.bool false) w') (h1 : n ≤ 40 → sz (flat5 L n) ≤ 16384 → ∀ w', Below w.heap.size w w' → K (.bool true) w') :
    call Try.prog 19 #[.slice a n c] K w := by
  have hl := hr.1
  refine call_of leatlaw05_few_go (leatlaw05_few_in ?_)
  by_cases h40 : 40 < n
  · (repeat (first | refine lenSt5 ?_ | refine bin_gtr ?_ | refine cond_t (by omega) ?_))
    exact h0 w (Below.refl _ _)
  (repeat (first | refine lenSt5 ?_ | refine bin_gtr ?_ | refine cond_f (by omega) ?_))
  have hlen : ∀ s ∈ L, sz s.L ≤ 1048576 := by
    intro s hs
    obtain ⟨i, hi, rfl⟩ := List.getElem_of_mem hs
    obtain ⟨b, o, cs, _, ⟨v, pv, vs, _, _, _, _, _, h1, h2⟩, _⟩ := hr.2.2 i _ (List.getElem?_eq_getElem hi)
    exact h1
  have htot : ∀ j, j ≤ n → sz (flat5 L j) ≤ 1048576 * j := by
    intro j
    induction j with
    | zero => intro _; simp [flat5, sz, vast]
    | succ j ih =>
      intro hj
      rw [flat5_succ (List.getElem?_eq_getElem (by omega)), sz_app]
      have := hlen _ (List.getElem_mem (by omega : j < L.length))
      have := ih (by omega)
      omega
  refine leatlaw05_few_L1_r (Inv := fun al i wr => ∃ (j : Nat) (a' : Option Addr) (n' c' : Nat) (vs : List (Option Addr × Nat × Nat)), j ≤ n ∧ i = .int .i64 (j : Nat) ∧ al = .slice a' n' c' ∧ KRow w.heap.size w.heap.size wr a' n' c' vs (flat5 L j) ∧ Below w.heap.size w wr)
    (μ := fun _ i _ => n - (intOf i).toNat) ⟨0, none, 0, 0, [], by omega, rfl, rfl, KRow.nil _ _ _, Below.refl _ _⟩ ?_
  rintro _ _ _ w2 m ⟨j, a', n', c', vs, hj, rfl, rfl, k2, b2⟩ hm
  have hn' := k2.lenL
  have ht := htot j hj
  have hsz : n' ≤ sz (flat5 L j) := by unfold sz; omega
  by_cases hjn : j < n
  · (repeat (first | refine lenSt5 ?_ | refine bin_lss ?_ | refine cond_t (by omega) ?_))
    obtain ⟨b, o, v, pv, vs2, s, rfl, hs, r1, r2, d1, d2, d3, hcell⟩ := hr.get hjn
    have hcell := hcell w2 b2
    have hix : ∀ K : KV, K (.pointer (some ⟨b, o + j * 4, none⟩)) w2 → idxA Try.prog 47 (.slice (some ⟨b, o, none⟩) n c) (.int .i64 (j : Nat)) K w2 :=
      fun K hK => idxRow (s := 4) Try.underlying47 (fun _ => by kernel_rfl) (by omega) (by omega) hK
    refine hix _ ?_
    refine fA_Step5_3 ?_
    refine ldCI (v := slv pv) (hcell 3 _ rfl) ?_
    refine lenIn ?_
    have hpv := r2.len
    by_cases h5 : 5 < pv.2.1
    · (repeat (first | refine bin_gtr ?_ | refine cond_t (by omega) ?_))
      exact h0 w2 b2
    (repeat (first | refine bin_gtr ?_ | refine cond_f (by omega) ?_))
    refine hix _ ?_
    refine fA_Step5_1 ?_
    refine ldCR (v := slv v) (hcell 1 _ rfl) ?_
    have hl2 := r1.lenL
    refine appK k2 (r1.below b2 (Nat.le_refl _)).row r1.len (srs r1 b2) (by have := htot n (Nat.le_refl _); omega) b2.size (Nat.le_refl _) ?_
    intro a3 c3 w3 k3 kk
    (repeat (first | refine add64 (by omega) (by omega) ?_))
    rw [← flat5_succ hs] at k3
    exact ⟨⟨j + 1, a3, _, c3, _, by omega, by simp, rfl, k3, b2.trans (kk.below b2.size)⟩, by rw [hm]; simp only [intOf]; omega⟩
  have : j = n := by omega
  subst this
  (repeat (first | refine lenSt5 ?_ | refine leatlaw05_few_P1_r ?_ | refine bin_lss ?_ | refine cond_f (by omega) ?_))
  have hvs : n' + vast (flat5 L j) = sz (flat5 L j) := by unfold sz; rw [hn']
  refine vast_c k2.rbb (by omega) (by omega) ?_
  refine un_notD ?_
  by_cases hv : (16384 : Int) < n' + vast (flat5 L j)
  · rw [decide_eq_false (fun hh => hh hv)]
    exact h0 w2 b2
  · rw [decide_eq_true hv]
    exact h1 (by omega) (by omega) w2 b2
end
end Go.Proofs.Ytjkmblbonambjaa
