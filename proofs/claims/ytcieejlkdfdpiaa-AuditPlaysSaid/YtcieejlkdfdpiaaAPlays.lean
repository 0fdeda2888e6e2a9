/- The statement of AuditPlays: whatever is said, all nodes and sums are the document's, and the input reads as it did. -/
import Derived.Test.YtcieejlkdfdpiaaSAPlays
import Derived.Test.YtcieejlkdfdpiaaAWorks
import Derived.Test.YtcieejlkdfdpiaaAPPlain
import Derived.Test.YtcieejlkdfdpiaaFrame
import Derived.Deep.Slices
namespace Go.Proofs.Ytcieejlkdfdpiaa
set_option maxRecDepth 100000
open Go.ChangeShapes Go.WideShapes Go.ChangeAt Go.RowKit Go.ChangeMaps Go.Deep
/-- What was said, as it is handed in. -/
structure Sdq where
  who : Int
  a : Ak
  cs : List Value
  o : Int
  s : Int
  e : Int
def SDC (cs : List Value) (s : Sdq) : Prop := cs = .int .i64 s.who :: (askC s.a ++ s.cs) ∧ ansOk s.cs s.o s.s s.e ∧ 0 ≤ s.s ∧ s.s < 18446744073709551616
def RSD (w : World) (a : Option Addr) (n c : Nat) (L : List Sdq) : Prop :=
  L.length = n ∧ n ≤ c ∧ ∀ (i : Nat) (s : Sdq), L[i]? = some s → ∃ b o cs, a = some ⟨b, o, none⟩ ∧ SDC cs s ∧ ∀ (j : Nat) (u : Value), cs[j]? = some u → w.cell? ⟨b, o + i * 22 + j, none⟩ = some u
theorem RSD.below {w w' : World} {B : Nat} {a : Option Addr} {n c : Nat} {L : List Sdq} (h : RSD w a n c L) (hb : Below B w w') (hB : w.heap.size ≤ B) : RSD w' a n c L :=
  ⟨h.1, h.2.1, fun i s hs => by
    obtain ⟨b, o, cs, e, h1, h2⟩ := h.2.2 i s hs
    refine ⟨b, o, cs, e, h1, fun j u hu => ?_⟩
    have := h2 j u hu
    have hlt := World.block_lt_of_cell? w _ this
    rw [hb.cell (p := ⟨b, o + i * 22 + j, none⟩) (Nat.lt_of_lt_of_le hlt hB)]; exact this⟩
section
variable {H : Type} {enc : TypeId × Value → H} {W : World} {base : Nat} {held : Bool}
theorem open_ask {fuel : Nat} {cs : List Value} {x : DataW H × List MemPlace} (h : DataW.trod enc Try.prog W base (fun _ => true) held fuel 35 cs = some x) : ∃ a, cs = askC a := by
  obtain ⟨xs, n, rfl, rfl, hlen, hxl, hf⟩ := DataW.trod_struct Try.underlying35 h
  have h6 : cs.length = 6 := by rw [hlen]; kernel_rfl
  match cs, h6 with
  | [c0, c1, c2, c3, c4, c5], _ =>
    have hx6 : xs.length = 6 := hxl
    match xs, hx6 with
    | [x0, x1, x2, x3, x4, x5], _ =>
      have h0 : DataW.trod enc Try.prog W base (fun _ => true) held n 5 [c0] = some x0 := Eq.mp (by kernel_rfl) (hf 0 _ rfl)
      have h1 : DataW.trod enc Try.prog W base (fun _ => true) held n 33 [c1] = some x1 := Eq.mp (by kernel_rfl) (hf 1 _ rfl)
      have h2 : DataW.trod enc Try.prog W base (fun _ => true) held n 3 [c2] = some x2 := Eq.mp (by kernel_rfl) (hf 2 _ rfl)
      have h3 : DataW.trod enc Try.prog W base (fun _ => true) held n 2 [c3] = some x3 := Eq.mp (by kernel_rfl) (hf 3 _ rfl)
      have h4 : DataW.trod enc Try.prog W base (fun _ => true) held n 33 [c4] = some x4 := Eq.mp (by kernel_rfl) (hf 4 _ rfl)
      have h5 : DataW.trod enc Try.prog W base (fun _ => true) held n 33 [c5] = some x5 := Eq.mp (by kernel_rfl) (hf 5 _ rfl)
      obtain ⟨z0, e0, _, _⟩ := DataW.trod_int Try.underlying5 h0
      obtain ⟨z1, e1, _, _⟩ := DataW.trod_int Try.underlying33 h1
      obtain ⟨z2, e2, _, _⟩ := DataW.trod_int Try.underlying3 h2
      obtain ⟨z3, e3, _, _⟩ := DataW.trod_int Try.underlying2 h3
      obtain ⟨z4, e4, _, _⟩ := DataW.trod_int Try.underlying33 h4
      obtain ⟨z5, e5, _, _⟩ := DataW.trod_int Try.underlying33 h5
      simp only [List.cons.injEq, and_true] at e0 e1 e2 e3 e4 e5
      subst e0 e1 e2 e3 e4 e5
      exact ⟨⟨z0, z1, z2, z3, z4, z5⟩, rfl⟩
theorem open_ans {fuel : Nat} {cs : List Value} {x : DataW H × List MemPlace} (h : DataW.trod enc Try.prog W base (fun _ => true) held fuel 42 cs = some x) : ∃ o s e, ansOk cs o s e ∧ 0 ≤ s ∧ s < 18446744073709551616 := by
  obtain ⟨xs, n, rfl, rfl, hlen, hxl, hf⟩ := DataW.trod_struct Try.underlying42 h
  have h15 : cs.length = 15 := by rw [hlen]; kernel_rfl
  match cs, h15 with
  | [c0, c1, c2, c3, c4, c5, c6, c7, c8, c9, c10, c11, c12, c13, c14], _ =>
    have hx2 : xs.length = 2 := hxl
    match xs, hx2 with
    | [x0, x1], _ =>
      have h0 : DataW.trod enc Try.prog W base (fun _ => true) held n 39 [c0, c1, c2, c3, c4, c5, c6, c7, c8, c9, c10, c11, c12, c13] = some x0 := Eq.mp (by kernel_rfl) (hf 0 _ rfl)
      have h1 : DataW.trod enc Try.prog W base (fun _ => true) held n 40 [c14] = some x1 := Eq.mp (by kernel_rfl) (hf 1 _ rfl)
      obtain ⟨z1, e1, _, _⟩ := DataW.trod_int Try.underlying40 h1
      obtain ⟨ys, m, rfl, rfl, _, hyl, hg⟩ := DataW.trod_struct Try.underlying39 h0
      have hy9 : ys.length = 9 := hyl
      match ys, hy9 with
      | [y0, y1, y2, y3, y4, y5, y6, y7, y8], _ =>
        have g0 : DataW.trod enc Try.prog W base (fun _ => true) held m 3 [c0] = some y0 := Eq.mp (by kernel_rfl) (hg 0 _ rfl)
        have g1 : DataW.trod enc Try.prog W base (fun _ => true) held m 33 [c1] = some y1 := Eq.mp (by kernel_rfl) (hg 1 _ rfl)
        obtain ⟨u0, f0, _, _⟩ := DataW.trod_int Try.underlying3 g0
        obtain ⟨u1, f1, _, w1⟩ := DataW.trod_int Try.underlying33 g1
        simp only [List.cons.injEq, and_true] at e1 f0 f1
        subst e1 f0 f1
        have hw : 0 ≤ u1 ∧ u1 ≤ 18446744073709551615 := by simpa [Lit.wf, IntKind.min, IntKind.max, IntKind.signed, IntKind.bits] using w1
        exact ⟨u0, u1, z1, ⟨rfl, rfl, rfl, rfl⟩, hw.1, by omega⟩
theorem open_said {fuel : Nat} {cs : List Value} {x : DataW H × List MemPlace} (h : DataW.trod enc Try.prog W base (fun _ => true) held fuel 44 cs = some x) : ∃ s, SDC cs s := by
  obtain ⟨xs, n, rfl, rfl, hlen, hxl, hf⟩ := DataW.trod_struct Try.underlying44 h
  have h22 : cs.length = 22 := by rw [hlen]; kernel_rfl
  match cs, h22 with
  | [c0, c1, c2, c3, c4, c5, c6, c7, c8, c9, c10, c11, c12, c13, c14, c15, c16, c17, c18, c19, c20, c21], _ =>
    have hx3 : xs.length = 3 := hxl
    match xs, hx3 with
    | [x0, x1, x2], _ =>
      have h0 : DataW.trod enc Try.prog W base (fun _ => true) held n 3 [c0] = some x0 := Eq.mp (by kernel_rfl) (hf 0 _ rfl)
      have h1 : DataW.trod enc Try.prog W base (fun _ => true) held n 35 [c1, c2, c3, c4, c5, c6] = some x1 := Eq.mp (by kernel_rfl) (hf 1 _ rfl)
      have h2 : DataW.trod enc Try.prog W base (fun _ => true) held n 42 [c7, c8, c9, c10, c11, c12, c13, c14, c15, c16, c17, c18, c19, c20, c21] = some x2 := Eq.mp (by kernel_rfl) (hf 2 _ rfl)
      obtain ⟨z0, e0, _, _⟩ := DataW.trod_int Try.underlying3 h0
      obtain ⟨a, ea⟩ := open_ask h1
      obtain ⟨o, s, e, hans, hs1, hs2⟩ := open_ans h2
      simp only [List.cons.injEq, and_true] at e0
      subst e0
      refine ⟨⟨z0, a, _, o, s, e⟩, ?_, hans, hs1, hs2⟩
      show _ = _ :: (askC a ++ _)
      rw [← ea]; rfl
theorem rsd_of_trod {fuel : Nat} {cs : List Value} {a : Option Addr} {n c : Nat} {x : DataW H × List MemPlace} (hc : cs = [.slice a n c])
    (hf : DataW.trod enc Try.prog W base (fun _ => true) held fuel 22 cs = some x) : (∃ L, RSD W a n c L) ∧ n ≤ c ∧ c ≤ 9223372036854775807 := by
  obtain ⟨d, p⟩ := x
  rcases open_slice Try.underlying22 hf with ⟨hcs, _⟩ | ⟨ad, len, cap, m, k, D, Pl, hcs, hb0, hl, hm, hmm, hx, hall⟩
  · rw [hc] at hcs
    simp only [List.cons.injEq, Value.slice.injEq, and_true] at hcs
    obtain ⟨rfl, rfl, rfl⟩ := hcs
    exact ⟨⟨[], rfl, Nat.le_refl _, fun i s h => by simp at h⟩, by omega, by omega⟩
  · rw [hc] at hcs
    simp only [List.cons.injEq, Value.slice.injEq, and_true] at hcs
    obtain ⟨rfl, rfl, rfl⟩ := hcs
    simp only [if_true] at hmm
    subst hmm
    refine ⟨?_, hl, by simpa [maxLen] using hm⟩
    have h22 : Try.prog.cellsOf 44 = 22 := by kernel_rfl
    have each : ∀ i, i < n → ∃ q : List Value × Sdq, SDC q.1 q.2 ∧ q.1.length = 22 ∧ ∀ j u, q.1[j]? = some u → W.cell? ((ad.add (i * 22)).add j) = some u := by
      intro i hi
      obtain ⟨cs', hcl, htr⟩ := hall i (by omega)
      rw [h22] at hcl
      obtain ⟨_, hlen, hcell⟩ := World.cells?_some hcl
      obtain ⟨s, hs⟩ := open_said htr
      refine ⟨(cs', s), hs, hlen, fun j u hu => ?_⟩
      have hj := (List.getElem?_eq_some_iff.1 hu).1
      have hj : j < cs'.length := hj
      rw [hcell j (by omega)]; exact hu
    haveI : Inhabited (List Value × Sdq) := ⟨([], ⟨0, ⟨0, 0, 0, 0, 0, 0⟩, [], 0, 0, 0⟩)⟩
    obtain ⟨Q, hQ⟩ := choose_lt each
    refine ⟨(List.range n).map fun i => (Q i).2, by simp, hl, fun i s hs => ?_⟩
    have hi : i < n := by have := (List.getElem?_eq_some_iff.1 hs).1; simpa using this
    simp only [List.getElem?_map, List.getElem?_range hi, Option.map_some, Option.some.injEq] at hs
    subst hs
    obtain ⟨q1, q2, q3⟩ := hQ i hi
    have hsp : ad.spot = none := by
      obtain ⟨q1', _, q3'⟩ := hQ 0 (by omega)
      obtain ⟨e, _⟩ := q1'
      have := World.cell?_spot (q3' 0 _ (by rw [e]; rfl))
      exact this
    obtain ⟨b, o, sp⟩ := ad
    cases hsp
    refine ⟨b, o, (Q i).1, rfl, q1, fun j u hu => ?_⟩
    have := q3 j u hu
    rw [add_p, add_p] at this
    exact this
end
/-! ## Two audits side by side -/
structure PW (B0 B : Nat) (w : World) (fa : AF) (fb : RF) (S : AS) (R : RS) : Prop where
  a : AK w fa S
  b : RK w B fb R
  lo : ∀ x ∈ fa.p :: fa.foot, B0 ≤ x ∧ x < B
  top : B ≤ w.heap.size
section
variable {B0 B : Nat} {w w' : World} {fa : AF} {fb fb' : RF} {S S' : AS} {R R' : RS}
theorem PW.below (h : PW B0 B w fa fb S R) (hb : Below w.heap.size w w') : PW B0 B w' fa fb S R := ⟨h.a.below hb, h.b.below hb, h.lo, Nat.le_trans h.top hb.size⟩
theorem PW.b0 (h : PW B0 B w fa fb S R) : B0 ≤ w.heap.size := by have := h.lo fa.p (by simp); have := h.top; omega
theorem PW.setA (h : PW B0 B w fa fb S R) (ha : AK w' fa S') (hc : Ch fa.foot w w') : PW B0 B w' fa fb S' R :=
  ⟨ha, h.b.ch hc (fun k hk hf => by have := h.b.lt k hk; have := h.lo k (List.mem_cons_of_mem _ hf); omega), h.lo, Nat.le_trans h.top hc.size⟩
theorem PW.setB (h : PW B0 B w fa fb S R) (hr : RK w' B fb' R') (hb : Below B w w') : PW B0 B w' fa fb' S R' := by
  have lt := fun x hx => (h.lo x hx).2
  have kept : ∀ {κ ν : Type} {kv : κ → Value} {vv : ν → Value} {k : Nat} {m : List (κ × ν)}, k < B → MB kv vv w k m → MB kv vv w' k m := fun hk hm => hm.kept (hb.block _ hk)
  refine ⟨⟨below_blk hb h.a.head (lt _ (by simp)), kept (lt _ (by simp [AF.foot])) h.a.m1, kept (lt _ (by simp [AF.foot])) h.a.m2, kept (lt _ (by simp [AF.foot])) h.a.m3, kept (lt _ (by simp [AF.foot])) h.a.m4, h.a.dis⟩, hr, h.lo, Nat.le_trans h.top hb.size⟩
end
theorem fA_Sdp_0 {w : World} {K : KV} {b o : Nat} (h : K (.pointer (some ⟨b, o + 0, none⟩)) w) : fldA Try.prog 44 (.pointer (some ⟨b, o, none⟩)) 0 K w := fldA_of (by kernel_rfl) h
theorem fA_Sdp_1 {w : World} {K : KV} {b o : Nat} (h : K (.pointer (some ⟨b, o + 1, none⟩)) w) : fldA Try.prog 44 (.pointer (some ⟨b, o, none⟩)) 1 K w := fldA_of (by kernel_rfl) h
theorem fA_Sdp_2 {w : World} {K : KV} {b o : Nat} (h : K (.pointer (some ⟨b, o + 7, none⟩)) w) : fldA Try.prog 44 (.pointer (some ⟨b, o, none⟩)) 2 K w := fldA_of (by kernel_rfl) h
attribute [local irreducible] bin un conv call callV blt slc fldA fld idxA idx lkp mUpd mEnt eSt rng nxt ent ext alc box bld bldS ld sto nilC mkMap mkS ifc pick rdy wts gsel sti cond retM Gives cCode cGrp cSeq cOp
section
variable {P : Program} {w : World} {K : KV} {t : TypeId}
theorem ldAc {n b o : Nat} {vs : List Value} {d : TypeDesc} (hu : P.underlying t = some d) (hd : d.isRow = true) (hi : (P.info? t).map (·.size) = some n) (hn : vs.length = n) (hc : ∀ j v, vs[j]? = some v → w.cell? ⟨b, o + j, none⟩ = some v)
    (h : K (.agg vs.toArray) w) : ld P t (.pointer (some ⟨b, o, none⟩)) K w := ld_of (run_loadVar_mid w b o t vs d hc hu hd (by rw [hn]; exact hi)) h
end
section
variable {w : World} {K : KV} {a : Option Addr} {n c i : Nat} {L : List Sdq}
theorem lenSd {a : Option Addr} {n c : Nat} {ty : TypeId} {cs : Array Bool} (h : K (.int .i64 (n : Int)) w) : blt Try.prog .len #[22] ty cs #[.slice a n c] K w := len_slc Try.underlying22 h
/-- Where the i'th of what was said stands. -/
structure At (w : World) (b p : Nat) (s : Sdq) : Prop where
  who : w.cell? ⟨b, p + 0, none⟩ = some (.int .i64 s.who)
  ask : ∀ j v, (askC s.a)[j]? = some v → w.cell? ⟨b, p + 1 + j, none⟩ = some v
  ans : ∀ j v, s.cs[j]? = some v → w.cell? ⟨b, p + 7 + j, none⟩ = some v
  ok : ansOk s.cs s.o s.s s.e
  s0 : 0 ≤ s.s
  s1 : s.s < 18446744073709551616
theorem RSD.at (h : RSD w a n c L) (hi : i < n) : ∃ s b o, L[i]? = some s ∧ a = some ⟨b, o, none⟩ ∧ At w b (o + i * 22) s := by
  obtain ⟨s, hs⟩ : ∃ s, L[i]? = some s := ⟨_, List.getElem?_eq_getElem (by rw [h.1]; exact hi)⟩
  obtain ⟨b, o, cs, e, ⟨hcs, hok, h0, h1⟩, hc⟩ := h.2.2 i s hs
  subst hcs
  refine ⟨s, b, o, hs, e, hc 0 _ rfl, fun j v hj => ?_, fun j v hj => ?_, hok, h0, h1⟩
  · have hjl : j < (askC s.a).length := (List.getElem?_eq_some_iff.1 hj).1
    have := hc (j + 1) v (by rw [List.getElem?_cons_succ, List.getElem?_append_left hjl]; exact hj)
    rw [show o + i * 22 + 1 + j = o + i * 22 + (j + 1) by omega]; exact this
  · have := hc (j + 7) v (by rw [List.getElem?_cons_succ, List.getElem?_append_right (by show 6 ≤ j + 6; omega)]; exact hj)
    rw [show o + i * 22 + 7 + j = o + i * 22 + (j + 7) by omega]; exact this
theorem At.below {w' : World} {b p : Nat} {s : Sdq} {B : Nat} (h : At w b p s) (hb : Below B w w') (hB : b < B) : At w' b p s := by
  have cell : ∀ {q : Nat} {v : Value}, w.cell? ⟨b, q, none⟩ = some v → w'.cell? ⟨b, q, none⟩ = some v := fun {q v} hv => by rw [hb.cell (p := ⟨b, q, none⟩) hB]; exact hv
  exact ⟨cell h.who, fun j v hj => cell (h.ask j v hj), fun j v hj => cell (h.ans j v hj), h.ok, h.s0, h.s1⟩
theorem At.lt {b p : Nat} {s : Sdq} (h : At w b p s) : b < w.heap.size := World.block_lt_of_cell? w _ h.who
theorem idxSd {b o : Nat} {k : IntKind} (ha : a = some ⟨b, o, none⟩) (hi : i < n) (h : K (.pointer (some ⟨b, o + i * 22, none⟩)) w) : idxA Try.prog 22 (.slice a n c) (.int k (i : Nat)) K w := by
  subst ha
  refine idxRow (s := 22) Try.underlying22 (fun _ => by kernel_rfl) (by omega) (by omega) ?_
  rw [Int.toNat_natCast]; exact h
end
end Go.Proofs.Ytcieejlkdfdpiaa
