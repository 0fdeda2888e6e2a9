/- Memory told by blocks: rules for variables, structs, arrays, rows of elements of several cells; and which blocks a call leaves as they were. Nothing of the program is named here. -/
import Derived.Test.YtnmjfakibhekmaaGreatDoorRules
import Derived.Deep.MidRow
import Derived.Great.BuildSlice
namespace Go.Proofs.YtnmjfakibhekmaaGreatDoor
set_option maxRecDepth 100000
open Go.RowKit

/-- Block b holds the cells cs, of elements of type E. -/
def blk (w : World) (b : Nat) (E : TypeId) (cs : List Value) : Prop := w.heap[b]? = some (.cells cs.toArray E (0, 0))

theorem blk.lt {w : World} {b : Nat} {E : TypeId} {cs : List Value} (h : blk w b E cs) : b < w.heap.size := (Array.getElem?_eq_some_iff.1 h).1
theorem blk.ne {w : World} {b b' : Nat} {E E' : TypeId} {cs cs' : List Value} (h : blk w b E cs) (h' : blk w b' E' cs') (hE : E ≠ E') : b ≠ b' := by
  rintro rfl
  unfold blk at *
  rw [h] at h'
  simp only [Option.some.injEq, Obj.cells.injEq] at h'
  exact hE h'.2.1
theorem blk.cell {w : World} {b : Nat} {E : TypeId} {cs : List Value} (h : blk w b E cs) (o : Nat) : w.cell? ⟨b, o, none⟩ = cs[o]? := by
  unfold World.cell?
  rw [h]; simp
theorem blk.frozen {w : World} {b : Nat} {E : TypeId} {cs : List Value} (h : blk w b E cs) (o : Nat) : w.frozen? ⟨b, o, none⟩ = false := by
  unfold World.frozen?
  rw [h]; simp

/-- Of what was there nothing has turned, but in blocks from B on whose elements are of a type of T. -/
structure Keep (T : List TypeId) (B : Nat) (w w' : World) : Prop where
  os : w'.os = w.os
  tape : w'.tape = w.tape
  output : w'.output = w.output
  size : w.heap.size ≤ w'.heap.size
  block : ∀ (k : Nat) (o : Obj), w.heap[k]? = some o → (k < B ∨ ∀ cs E z, o = .cells cs E z → E ∉ T) → w'.heap[k]? = some o

theorem Keep.refl (T : List TypeId) (B : Nat) (w : World) : Keep T B w w := ⟨rfl, rfl, rfl, Nat.le_refl _, fun _ _ h _ => h⟩
theorem Keep.trans {T : List TypeId} {B : Nat} {a b c : World} (h : Keep T B a b) (k : Keep T B b c) : Keep T B a c :=
  ⟨k.os.trans h.os, k.tape.trans h.tape, k.output.trans h.output, Nat.le_trans h.size k.size, fun i o ho hk => k.block i o (h.block i o ho hk) hk⟩
theorem Keep.mono {T T' : List TypeId} {B B' : Nat} {w w' : World} (h : Keep T B w w') (hT : ∀ t ∈ T, t ∈ T') (hB : B' ≤ B) : Keep T' B' w w' :=
  ⟨h.os, h.tape, h.output, h.size, fun k o ho hk => h.block k o ho (hk.elim (fun h => .inl (Nat.lt_of_lt_of_le h hB)) (fun h => .inr fun cs E z e hm => h cs E z e (hT E hm)))⟩
theorem Keep.of {T : List TypeId} {B : Nat} {w w' : World} (h : Below w.heap.size w w') : Keep T B w w' :=
  ⟨h.os, h.tape, h.output, h.size, fun k o ho _ => by rw [h.block k (Array.getElem?_eq_some_iff.1 ho).1]; exact ho⟩
theorem Keep.below {T : List TypeId} {B : Nat} {w w' : World} (h : Keep T B w w') (hB : B ≤ w.heap.size) : Below B w w' :=
  ⟨h.os, h.tape, h.output, h.size, fun k hk => by
    have hk' : k < w.heap.size := by omega
    rw [h.block k _ (Array.getElem?_eq_getElem hk') (.inl hk), Array.getElem?_eq_getElem hk']⟩
theorem Keep.belowNone {B : Nat} {w w' : World} (h : Keep [] B w w') : Below w.heap.size w w' :=
  ⟨h.os, h.tape, h.output, h.size, fun k hk => by
    rw [h.block k _ (Array.getElem?_eq_getElem hk) (.inr fun _ _ _ _ hm => by cases hm), Array.getElem?_eq_getElem hk]⟩
theorem Keep.drew {T : List TypeId} {B : Nat} {a w : World} (h : Keep T B a w) : Keep T B a w.drew := ⟨h.os, h.tape, h.output, h.size, h.block⟩
theorem Keep.undrew {T : List TypeId} {B : Nat} {a w : World} (h : Keep T B a.drew w) : Keep T B a w := ⟨h.os, h.tape, h.output, h.size, h.block⟩
theorem Keep.blk {T : List TypeId} {B : Nat} {w w' : World} {b : Nat} {E : TypeId} {cs : List Value} (h : Keep T B w w') (hb : blk w b E cs) (hE : b < B ∨ E ∉ T) : blk w' b E cs :=
  h.block _ _ hb (hE.imp id fun h cs E z e => by cases e; exact h)
theorem below_blk {B : Nat} {w w' : World} {b : Nat} {E : TypeId} {cs : List Value} (h : Below B w w') (hb : blk w b E cs) (hB : b < B) : blk w' b E cs := by
  unfold Go.Proofs.YtnmjfakibhekmaaGreatDoor.blk; rw [h.block b hB]; exact hb
theorem blk.drew {w : World} {b : Nat} {E : TypeId} {cs : List Value} (h : blk w b E cs) : blk w.drew b E cs := h

/-- Only block b was written. -/
structure Oth (b : Nat) (w w' : World) : Prop where
  os : w'.os = w.os
  tape : w'.tape = w.tape
  output : w'.output = w.output
  size : w'.heap.size = w.heap.size
  other : ∀ k, k ≠ b → w'.heap[k]? = w.heap[k]?

theorem Oth.blk {b k : Nat} {w w' : World} {E : TypeId} {cs : List Value} (h : Oth b w w') (hb : blk w k E cs) (hk : k ≠ b) : blk w' k E cs := by
  unfold Go.Proofs.YtnmjfakibhekmaaGreatDoor.blk; rw [h.other k hk]; exact hb
theorem Oth.keep {T : List TypeId} {B b : Nat} {w w' : World} {E : TypeId} {cs : List Value} (h : Oth b w w') (hb : Go.Proofs.YtnmjfakibhekmaaGreatDoor.blk w b E cs) (hE : E ∈ T) (hB : B ≤ b) : Keep T B w w' :=
  ⟨h.os, h.tape, h.output, by rw [h.size]; exact Nat.le_refl _, fun k o ho hk => by
    have : k ≠ b := by
      rintro rfl
      rcases hk with hk | hk
      · omega
      · unfold Go.Proofs.YtnmjfakibhekmaaGreatDoor.blk at hb
        rw [hb] at ho
        cases ho
        exact hk _ _ _ rfl hE
    rw [h.other k this]; exact ho⟩
theorem Oth.below {b : Nat} {w w' : World} (h : Oth b w w') : Below b w w' :=
  ⟨h.os, h.tape, h.output, by rw [h.size]; exact Nat.le_refl _, fun k hk => h.other k (by omega)⟩

theorem Keep.grown {T : List TypeId} {B B2 : Nat} {w w' : World} {E : TypeId} {a : Option Addr} {n c : Nat} {xs : List Value} {s : Nat} (hg : w.grownBy w' (Value.slice a n c).ownBlock) (ho : w.ownsRow B2 E s (.slice a n c) n xs) (hE : E ∈ T) (hB : B ≤ B2) : Keep T B w w' :=
  ⟨hg.os, hg.tape, hg.output, hg.size, fun k o hk h => by
    have hlt : k < w.heap.size := (Array.getElem?_eq_some_iff.1 hk).1
    rw [hg.block k hlt ?_]; exact hk
    rcases ho.2 with ⟨hv, _⟩ | ⟨g, cap, cur, hv, hb, hh, _⟩
    · cases hv; simp [Value.ownBlock]
    · cases hv
      simp only [Value.ownBlock, ne_eq, Option.some.injEq]
      rintro rfl
      rcases h with h | h
      · omega
      · rw [hh] at hk; cases hk; exact h _ _ _ rfl hE⟩

section
variable {P : Program} {K : KV} {w : World} {t : TypeId} {b o : Nat} {E : TypeId} {cs : List Value}

theorem add_p (b o j : Nat) : (⟨b, o, none⟩ : Addr).add j = ⟨b, o + j, none⟩ := Addr.add_mid b o j

theorem nilC_p {a : Addr} (h : K (.pointer (some a)) w) : nilC (.pointer (some a)) K w := h
theorem nilC_f {f : FuncId} {x y : Array Value} (h : K (.func (.func f) x y) w) : nilC (.func (.func f) x y) K w := h

/-- A variable of one cell is read. -/
theorem ld1 {v : Value} (ha : ∀ w, (isAgg t).run P w = .ok false w) (hb : blk w b E cs) (ho : cs[o]? = some v) (h : K v w) : ld P t (.pointer (some ⟨b, o, none⟩)) K w :=
  ld_cell ha (by rw [hb.cell, ho]) h

theorem ld1x (v : Value) (ha : ∀ w, (isAgg t).run P w = .ok false w) (hb : blk w b E cs) (ho : cs[o]? = some v) (h : K v w) : ld P t (.pointer (some ⟨b, o, none⟩)) K w := ld1 ha hb ho h

/-- A struct or an array is read. -/
theorem ldA {n : Nat} {vs : List Value} {d : TypeDesc} (hu : P.underlying t = some d) (hd : d.isRow = true) (hi : (P.info? t).map (·.size) = some n) (hb : blk w b E cs) (hv : (cs.drop o).take n = vs) (hn : vs.length = n)
    (h : K (.agg vs.toArray) w) : ld P t (.pointer (some ⟨b, o, none⟩)) K w := by
  refine ld_of (run_loadVar_mid w b o t vs d ?_ hu hd (by rw [hn]; exact hi)) h
  intro j v hj
  rw [hb.cell]
  subst hv
  have hlt := (List.getElem?_eq_some_iff.1 hj).1
  rw [List.getElem?_take] at hj
  split at hj
  · rw [List.getElem?_drop] at hj; exact hj
  · cases hj

/-- A variable of one cell is written. -/
theorem sto1 {v : Value} (hs : ∀ w, (sizeOf t).run P w = .ok 1 w) (hb : blk w b E cs) (ho : o < cs.length) (hv : v.oneCell' = true)
    (h : ∀ w', blk w' b E (cs.set o v) → Oth b w w' → K undef w') : sto P t (.pointer (some ⟨b, o, none⟩)) v K w := by
  have hc : w.cell? ⟨b, o, none⟩ = some cs[o] := by rw [hb.cell, List.getElem?_eq_getElem ho]
  have hv2 : v.cells = #[v] := by cases v <;> first | rfl | simp [Value.oneCell'] at hv
  refine sto_cell hs hv hv2 hc (hb.frozen o) rfl (h _ ?_ ⟨rfl, rfl, rfl, by simp [World.setCell], fun k hk => Below.heap_setCell _ _ _ _ hk⟩)
  unfold blk at *
  simp only [World.setCell, Array.getElem?_modify]
  rw [if_pos trivial, hb]
  simp

theorem setCells_other (b : Nat) : ∀ (vs : List Value) (o : Nat) (w : World), Oth b w (w.setCells b o vs) := by
  intro vs
  induction vs with
  | nil => intro o w; exact ⟨rfl, rfl, rfl, rfl, fun _ _ => rfl⟩
  | cons v vs ih =>
    intro o w
    have h := ih (o + 1) (w.setCell ⟨b, o, none⟩ v)
    rw [World.setCells]
    exact ⟨h.os, h.tape, h.output, by rw [h.size]; simp [World.setCell], fun k hk => (h.other k hk).trans (Below.heap_setCell _ _ _ _ hk)⟩

theorem setCells_blk {b : Nat} {E : TypeId} : ∀ (vs : List Value) (o : Nat) (w : World) (cs : List Value), blk w b E cs → o + vs.length ≤ cs.length → blk (w.setCells b o vs) b E (cs.take o ++ vs ++ cs.drop (o + vs.length)) := by
  intro vs
  induction vs with
  | nil => intro o w cs h hl; rw [World.setCells]; simpa using h
  | cons v vs ih =>
    intro o w cs h hl
    rw [World.setCells]
    simp only [List.length_cons] at hl
    have h1 : blk (w.setCell ⟨b, o, none⟩ v) b E (cs.set o v) := by
      unfold blk at *
      simp only [World.setCell, Array.getElem?_modify]
      rw [if_pos trivial, h]
      simp
    have h2 := ih (o + 1) _ _ h1 (by simp; omega)
    have : (cs.set o v).take (o + 1) ++ vs ++ (cs.set o v).drop (o + 1 + vs.length) = cs.take o ++ (v :: vs) ++ cs.drop (o + (vs.length + 1)) := by
      have e : cs.set o v = cs.take o ++ v :: cs.drop (o + 1) := by rw [List.set_eq_take_append_cons_drop, if_pos (by omega)]
      have e2 : (cs.take o).length = o := by rw [List.length_take]; omega
      rw [e, List.take_append, List.drop_append, e2, List.take_take, List.drop_take]
      simp only [show min (o + 1) o = o by omega, show o + 1 - o = 1 by omega, List.take_succ_cons, List.take_zero, show o - (o + 1 + vs.length) = 0 by omega, List.nil_append, show o + 1 + vs.length - o = vs.length + 1 by omega, List.drop_succ_cons, List.drop_drop,
        show o + 1 + vs.length = o + (vs.length + 1) by omega, List.append_assoc, List.cons_append, List.take_zero, show o - (o + (vs.length + 1)) = 0 by omega, show o + (vs.length + 1) - o = vs.length + 1 by omega, List.nil_append, List.drop_succ_cons, List.drop_drop,
        show o + 1 + vs.length = o + (vs.length + 1) by omega]
    rw [this] at h2
    exact h2

/-- A struct or an array is written. -/
theorem stoA {vs : List Value} {n : Nat} (hi : (P.info? t).map (·.size) = some n) (hn : vs.length = n) (hb : blk w b E cs) (ho : o + n ≤ cs.length) (h1 : ∀ v ∈ vs, v.oneCell' = true)
    (h : ∀ w', blk w' b E (cs.take o ++ vs ++ cs.drop (o + n)) → Oth b w w' → K undef w') : sto P t (.pointer (some ⟨b, o, none⟩)) (.agg vs.toArray) K w := by
  subst hn
  have hr := run_storeAt_mid (P := P) w b o t vs.toArray (fun j hj => ⟨by
    rw [hb.cell, List.getElem?_eq_getElem (by simp at hj; omega)]; rfl, hb.frozen _⟩) (by simpa using hi) (by simpa using h1)
  unfold sto
  exact okU_of hr (h _ (by simpa using setCells_blk vs o w cs hb ho) (by simpa using setCells_other b vs o w))

/-- A new variable. -/
theorem box_of {v : Value} (h : ∀ w', blk w' w.heap.size t v.cells.toList → Below w.heap.size w w' → w'.heap.size = w.heap.size + 1 → K (.pointer (some ⟨w.heap.size, 0, none⟩)) w') : box P t v K w := by
  unfold box
  refine okV_of (w' := w.alloc (.cells v.cells t)) (v := .pointer (some ⟨w.heap.size, 0, none⟩)) ?_ (h _ ?_ (below_of_grown (World.grownBy_alloc _ _ none) (Nat.le_refl _) (fun k hk => by cases hk)) (by simp))
  · simp [Instr.box, newVar, newRow]
  · unfold blk; rw [heap_alloc_new]
theorem alc_of {z : Value} (hz : (P.info? t).bind (·.zero) = some z) (h : ∀ w', blk w' w.heap.size t z.cells.toList → Below w.heap.size w w' → w'.heap.size = w.heap.size + 1 → K (.pointer (some ⟨w.heap.size, 0, none⟩)) w') : alc P t K w := by
  obtain ⟨i, hi, hz⟩ := Option.bind_eq_some_iff.1 hz
  unfold alc
  refine okV_of (w' := w.alloc (.cells z.cells t)) (v := .pointer (some ⟨w.heap.size, 0, none⟩)) ?_ (h _ ?_ (below_of_grown (World.grownBy_alloc _ _ none) (Nat.le_refl _) (fun k hk => by cases hk)) (by simp))
  · simp [Instr.alloc, zeroValue, typeInfo, hi, hz, newVar, newRow]
  · unfold blk; rw [heap_alloc_new]

theorem bld_of {ps : Array (Nat × Value)} {vs : List Value} (hb : P.built t ps.toList = some vs.toArray) (h : K (.agg vs.toArray) w) : bld P t ps K w := by
  unfold bld
  exact okV_of (run_build w t ps _ hb) h

/-- Where a field of a struct stands, if it has cells. -/
def fOff (P : Program) (s : TypeId) (f : Nat) : Option Nat :=
  match P.underlying s with
  | some (.struct fs) =>
    match fs[f]? with
    | some fd => match P.info? fd.type with
      | some i => match Nat.beq i.size 0 with | true => none | false => some fd.offset
      | none => none
    | none => none
  | _ => none

theorem fldA_of {f off : Nat} (hf : fOff P t f = some off) (h : K (.pointer (some ⟨b, o + off, none⟩)) w) : fldA P t (.pointer (some ⟨b, o, none⟩)) f K w := by
  unfold fOff at hf
  split at hf
  · rename_i fs hu
    split at hf
    · rename_i fd hfd
      split at hf
      · rename_i i hi
        split at hf
        · cases hf
        · rename_i h0
          cases hf
          have hs : (sizeOf fd.type).run P w = .ok i.size w := by simp [sizeOf, typeInfo, hi]
          have h0' : ¬ i.size = 0 := fun e => by rw [e] at h0; exact absurd h0 (by decide)
          unfold fldA
          refine okV_of (w' := w) ?_ h
          simp only [Instr.fieldAt, Sem.run_bind, run_underlying hu, Result.andThen_ok, hfd, Instr.sureAddr, Sem.run_pure, fieldPlace, hs, h0', if_false, add_p]
      · cases hf
    · cases hf
  · cases hf

/-- A field of a struct value. -/
def fldOf (P : Program) (s : TypeId) (f : Nat) : Option (Nat × Nat × Bool) :=
  match P.underlying s with
  | some (.struct fs) =>
    match fs[f]? with
    | some fd => match P.info? fd.type, P.underlying fd.type with
      | some i, some d => some (fd.offset, i.size, d.isRow)
      | _, _ => none
    | none => none
  | _ => none

theorem fld1 {f off n : Nat} {v : Value} (hf : fldOf P t f = some (off, n, false)) (hv : cs[off]? = some v) (h : K v w) : fld P t (.agg cs.toArray) f K w := by
  unfold fldOf at hf
  split at hf
  · rename_i fs hu
    split at hf
    · rename_i fd hfd
      split at hf
      · rename_i i d hi hd
        simp only [Option.some.injEq, Prod.mk.injEq] at hf
        obtain ⟨rfl, rfl, hr⟩ := hf
        have ha : (isAgg fd.type).run P w = .ok false w := by
          unfold isAgg
          rw [Sem.run_bind, run_underlying hd w]
          cases d <;> simp_all [TypeDesc.isRow]
        unfold fld
        refine okV_of (w' := w) ?_ h
        simp only [Instr.field, Sem.run_bind, run_underlying hu, Result.andThen_ok, hfd, asAgg, Sem.run_pure, part, ha]
        simp [hv]
      · cases hf
    · cases hf
  · cases hf

theorem fldG {f off n : Nat} {vs : List Value} (hf : fldOf P t f = some (off, n, true)) (hv : (cs.drop off).take n = vs) (h : K (.agg vs.toArray) w) : fld P t (.agg cs.toArray) f K w := by
  unfold fldOf at hf
  split at hf
  · rename_i fs hu
    split at hf
    · rename_i fd hfd
      split at hf
      · rename_i i d hi hd
        simp only [Option.some.injEq, Prod.mk.injEq] at hf
        obtain ⟨rfl, rfl, hr⟩ := hf
        have ha : (isAgg fd.type).run P w = .ok true w := by
          unfold isAgg
          rw [Sem.run_bind, run_underlying hd w]
          cases d <;> simp_all [TypeDesc.isRow]
        have hs : (sizeOf fd.type).run P w = .ok i.size w := by simp [sizeOf, typeInfo, hi]
        unfold fld
        refine okV_of (w' := w) ?_ h
        subst hv
        simp only [Instr.field, Sem.run_bind, run_underlying hu, Result.andThen_ok, hfd, asAgg, Sem.run_pure, part, ha, if_true, hs]
        congr 3
        rw [List.extract_toArray]
        simp [List.extract_eq_take_drop]
      · cases hf
    · cases hf
  · cases hf

/-- The address of an array's element. -/
theorem idxArr {e : TypeId} {n s : Nat} {k : IntKind} {i : Int} (ht : P.underlying t = some (.array n e)) (hs : ∀ w, (sizeOf e).run P w = .ok s w) (h0 : 0 ≤ i) (h1 : i < n)
    (h : K (.pointer (some ⟨b, o + i.toNat * s, none⟩)) w) : idxA P t (.pointer (some ⟨b, o, none⟩)) (.int k i) K w := by
  unfold idxA
  refine okV_of (w' := w) ?_ h
  simp only [Instr.indexAt, asIntOf, Instr.sureAddr, Sem.run_bind, Sem.run_pure, Result.andThen_ok, run_underlying ht, hs, h0, h1, and_self, if_true, add_p]

/-- The address of a row's element, of several cells. -/
theorem idxRow {e : TypeId} {n c s : Nat} {k : IntKind} {i : Int} (ht : P.underlying t = some (.slice e)) (hs : ∀ w, (sizeOf e).run P w = .ok s w) (h0 : 0 ≤ i) (h1 : i < n)
    (h : K (.pointer (some ⟨b, o + i.toNat * s, none⟩)) w) : idxA P t (.slice (some ⟨b, o, none⟩) n c) (.int k i) K w := by
  unfold idxA
  refine okV_of (w' := w) ?_ h
  simp only [Instr.indexAt, asIntOf, Instr.sureAddr, Sem.run_bind, Sem.run_pure, Result.andThen_ok, run_underlying ht, hs, h0, h1, and_self, if_true, add_p]

/-- x[:m], of whatever elements. -/
theorem slcTo {e : TypeId} {s : Nat} (ht : P.underlying t = some (.slice e)) (hs : ∀ w, (sizeOf e).run P w = .ok s w) {av : Option Addr} {n c m : Nat} {k : IntKind} (hm : m ≤ c) (h : K (.slice av m c) w) :
    slc P t (.slice av n c) none (some (.int k (m : Int))) none K w := by
  have hb : (Instr.sliceBounds true n c none (some (.int k (m : Int))) none).run P w = .ok (0, m, c) w := by
    have := run_sliceBound (P := P) w k (m : Int) c .sliceAcap (by omega) (by omega)
    simp [Instr.sliceBounds] at this ⊢
    rw [this]; simp
  unfold slc
  refine okV_of (w' := w) ?_ h
  simp only [Instr.sliceAt, Instr.slice, Sem.run_bind, Sem.run_pure, Result.andThen_ok, run_underlying ht, hs, hb]
  cases av <;> simp [Addr.add]

/-- x[:m:q]. -/
theorem slc3 {e : TypeId} {s : Nat} (ht : P.underlying t = some (.slice e)) (hs : ∀ w, (sizeOf e).run P w = .ok s w) {av : Option Addr} {n c m q : Nat} {k k' : IntKind} (hm : m ≤ q) (hq : q ≤ c) (h : K (.slice av m q) w) :
    slc P t (.slice av n c) none (some (.int k (m : Int))) (some (.int k' (q : Int))) K w := by
  have hb : (Instr.sliceBounds true n c none (some (.int k (m : Int))) (some (.int k' (q : Int)))).run P w = .ok (0, m, q) w := by
    have h1 := run_sliceBound (P := P) w k' (q : Int) c .slice3Acap (by omega) (by omega)
    have h2 := run_sliceBound (P := P) w k (m : Int) q .slice3B (by omega) (by omega)
    simp [Instr.sliceBounds] at h1 h2 ⊢
    rw [h1]; simp [h2]
  unfold slc
  refine okV_of (w' := w) ?_ h
  simp only [Instr.sliceAt, Instr.slice, Sem.run_bind, Sem.run_pure, Result.andThen_ok, run_underlying ht, hs, hb]
  cases av <;> simp [Addr.add]

/-- A slice literal, elements of several cells. -/
theorem bldSG {e : TypeId} {n s : Nat} {ps : Array (Nat × Value)} (vs : List Value) (ht : P.underlying t = some (.slice e)) (hi : (P.info? e).map (·.size) = some s) (hz : ((P.info? e).bind (·.zero)).isSome = true) (hs : 0 < s) (hn : n = vs.length) (h0 : vs.length ≠ 0)
    (h24 : n * s ≤ 16777216) (hps : ps.toList = (vs.zipIdx 0).map fun x => (x.2, x.1)) (hv : ∀ v ∈ vs, v.cells.size = s)
    (h : ∀ w', blk w' w.heap.size e (vs.flatMap fun v => v.cells.toList) → Below w.heap.size w w' → w'.heap.size = w.heap.size + 1 → K (.slice (some ⟨w.heap.size, 0, none⟩) n n) w') : bldS P t n ps K w := by
  subst hn
  obtain ⟨ie, hie, hsz⟩ : ∃ ie, P.info? e = some ie ∧ ie.size = s := by
    cases hq : P.info? e with
    | none => rw [hq] at hi; cases hi
    | some ie => rw [hq] at hi; exact ⟨ie, rfl, by simpa using hi⟩
  obtain ⟨z, hz'⟩ := Option.isSome_iff_exists.1 hz
  rw [hie] at hz'
  have hz' : ie.zero = some z := hz'
  subst hsz
  have hf := Go.Great.fill_whole hs vs ((Array.range (vs.length * ie.size)).map (z.cells[· % z.cells.size]!)) hv (by simp)
  unfold bldS
  refine okV_of (run_buildSlice (P := P) w t e vs.length ps _ ie z ht hie hz' (by omega) (by intro h; rcases Nat.mul_eq_zero.1 h with h | h <;> omega) (by rw [hps]; exact hf)) (h _ ?_ (below_of_grown (World.grownBy_alloc _ _ none) (Nat.le_refl _) (fun k hk => by cases hk)) (by simp))
  unfold blk; rw [heap_alloc_new]

/-- A function value is called. -/
theorem callV_of {f : FuncId} {first args cap all : Array Value} (he : first ++ args ++ cap = all) (h : call P f all K w) : callV P (.func (.func f) first cap) args K w := ⟨f, first, cap, rfl, by rw [he]; exact h⟩

/-- append to a row of the call's own, elements of several cells. -/
theorem app_own {e ty : TypeId} {cs : Array Bool} {base : Nat} {i : TypeInfo} {z : Value} {bytes s : Nat} (ht : P.underlying t = some (.slice e)) (hi : P.info? e = some i) (hz : i.zero = some z)
    (hsize : i.size = s) (hby : i.bytes = bytes) (hzs : z.cells.size = s) (hs0 : 0 < s)
    {av : Option Addr} {n c : Nat} {xs : List Value} (hown : w.ownsRow base e s (.slice av n c) n xs) {g q : Nat} {m c2 : Nat} {ys zs : List Value} (hy : blk w g E zs) (hyl : ys.length = m * s) (hyz : (zs.drop q).take (m * s) = ys) (h1 : ∀ u ∈ ys, u.oneCell' = true)
    (hbytes : (n + m) * bytes ≤ 140737488355328) (h63 : n + m ≤ 9223372036854775807) (hbase : base ≤ w.heap.size)
    (h : ∀ a' c' w', w'.ownsRow base e s (.slice a' (n + m) c') (n + m) (xs ++ ys) → w.grownBy w' (Value.slice av n c).ownBlock → K (.slice a' (n + m) c') w') :
    blt P .append #[t, t] ty cs #[.slice av n c, .slice (some ⟨g, q, none⟩) m c2] K w := by
  have hn : ∀ j u, ys[j]? = some u → w.cell? ((⟨g, q, none⟩ : Addr).add j) = some u := by
    intro j u hj
    rw [add_p, hy.cell]
    subst hyz
    rw [List.getElem?_take] at hj
    split at hj
    · rw [List.getElem?_drop] at hj; exact hj
    · cases hj
  obtain ⟨v', w', hr, h2, h3, _⟩ := run_append_own (P := P) w base t ty e i z s bytes ht hi hz hsize hby hzs hs0 _ n xs hown ⟨g, q, none⟩ m c2 ys hyl hn h1 (by simp only [maxLen]; omega) hbytes hbase
  obtain ⟨a', c', rfl⟩ : ∃ a' c', v' = .slice a' (n + m) c' := by
    rcases h2.2 with ⟨hv, hn⟩ | ⟨g, cap, cur, hv, _⟩
    · exact ⟨none, 0, by rw [hv, hn]⟩
    · exact ⟨_, cap, hv⟩
  exact blt_of (by rw [BigFrame.builtin_append]; simp only [Sem.run_bind, hr, Result.andThen_ok, Sem.run_pure]) (h a' c' w' h2 h3)

/-- append to a row that is full: it stays, and what comes out is a new one, or the same if nothing was put behind. -/
theorem app_full {e ty : TypeId} {bs : Array Bool} {i : TypeInfo} {z : Value} {bytes : Nat} (ht : P.underlying t = some (.slice e)) (hi : P.info? e = some i) (hz : i.zero = some z)
    (hsize : i.size = 1) (hby : i.bytes = bytes) (hzs : z.cells.size = 1)
    {av : Option Addr} {n : Nat} {xs : List Value} (hx : RV w av n n xs) {a2 : Option Addr} {m c2 : Nat} {ys : List Value} (hy : RV w a2 m c2 ys) (hbytes : (n + m) * bytes ≤ 140737488355328) (h63 : n + m ≤ 9223372036854775807)
    (h : ∀ a' c' w', ((a' = av ∧ c' = n ∧ m = 0) ∨ ∃ zs, blk w' w.heap.size e (xs ++ ys ++ zs) ∧ (n + m) + zs.length = c' ∧ a' = some ⟨w.heap.size, 0, none⟩) → Below w.heap.size w w' → K (.slice a' (n + m) c') w') :
    blt P .append #[t, t] ty bs #[.slice av n n, .slice a2 m c2] K w := by
  by_cases hm : m = 0
  · subst hm
    refine blt_of (v := .slice av (n + 0) n) (w' := w) ?_ (h av n w (.inl ⟨rfl, rfl, rfl⟩) (Below.refl _ _))
    rw [BigFrame.builtin_append]
    have hys : ys = [] := List.eq_nil_of_length_eq_zero hy.len
    cases a2 with
    | none => cases av <;> simp [Builtin.append_, run_underlying ht, sizeOf, typeInfo, hi, Builtin.lenOf, Builtin.firstCells, storeCells]
    | some ad => cases av <;> simp [Builtin.append_, run_underlying ht, sizeOf, typeInfo, hi, Builtin.lenOf, Builtin.firstCells, storeCells, loadCells, loadCellsFrom]
  obtain ⟨b2, o2, rfl⟩ := hy.some_ (by omega)
  have hnews : ∀ j u, ys[j]? = some u → w.cell? ((⟨b2, o2, none⟩ : Addr).add j) = some u := by
    intro j u hj
    have := hy.cell j u hj
    rw [add_p]; exact this
  have hnext : ∀ k c : Nat, k * bytes ≤ 140737488355328 → c < k → Builtin.nextslicecap k c * i.bytes ≤ 281474976710656 := by
    intro k c hk hc
    have h2 : Builtin.nextslicecap k c ≤ 2 * k := by
      have := nextslicecap_le (need := k) (old := c) (by omega)
      omega
    calc _ ≤ 2 * k * i.bytes := Nat.mul_le_mul_right _ h2
      _ ≤ _ := by rw [hby, Nat.mul_assoc]; omega
  have fin : ∀ (old : Nat), blk (w.drew.alloc (.cells (xs.toArray ++ ys.toArray ++ Builtin.zeroCells z.cells (grownCap w (n + m) old e - (n + m))) e)) w.heap.size e (xs ++ ys ++ (Builtin.zeroCells z.cells (grownCap w (n + m) old e - (n + m))).toList) := by
    intro old
    unfold blk
    have := heap_alloc_new w.drew (.cells (xs.toArray ++ ys.toArray ++ Builtin.zeroCells z.cells (grownCap w (n + m) old e - (n + m))) e)
    rw [show w.drew.heap.size = w.heap.size from rfl] at this
    rw [this]
    simp
  have hz2 : ∀ k, (Builtin.zeroCells z.cells k).toList.length = k := by intro k; rw [Array.length_toList, size_zeroCells, hzs]; omega
  have hbel : ∀ ob, Below w.heap.size w (w.drew.alloc ob) := fun ob => ⟨rfl, rfl, rfl, by simp, fun k hk => Below.heap_alloc w.drew _ _ hk⟩
  cases av with
  | none =>
    obtain ⟨rfl, -⟩ := hx.nil_ rfl
    have hxs : xs = [] := List.eq_nil_of_length_eq_zero hx.len
    subst hxs
    have hr := run_append_nil (P := P) w t ty e i z ht hi hz ⟨b2, o2, none⟩ m c2 ys (by rw [hsize, hy.len]; omega) hnews (by omega) (by omega) (by rw [hby]; rw [Nat.zero_add] at hbytes; omega)
    have hge := grownCap_ge w m 0 e
    have hf := fin 0
    simp only [Nat.zero_add, List.nil_append] at hf h ⊢
    have key := h (some ⟨w.heap.size, 0, none⟩) (grownCap w m 0 e) (w.drew.alloc (.cells (ys.toArray ++ Builtin.zeroCells z.cells (grownCap w m 0 e - m)) e))
      (.inr ⟨_, by simpa using hf, by rw [hz2]; omega, rfl⟩) (hbel _)
    exact blt_of (by rw [BigFrame.builtin_append]; simp only [Sem.run_bind, hr, Result.andThen_ok, Sem.run_pure]) key
  | some ad =>
    have hxc : ∀ j v, xs[j]? = some v → w.cell? (ad.add j) = some v := by
      intro j v hj
      have hlt := (List.getElem?_eq_some_iff.1 hj).1
      obtain ⟨b1, o1, hb1⟩ := hx.some_ (by have := hx.len; omega)
      cases hb1
      rw [add_p]; exact hx.cell j v hj
    have hr := run_append_grow (P := P) w t ty e i z ht hi hz ad n n xs (by rw [hsize, hx.len]; omega) hxc ⟨b2, o2, none⟩ m c2 ys (by rw [hsize, hy.len]; omega) hnews (by omega) (by omega) (hnext _ _ hbytes (by omega))
    have hge := grownCap_ge w (n + m) n e
    have key := h (some ⟨w.heap.size, 0, none⟩) (grownCap w (n + m) n e) _ (.inr ⟨_, fin n, by rw [hz2]; omega, rfl⟩) (hbel _)
    exact blt_of (by rw [BigFrame.builtin_append]; simp only [Sem.run_bind, hr, Result.andThen_ok, Sem.run_pure]) key

/-! ## In a region that draws -/
theorem hld_of {S : World → Prop} {s : KV → World → Prop} {k : Value → Prop} {v : Value} (h : ∀ w, S w → ∀ K : KV, K v w → s K w) (hk : k v) : hld S s k := ⟨v, fun w hw => h w hw _ ⟨rfl, rfl⟩, hk⟩
theorem hReg_of {b : (World → Prop) → World → Prop} (S : World → Prop) (hS : S w) (h : b S w) : hReg b w := ⟨S, hS, h⟩
end
theorem hG_t {v : Value} {want : Bool} {S : World → Prop} {s : KV → World → Prop} {k : Value → Prop} {x : Value} (hv : asB v = some want) (h : ∀ w, S w → ∀ K : KV, K x w → s K w) (hk : k x) : hG v want S s k :=
  ⟨x, fun _ w hw => h w hw _ ⟨rfl, rfl⟩, fun hh => absurd hv hh, hk⟩
theorem xG_t {v : Value} {want : Bool} {s : KV → World → Prop} {K : KV} {w : World} (hv : asB v = some want) (h : s K w) : xG v want s K w := ⟨fun _ => h, fun hh => absurd hv hh⟩
theorem asB_t {p : Prop} [Decidable p] (hp : p) : asB (.bool (decide p)) = some true := by show some (decide p) = some true; rw [decide_eq_true hp]
theorem asB_f {p : Prop} [Decidable p] (hp : ¬ p) : asB (.bool (decide p)) = some false := by show some (decide p) = some false; rw [decide_eq_false hp]
end Go.Proofs.YtnmjfakibhekmaaGreatDoor
