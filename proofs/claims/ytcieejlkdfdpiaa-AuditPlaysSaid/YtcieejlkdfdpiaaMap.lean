/- Maps: a block that holds a list of keys with values, and what the operations make of it. Nothing of the program is named here. -/
import Derived.Test.YtcieejlkdfdpiaaMem2
import Derived.Maps.RangeRun
import Derived.MapKept
import Derived.Laws.StructEq
namespace Go.Proofs.Ytcieejlkdfdpiaa
set_option maxRecDepth 100000
open Go.RowKit Go.ChangeMaps Go.MapKept

/-- How keys of a type are found. -/
structure KLaw (P : Program) (k : TypeId) {κ : Type} (kv : κ → Value) : Prop where
  inj : ∀ x y, kv x = kv y → x = y
  chk : ∀ w em x, (Instr.checkKey em 10000 k (kv x)).run P w = .ok () w
  find : ∀ (w : World) x (es : List MapEntry), (∀ e ∈ es, ∃ y, e.key = kv y) →
    ((Instr.findKey k (kv x) es).run P w = .ok none w ∧ ∀ e ∈ es, e.key ≠ kv x) ∨ ∃ j e, (Instr.findKey k (kv x) es).run P w = .ok (some (j, e.val)) w ∧ es[j]? = some e ∧ e.key = kv x
  stays : ∀ (w : World) x, (Instr.keyThatStays (kv x) (kv x)).run P w = .ok (kv x) w

section
variable {P : Program} {k : TypeId}
theorem int_klaw {q : IntKind} (hk : P.underlying k = some (.int q)) : KLaw P k (Value.int q) where
  inj x y h := by simpa using h
  chk w em x := by
    show (Instr.checkKey em (9999 + 1) k _).run P w = _
    rw [Instr.checkKey]; simp [run_underlying hk]
  stays w x := by
    have : Instr.sameBits 10000 (.int q x) (.int q x) = true := by unfold Instr.sameBits; simp
    unfold Instr.keyThatStays
    rw [if_pos this, Sem.run_pure]
  find w x es hes := by
    have key : ∀ (es : List MapEntry) (i : Nat), (∀ e ∈ es, ∃ y, e.key = Value.int q y) → (Instr.findNow (.int q) (.int q x) es i = some none ∧ ∀ e ∈ es, e.key ≠ .int q x) ∨ ∃ j e, Instr.findNow (.int q) (.int q x) es i = some (some (i + j, e.val)) ∧ es[j]? = some e ∧ e.key = .int q x := by
      intro es
      induction es with
      | nil => intro i _; exact .inl ⟨rfl, by simp⟩
      | cons e es ih =>
        intro i hes
        obtain ⟨y, hy⟩ := hes e (by simp)
        by_cases hxy : x = y
        · subst hxy
          exact .inr ⟨0, e, by simp [Instr.findNow, Instr.sameNow, hy], rfl, hy⟩
        · have hne : e.key ≠ .int q x := by rw [hy]; simpa using fun h => hxy h.symm
          have hb : (x == y) = false := by simpa using hxy
          rcases ih (i + 1) (fun e' he' => hes e' (by simp [he'])) with ⟨h1, h2⟩ | ⟨j, e', h1, h2, h3⟩
          · refine .inl ⟨by simp [Instr.findNow, Instr.sameNow, hy, hb, h1], fun e' he' => ?_⟩
            rcases List.mem_cons.1 he' with rfl | he'
            · exact hne
            · exact h2 e' he'
          · exact .inr ⟨j + 1, e', by simp [Instr.findNow, Instr.sameNow, hy, hb, h1]; omega, by simpa using h2, h3⟩
    rcases key es 0 hes with ⟨h1, h2⟩ | ⟨j, e, h1, h2, h3⟩
    · exact .inl ⟨by simp [Instr.findKey, run_underlying hk, h1], h2⟩
    · exact .inr ⟨j, e, by simp [Instr.findKey, run_underlying hk, h1], h2, h3⟩
/-- Keys that are structs. -/
theorem agg_klaw {κ : Type} {kv : κ → Value} (fs : Array Field) (hk : P.underlying k = some (.struct fs)) (hagg : ∀ x, ∃ cs, kv x = .agg cs) (inj : ∀ x y, kv x = kv y → x = y) (chk : ∀ w em x, (Instr.checkKey em 10000 k (kv x)).run P w = .ok () w)
    (eq : ∀ (w : World) x y, ∃ b : Bool, (Op.equal k (kv x) (kv y)).run P w = .ok b w ∧ (b = true ↔ kv x = kv y)) (same : ∀ x, Instr.sameBits 10000 (kv x) (kv x) = true) : KLaw P k kv where
  inj := inj
  chk := chk
  stays w x := by unfold Instr.keyThatStays; rw [if_pos (same x), Sem.run_pure]
  find w x es hes := by
    have key : ∀ (es : List MapEntry) (i : Nat), (∀ e ∈ es, ∃ y, e.key = kv y) → ((Instr.findAsking k (kv x) es i).run P w = .ok none w ∧ ∀ e ∈ es, e.key ≠ kv x) ∨ ∃ j e, (Instr.findAsking k (kv x) es i).run P w = .ok (some (i + j, e.val)) w ∧ es[j]? = some e ∧ e.key = kv x := by
      intro es
      induction es with
      | nil => intro i _; exact .inl ⟨by simp [Instr.findAsking], by simp⟩
      | cons e es ih =>
        intro i hes
        obtain ⟨y, hy⟩ := hes e (by simp)
        obtain ⟨b, hb, hbe⟩ := eq w x y
        cases b with
        | true =>
          have := hbe.1 rfl
          exact .inr ⟨0, e, by simp [Instr.findAsking, hy, hb], rfl, by rw [hy, this]⟩
        | false =>
          have hne : e.key ≠ kv x := by rw [hy]; intro h; exact absurd (hbe.2 h.symm) (by simp)
          rcases ih (i + 1) (fun e' he' => hes e' (by simp [he'])) with ⟨h1, h2⟩ | ⟨j, e', h1, h2, h3⟩
          · refine .inl ⟨by simp [Instr.findAsking, hy, hb, h1], fun e' he' => ?_⟩
            rcases List.mem_cons.1 he' with rfl | he'
            · exact hne
            · exact h2 e' he'
          · exact .inr ⟨j + 1, e', by simp [Instr.findAsking, hy, hb, h1]; omega, by simpa using h2, h3⟩
    have hfk : (Instr.findKey k (kv x) es).run P w = (Instr.findAsking k (kv x) es).run P w := by
      obtain ⟨cs, hcs⟩ := hagg x
      cases es with
      | nil => simp [Instr.findKey, run_underlying hk, Instr.findNow, Instr.findAsking]
      | cons e es => simp [Instr.findKey, run_underlying hk, Instr.findNow, Instr.sameNow]
    rw [hfk]
    rcases key es 0 hes with ⟨h1, h2⟩ | ⟨j, e, h1, h2, h3⟩
    · exact .inl ⟨h1, h2⟩
    · exact .inr ⟨j, e, by simpa using h1, h2, h3⟩
end

/-! ## Plain maps -/
section
variable {κ ν : Type} [DecidableEq κ]
def mget : List (κ × ν) → κ → Option ν
  | [], _ => none
  | p :: m, x => if p.1 = x then some p.2 else mget m x
def mput : List (κ × ν) → κ → ν → List (κ × ν)
  | [], x, v => [(x, v)]
  | p :: m, x, v => if p.1 = x then (x, v) :: m else p :: mput m x v
theorem mget_none {m : List (κ × ν)} {x : κ} : mget m x = none ↔ x ∉ m.map (·.1) := by
  induction m with
  | nil => simp [mget]
  | cons p m ih =>
    by_cases h : p.1 = x
    · simp [mget, h]
    · have : ¬ x = p.1 := fun e => h e.symm
      simp only [mget, h, if_false, ih, List.map_cons, List.mem_cons, this, false_or]
theorem mget_mem {m : List (κ × ν)} {x : κ} {v : ν} (h : mget m x = some v) : (x, v) ∈ m := by
  induction m with
  | nil => simp [mget] at h
  | cons p m ih =>
    by_cases hp : p.1 = x
    · simp only [mget, hp, if_true, Option.some.injEq] at h
      subst h; subst hp; simp
    · simp only [mget, hp, if_false] at h
      exact List.mem_cons_of_mem _ (ih h)
theorem mget_of_mem {m : List (κ × ν)} {x : κ} {v : ν} (hn : (m.map (·.1)).Nodup) (h : (x, v) ∈ m) : mget m x = some v := by
  induction m with
  | nil => simp at h
  | cons p m ih =>
    simp only [List.map_cons, List.nodup_cons] at hn
    rcases List.mem_cons.1 h with rfl | h
    · simp [mget]
    · have hp : ¬ p.1 = x := by
        rintro rfl
        exact hn.1 (List.mem_map.2 ⟨_, h, rfl⟩)
      simp only [mget, hp, if_false]
      exact ih hn.2 h
theorem mput_keys {m : List (κ × ν)} {x : κ} {v : ν} : (mput m x v).map (·.1) = if x ∈ m.map (·.1) then m.map (·.1) else m.map (·.1) ++ [x] := by
  induction m with
  | nil => simp [mput]
  | cons p m ih =>
    by_cases h : p.1 = x
    · simp [mput, h]
    · have hx : ¬ x = p.1 := fun e => h e.symm
      simp only [mput, h, if_false, List.map_cons, ih, List.mem_cons, hx, false_or]
      split <;> simp
theorem mput_nodup {m : List (κ × ν)} {x : κ} {v : ν} (h : (m.map (·.1)).Nodup) : ((mput m x v).map (·.1)).Nodup := by
  rw [mput_keys]
  split
  · exact h
  · rename_i hx
    rw [List.nodup_append]
    refine ⟨h, by simp, fun a ha b hb => ?_⟩
    simp at hb
    subst hb
    rintro rfl
    exact hx ha
theorem mget_put {m : List (κ × ν)} {x y : κ} {v : ν} : mget (mput m x v) y = if y = x then some v else mget m y := by
  induction m with
  | nil =>
    by_cases h : y = x
    · subst h; simp [mput, mget]
    · have : ¬ x = y := fun e => h e.symm
      simp [mput, mget, h, this]
  | cons p m ih =>
    by_cases h : p.1 = x
    · by_cases hy : y = x
      · subst hy; simp [mput, mget, h]
      · have h1 : ¬ x = y := fun e => hy e.symm
        have h2 : ¬ p.1 = y := by rw [h]; exact h1
        simp [mput, mget, h, hy, h1]
    · by_cases hpy : p.1 = y
      · have hy : ¬ y = x := fun e => h (hpy.trans e)
        simp [mput, mget, h, hpy, hy]
      · simp [mput, mget, h, hpy, ih]
theorem mput_set {m : List (κ × ν)} {x : κ} {v v0 : ν} {j : Nat} (hn : (m.map (·.1)).Nodup) (h : m[j]? = some (x, v0)) : mput m x v = m.set j (x, v) := by
  induction m generalizing j with
  | nil => simp at h
  | cons p m ih =>
    simp only [List.map_cons, List.nodup_cons] at hn
    cases j with
    | zero => simp at h; subst h; simp [mput]
    | succ j =>
      simp at h
      have hp : ¬ p.1 = x := by
        rintro rfl
        exact hn.1 (List.mem_map.2 ⟨_, List.mem_of_getElem? h, rfl⟩)
      simp [mput, hp, ih hn.2 h]
theorem mput_len {m : List (κ × ν)} {x : κ} {v : ν} : (mput m x v).length = if (mget m x).isSome then m.length else m.length + 1 := by
  induction m with
  | nil => simp [mput, mget]
  | cons p m ih =>
    by_cases h : p.1 = x
    · simp [mput, mget, h]
    · simp only [mput, mget, h, if_false, List.length_cons, ih]
      split <;> rfl
end

/-! ## A map in memory -/
section
variable {κ ν : Type}
/-- Block b is a map with the keys and values of m. -/
structure MBs (kv : κ → Value) (vv : ν → Value) (w : World) (b : Nat) (m : List (κ × ν)) (es : Array MapEntry) (clock : Nat) : Prop where
  heap : w.heap[b]? = some (.map es clock)
  keys : es.toList.map (·.key) = m.map fun p => kv p.1
  vals : es.toList.map (·.val) = m.map fun p => vv p.2
  nodup : (m.map (·.1)).Nodup
  born : (es.toList.map (·.born)).Pairwise (· < ·)
  old : ∀ e ∈ es.toList, e.born < clock
def MB (kv : κ → Value) (vv : ν → Value) (w : World) (b : Nat) (m : List (κ × ν)) : Prop := ∃ es clock, MBs kv vv w b m es clock
variable {kv : κ → Value} {vv : ν → Value} {w w' : World} {b : Nat} {m : List (κ × ν)} {es : Array MapEntry} {clock : Nat}
theorem MBs.len (h : MBs kv vv w b m es clock) : es.size = m.length := by
  have := congrArg List.length h.keys
  simpa using this
theorem MBs.get (h : MBs kv vv w b m es clock) {i : Nat} {e : MapEntry} (he : es.toList[i]? = some e) : ∃ p, m[i]? = some p ∧ e.key = kv p.1 ∧ e.val = vv p.2 := by
  have h1 := congrArg (fun l => l[i]?) h.keys
  have h2 := congrArg (fun l => l[i]?) h.vals
  simp only [List.getElem?_map, he, Option.map_some] at h1 h2
  cases hm : m[i]? with
  | none => rw [hm] at h1; simp at h1
  | some p =>
    rw [hm] at h1 h2
    simp at h1 h2
    exact ⟨p, rfl, h1, h2⟩
theorem MBs.keyed (h : MBs kv vv w b m es clock) : ∀ e ∈ es.toList, ∃ y, e.key = kv y := by
  intro e he
  obtain ⟨i, hi, rfl⟩ := List.getElem_of_mem he
  obtain ⟨p, _, h1, _⟩ := h.get (List.getElem?_eq_getElem hi)
  exact ⟨p.1, h1⟩
theorem MB.lt (h : MB kv vv w b m) : b < w.heap.size := by
  obtain ⟨es, c, h⟩ := h
  exact (Array.getElem?_eq_some_iff.1 h.heap).1
theorem MB.kept (h : MB kv vv w b m) (hb : w'.heap[b]? = w.heap[b]?) : MB kv vv w' b m := by
  obtain ⟨es, c, h⟩ := h
  exact ⟨es, c, hb.trans h.heap, h.keys, h.vals, h.nodup, h.born, h.old⟩
theorem MB.below (h : MB kv vv w b m) (hb : Below w.heap.size w w') : MB kv vv w' b m := h.kept (hb.block b h.lt)
theorem MB.keep {T : List TypeId} {B : Nat} (h : MB kv vv w b m) (hk : Keep T B w w') : MB kv vv w' b m := by
  refine h.kept ?_
  obtain ⟨es, c, hm⟩ := h
  rw [hm.heap]
  exact hk.block _ _ hm.heap (.inr fun cs E z e => by cases e)
theorem MB.oth {g : Nat} (h : MB kv vv w b m) (ho : Oth g w w') (hne : b ≠ g) : MB kv vv w' b m := h.kept (ho.other b hne)

variable {P : Program} {K : KV} {t k e : TypeId}
theorem mkMap_of {r : Option Value} (ht : P.underlying t = some (.map k e)) (hr : r = none) (kv : κ → Value) (vv : ν → Value) (h : ∀ w', MB kv vv w' w.heap.size ([] : List (κ × ν)) → Below w.heap.size w w' → w'.heap.size = w.heap.size + 1 → K (.map (some w.heap.size)) w') : mkMap P t r K w := by
  subst hr
  unfold mkMap
  refine okV_of (w' := w.alloc (.map #[] 0)) (v := .map (some w.heap.size)) (by simp [Instr.makeMap]) (h _ ⟨#[], 0, heap_alloc_new w _, rfl, rfl, by simp, by simp, by simp⟩ (below_of_grown (World.grownBy_alloc _ _ none) (Nat.le_refl _) (fun k hk => by cases hk)) (by simp))
theorem lenM {ty : TypeId} {cs : Array Bool} (ht : P.underlying t = some (.map k e)) (hm : MB kv vv w b m) (h : K (.int .i64 (m.length : Int)) w) : blt P .len #[t] ty cs #[.map (some b)] K w := by
  obtain ⟨es, c, hm⟩ := hm
  have hl := hm.len
  refine blt_of (v := .int .i64 (m.length : Int)) (w' := w) ?_ h
  rw [BigFrame.builtin_len]
  simp [Builtin.len_, run_underlying ht, MapKept.run_getObj_map hm.heap, Result.andThen, hl, goInt]
theorem oth_set {o : Obj} (hb : w.heap[b]? = some (.map es clock)) : Oth b w (setBlock w b o) :=
  ⟨rfl, rfl, rfl, by simp [setBlock], fun i hi => heap_setBlock_other hb o hi⟩
end
section
variable {κ ν : Type} [DecidableEq κ] {kv : κ → Value} {vv : ν → Value} {w w' : World} {b : Nat} {m : List (κ × ν)} {es : Array MapEntry} {clock : Nat}
variable {P : Program} {K : KV} {t k e : TypeId}
/-- What an operation finds. -/
theorem MBs.find {P : Program} {k : TypeId} (h : MBs kv vv w b m es clock) (K : KLaw P k kv) (x : κ) :
    (mget m x = none ∧ (Instr.findKey k (kv x) es.toList).run P w = .ok none w ∧ ∀ e ∈ es.toList, e.key ≠ kv x) ∨
    ∃ j e v, mget m x = some v ∧ (Instr.findKey k (kv x) es.toList).run P w = .ok (some (j, vv v)) w ∧ es.toList[j]? = some e ∧ e.key = kv x ∧ e.val = vv v ∧ m[j]? = some (x, v) := by
  rcases K.find w x es.toList h.keyed with ⟨h1, h2⟩ | ⟨j, e, h1, h2, h3⟩
  · refine .inl ⟨mget_none.2 fun hx => ?_, h1, h2⟩
    obtain ⟨p, hp, rfl⟩ := List.mem_map.1 hx
    have : kv p.1 ∈ es.toList.map (·.key) := by rw [h.keys]; exact List.mem_map.2 ⟨p, hp, rfl⟩
    obtain ⟨e, he, hk⟩ := List.mem_map.1 this
    exact h2 e he hk
  · obtain ⟨p, hp, e1, e2⟩ := h.get h2
    have hx : p.1 = x := K.inj _ _ (e1.symm.trans h3)
    obtain ⟨px, pv⟩ := p
    cases hx
    exact .inr ⟨j, e, pv, mget_of_mem h.nodup (List.mem_of_getElem? hp), by rw [← e2]; exact h1, h2, h3, e2, hp⟩

theorem lkp1 {z0 : ν} (KK : KLaw P k kv) (ht : P.underlying t = some (.map k e)) (hz : ∀ w, (zeroValue e).run P w = .ok (vv z0) w) (hm : MB kv vv w b m) {x : κ} (h : K (vv ((mget m x).getD z0)) w) : lkp P t (.map (some b)) (kv x) false K w := by
  obtain ⟨es, c, hm⟩ := hm
  unfold lkp
  rcases hm.find KK x with ⟨h0, h1, _⟩ | ⟨j, e0, v, h0, h1, _⟩
  · rw [h0] at h
    exact okV_of (w' := w) (v := vv z0) (by simp [Instr.lookup, run_underlying ht, MapKept.run_getObj_map hm.heap, KK.chk, h1, hz, Result.andThen]) h
  · rw [h0] at h
    exact okV_of (w' := w) (v := vv v) (by simp [Instr.lookup, run_underlying ht, MapKept.run_getObj_map hm.heap, KK.chk, h1, Result.andThen]) h
theorem lkp2 {z0 : ν} (KK : KLaw P k kv) (ht : P.underlying t = some (.map k e)) (hz : ∀ w, (zeroValue e).run P w = .ok (vv z0) w) (hm : MB kv vv w b m) {x : κ} (h : K (.tuple #[vv ((mget m x).getD z0), .bool (mget m x).isSome]) w) : lkp P t (.map (some b)) (kv x) true K w := by
  obtain ⟨es, c, hm⟩ := hm
  unfold lkp
  rcases hm.find KK x with ⟨h0, h1, _⟩ | ⟨j, e0, v, h0, h1, _⟩
  · rw [h0] at h
    exact okV_of (w' := w) (by simp [Instr.lookup, run_underlying ht, MapKept.run_getObj_map hm.heap, KK.chk, h1, hz, Result.andThen]) h
  · rw [h0] at h
    exact okV_of (w' := w) (by simp [Instr.lookup, run_underlying ht, MapKept.run_getObj_map hm.heap, KK.chk, h1, Result.andThen]) h
theorem mUpd_of (KK : KLaw P k kv) (ht : P.underlying t = some (.map k e)) (hm : MB kv vv w b m) {x : κ} {v : ν} (h : ∀ w', MB kv vv w' b (mput m x v) → Oth b w w' → K undef w') : mUpd P t (.map (some b)) (kv x) (vv v) K w := by
  obtain ⟨es, c, hm⟩ := hm
  unfold mUpd
  rcases hm.find KK x with ⟨h0, h1, h2⟩ | ⟨j, e0, v0, h0, h1, h2, h3, h4, h5⟩
  · refine okU_of (u := ()) (w' := setBlock w b (.map (es.push ⟨kv x, vv v, c⟩) (c + 1))) (by simp [Instr.mapUpdate, run_underlying ht, MapKept.run_getObj_map hm.heap, KK.chk, h1, MapKept.run_setObj_map _ hm.heap, Result.andThen, setBlock]) (h _ ?_ (oth_set hm.heap))
    have hx := mget_none.1 h0
    have hput : mput m x v = m ++ [(x, v)] := by
      clear h h1 h2 h0 hm
      induction m with
      | nil => rfl
      | cons p m ih =>
        simp only [List.map_cons, List.mem_cons, not_or] at hx
        have hp : ¬ p.1 = x := fun e => hx.1 e.symm
        simp [mput, hp, ih hx.2]
    rw [hput]
    refine ⟨_, _, heap_setBlock_same hm.heap _, by simp [hm.keys], by simp [hm.vals], ?_, ?_, ?_⟩
    · rw [← hput]; exact mput_nodup hm.nodup
    · rw [Array.toList_push, List.map_append, List.pairwise_append]
      refine ⟨hm.born, by simp, fun a ha c' hc' => ?_⟩
      obtain ⟨e1, he1, rfl⟩ := List.mem_map.1 ha
      simp at hc'
      subst hc'
      exact hm.old e1 he1
    · intro e1 he1
      simp only [Array.toList_push, List.mem_append, List.mem_singleton] at he1
      rcases he1 with he1 | rfl
      · exact Nat.lt_succ_of_lt (hm.old e1 he1)
      · exact Nat.lt_succ_self c
  · have hj : es[j]? = some e0 := by rw [← Array.getElem?_toList]; exact h2
    have hst := KK.stays w x
    refine okU_of (u := ()) (w' := setBlock w b (.map (es.modify j fun e => { e with key := kv x, val := vv v }) c)) (by simp [Instr.mapUpdate, run_underlying ht, MapKept.run_getObj_map hm.heap, KK.chk, h1, hj, h3, hst, MapKept.run_setObj_map _ hm.heap, Result.andThen, setBlock]) (h _ ?_ (oth_set hm.heap))
    rw [mput_set hm.nodup h5]
    have hborn : ((es.modify j fun e => { e with key := kv x, val := vv v }).toList.map (·.born)) = es.toList.map (·.born) := by
      rw [Array.toList_modify]
      apply List.ext_getElem?
      intro i
      simp only [List.getElem?_map, List.getElem?_modify]
      cases hi : es.toList[i]? with
      | none => simp
      | some e1 => by_cases hij : j = i <;> simp [hij]
    refine ⟨_, c, heap_setBlock_same hm.heap _, ?_, ?_, ?_, by rw [hborn]; exact hm.born, ?_⟩
    · rw [Array.toList_modify]
      apply List.ext_getElem?
      intro i
      have h1 := congrArg (fun l => l[i]?) hm.keys
      simp only [List.getElem?_map, List.getElem?_modify, List.getElem?_set] at h1 ⊢
      by_cases hij : j = i
      · subst hij
        rw [h2] at h1 ⊢
        have := (List.getElem?_eq_some_iff.1 h5).1
        simp [this]
      · simpa [hij] using h1
    · rw [Array.toList_modify]
      apply List.ext_getElem?
      intro i
      have h1 := congrArg (fun l => l[i]?) hm.vals
      simp only [List.getElem?_map, List.getElem?_modify, List.getElem?_set] at h1 ⊢
      by_cases hij : j = i
      · subst hij
        rw [h2] at h1 ⊢
        have := (List.getElem?_eq_some_iff.1 h5).1
        simp [this]
      · simpa [hij] using h1
    · rw [← mput_set hm.nodup h5]; exact mput_nodup hm.nodup
    · intro e1 he1
      have : e1.born ∈ es.toList.map (·.born) := by rw [← hborn]; exact List.mem_map.2 ⟨e1, he1, rfl⟩
      obtain ⟨e2, he2, hb2⟩ := List.mem_map.1 this
      rw [← hb2]; exact hm.old e2 he2
end
end Go.Proofs.Ytcieejlkdfdpiaa
