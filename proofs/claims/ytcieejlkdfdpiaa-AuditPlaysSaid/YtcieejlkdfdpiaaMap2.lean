/- Maps, on: m[k] += v; ranging over a map. Nothing of the program is named here. -/
import Derived.Test.YtcieejlkdfdpiaaMap
namespace Go.Proofs.Ytcieejlkdfdpiaa
set_option maxRecDepth 100000
open Go.RowKit Go.ChangeMaps Go.MapKept

theorem nodup_len {κ : Type} [DecidableEq κ] : ∀ {l l' : List κ}, l.Nodup → (∀ x ∈ l, x ∈ l') → l.length ≤ l'.length
  | [], _, _, _ => by simp
  | x :: l, l', hn, hs => by
    have hx : x ∈ l' := hs x (by simp)
    simp only [List.nodup_cons] at hn
    have := nodup_len (l := l) (l' := l'.erase x) hn.2 fun y hy => by
      have hyx : y ≠ x := by rintro rfl; exact hn.1 hy
      exact (List.mem_erase_of_ne hyx).2 (hs y (by simp [hy]))
    rw [List.length_erase_of_mem hx] at this
    have hp := List.length_pos_of_mem hx
    simp only [List.length_cons]; omega

section
variable {κ ν : Type}
/-- Block b is the map m, and the entry of the stamp s is that of x. -/
def MS (kv : κ → Value) (vv : ν → Value) (w : World) (b : Nat) (m : List (κ × ν)) (x : κ) (s : Nat) : Prop :=
  ∃ es clock, MBs kv vv w b m es clock ∧ ∃ (i : Nat) (e : MapEntry) (v : ν), es.toList[i]? = some e ∧ e.born = s ∧ m[i]? = some (x, v)
variable {kv : κ → Value} {vv : ν → Value} {w w' : World} {b r : Nat} {m : List (κ × ν)} {x : κ} {s : Nat}
theorem MS.mb (h : MS kv vv w b m x s) : MB kv vv w b m := by obtain ⟨es, c, h, _⟩ := h; exact ⟨es, c, h⟩
theorem MS.kept (h : MS kv vv w b m x s) (hb : w'.heap[b]? = w.heap[b]?) : MS kv vv w' b m x s := by
  obtain ⟨es, c, h, r⟩ := h
  exact ⟨es, c, ⟨hb.trans h.heap, h.keys, h.vals, h.nodup, h.born, h.old⟩, r⟩
theorem MS.below (h : MS kv vv w b m x s) (hb : Below w.heap.size w w') : MS kv vv w' b m x s := h.kept (hb.block b h.mb.lt)
theorem MS.oth {g : Nat} (h : MS kv vv w b m x s) (ho : Oth g w w') (hne : b ≠ g) : MS kv vv w' b m x s := h.kept (ho.other b hne)

/-- A range over the map m in block b is under way, its iterator in block r: the keys of done have come. -/
def IT (kv : κ → Value) (vv : ν → Value) (w : World) (r b : Nat) (m : List (κ × ν)) (done : List κ) : Prop :=
  ∃ es clock since seen c0, MBs kv vv w b m es clock ∧ w.heap[r]? = some (.mapIter (some b) since seen c0) ∧ (∀ e ∈ es.toList, e.born < since) ∧ since ≤ c0 ∧ since ≤ clock ∧
    (∀ (i : Nat) (e : MapEntry) (p : κ × ν), es.toList[i]? = some e → m[i]? = some p → (seen.contains e.born = true ↔ p.1 ∈ done)) ∧ done.Nodup ∧ ∀ x ∈ done, x ∈ m.map (·.1)
variable {done : List κ}
theorem IT.kept (h : IT kv vv w r b m done) (hb : w'.heap[b]? = w.heap[b]?) (hr : w'.heap[r]? = w.heap[r]?) : IT kv vv w' r b m done := by
  obtain ⟨es, c, since, seen, c0, h1, h2, rest⟩ := h
  exact ⟨es, c, since, seen, c0, ⟨hb.trans h1.heap, h1.keys, h1.vals, h1.nodup, h1.born, h1.old⟩, hr.trans h2, rest⟩
theorem IT.lt (h : IT kv vv w r b m done) : r < w.heap.size ∧ b < w.heap.size := by
  obtain ⟨es, c, since, seen, c0, h1, h2, _⟩ := h
  exact ⟨(Array.getElem?_eq_some_iff.1 h2).1, (Array.getElem?_eq_some_iff.1 h1.heap).1⟩
theorem IT.below (h : IT kv vv w r b m done) (hb : Below w.heap.size w w') : IT kv vv w' r b m done := h.kept (hb.block b h.lt.2) (hb.block r h.lt.1)
theorem IT.keep {T : List TypeId} {B : Nat} (h : IT kv vv w r b m done) (hk : Keep T B w w') : IT kv vv w' r b m done := by
  obtain ⟨es, c, since, seen, c0, h1, h2, rest⟩ := h
  have e1 := hk.block _ _ h1.heap (.inr fun cs E z e => by cases e)
  have e2 := hk.block _ _ h2 (.inr fun cs E z e => by cases e)
  exact ⟨es, c, since, seen, c0, ⟨e1, h1.keys, h1.vals, h1.nodup, h1.born, h1.old⟩, e2, rest⟩
theorem IT.mb (h : IT kv vv w r b m done) : MB kv vv w b m := by obtain ⟨es, c, since, seen, c0, h1, _⟩ := h; exact ⟨es, c, h1⟩
theorem IT.nodup (h : IT kv vv w r b m done) : done.Nodup ∧ (m.map (·.1)).Nodup ∧ ∀ x ∈ done, x ∈ m.map (·.1) := by
  obtain ⟨es, c, since, seen, c0, h1, _, _, _, _, _, h2, h3⟩ := h
  exact ⟨h2, h1.nodup, h3⟩
/-- The entry that came last from the iterator in block r. -/
def EN (kv : κ → Value) (vv : ν → Value) (w : World) (r b : Nat) (x : κ) (v : ν) : Prop :=
  ∃ (es : Array MapEntry) (clock since : Nat) (seen : Array Nat) (e : MapEntry), w.heap[b]? = some (.map es clock) ∧ w.heap[r]? = some (.mapIter (some b) since (seen.push e.born) clock) ∧ e ∈ es.toList ∧ (es.toList.map (·.born)).Nodup ∧ e.key = kv x ∧ e.val = vv v
variable {P : Program} {K : KV} {t k e : TypeId}
theorem ent_of {x : κ} {v : ν} (h : EN kv vv w r b x v) (hK : K (.tuple #[kv x, vv v]) w) : ent P (.pointer (some ⟨r, 0, none⟩)) K w := by
  obtain ⟨es, c, since, seen, e, hb, hr, he, hn, ek, ev⟩ := h
  unfold ent
  rw [← ek, ← ev] at hK
  exact okV_of (run_entry_at (P := P) w r b since seen es c e hr hb he hn) hK
theorem rng_of (ht : P.underlying t = some (.map k e)) (hm : MB kv vv w b m) (h : ∀ w', IT kv vv w' w.heap.size b m [] → Below w.heap.size w w' → w'.heap.size = w.heap.size + 1 → K (.pointer (some ⟨w.heap.size, 0, none⟩)) w') : rng P t (.map (some b)) K w := by
  have hlt := hm.lt
  obtain ⟨es, c, hm⟩ := hm
  unfold rng
  have hb : Below w.heap.size w (w.alloc (.mapIter (some b) c #[] c)) := below_of_grown (World.grownBy_alloc _ _ none) (Nat.le_refl _) (fun k hk => by cases hk)
  refine okV_of (run_range_map w t k e b es c ht hm.heap) (h _ ⟨es, c, c, #[], c, ⟨?_, hm.keys, hm.vals, hm.nodup, hm.born, hm.old⟩, heap_alloc_new w _, hm.old, Nat.le_refl _, Nat.le_refl _, fun i e p he hp => by simp, by simp, by simp⟩ hb (by simp))
  rw [hb.block b hlt]; exact hm.heap
/-- A range over no map. -/
theorem rng_nil (ht : P.underlying t = some (.map k e)) (h : ∀ w', w'.heap[w.heap.size]? = some (.mapIter none 0 #[] 0) → Below w.heap.size w w' → K (.pointer (some ⟨w.heap.size, 0, none⟩)) w') : rng P t (.map none) K w := by
  unfold rng
  refine okV_of (w' := w.alloc (.mapIter none 0 #[] 0)) (v := .pointer (some ⟨w.heap.size, 0, none⟩)) (by simp [Instr.range, run_underlying ht]) (h _ (heap_alloc_new w _) (below_of_grown (World.grownBy_alloc _ _ none) (Nat.le_refl _) (fun k hk => by cases hk)))
theorem nxt_nil {ty : TypeId} (hr : w.heap[r]? = some (.mapIter none 0 #[] 0)) (h : K (.tuple #[.bool false]) w) : nxt P (.pointer (some ⟨r, 0, none⟩)) false ty K w := by
  unfold nxt
  exact okV_of (w' := w) (v := .tuple #[.bool false]) (by simp [Instr.next, getObj, Sem.run, hr]) h
/-- How many entries are still to come. -/
def rleft (w : World) (b r : Nat) : Nat :=
  match w.heap[b]?, w.heap[r]? with
  | some (.map es _), some (.mapIter _ _ seen _) => (leftOf es seen).size
  | _, _ => 0
theorem rleft_kept {w w' : World} {b r : Nat} (hb : w'.heap[b]? = w.heap[b]?) (hr : w'.heap[r]? = w.heap[r]?) : rleft w' b r = rleft w b r := by unfold rleft; rw [hb, hr]
theorem rleft_below {w w' : World} (hi : IT kv vv w r b m done) (hb : Below w.heap.size w w') : rleft w' b r = rleft w b r := rleft_kept (hb.block b hi.lt.2) (hb.block r hi.lt.1)
theorem filter_lt {α : Type} {p q : α → Bool} : ∀ {l : List α} {e : α}, e ∈ l → p e = true → q e = false → (∀ x, q x = true → p x = true) → (l.filter q).length < (l.filter p).length
  | a :: l, e, he, hp, hq, hs => by
    have le : ∀ l : List α, (l.filter q).length ≤ (l.filter p).length := by
      intro l
      induction l with
      | nil => simp
      | cons x l ih =>
        by_cases hx : q x = true
        · rw [List.filter_cons_of_pos hx, List.filter_cons_of_pos (hs x hx)]; simpa using ih
        · rw [List.filter_cons_of_neg hx]
          by_cases hy : p x = true
          · rw [List.filter_cons_of_pos hy]; simp only [List.length_cons]; omega
          · rw [List.filter_cons_of_neg hy]; exact ih
    rcases List.mem_cons.1 he with rfl | he
    · rw [List.filter_cons_of_neg (by simp [hq]), List.filter_cons_of_pos hp]
      have := le l
      simp only [List.length_cons]; omega
    · have ih := filter_lt he hp hq hs
      by_cases hx : q a = true
      · rw [List.filter_cons_of_pos hx, List.filter_cons_of_pos (hs a hx)]; simpa using ih
      · rw [List.filter_cons_of_neg hx]
        by_cases hy : p a = true
        · rw [List.filter_cons_of_pos hy]; simp only [List.length_cons]; omega
        · rw [List.filter_cons_of_neg hy]; exact ih
/-- The next entry, whichever it is. -/
theorem nxt_of {ty : TypeId} (hi : IT kv vv w r b m done) (hne : r ≠ b) (h0 : (∀ x ∈ m.map (·.1), x ∈ done) → K (.tuple #[.bool false]) w)
    (h1 : ∀ (x : κ) (v : ν) (w' : World), (x, v) ∈ m → x ∉ done → IT kv vv w' r b m (done ++ [x]) → EN kv vv w' r b x v → Oth r w w' → rleft w' b r < rleft w b r → K (.tuple #[.bool true, kv x, vv v]) w') : nxt P (.pointer (some ⟨r, 0, none⟩)) false ty K w := by
  obtain ⟨es, c, since, seen, c0, hm, hr, hold, hsc, hsk, hrel, hnd, hsub⟩ := hi
  unfold nxt
  rcases run_next_at (P := P) w ty r b since c0 seen es c hr hm.heap hold hsc with ⟨hz, hrun⟩ | ⟨e1, he1, w1, hw1, hrun⟩
  · refine okV_of hrun (h0 fun x hx => ?_)
    obtain ⟨p, hp, rfl⟩ := List.mem_map.1 hx
    obtain ⟨i, hi, rfl⟩ := List.getElem_of_mem hp
    have hlen := hm.len
    have hi2 : i < es.toList.length := by simp; omega
    refine (hrel i es.toList[i] m[i] (List.getElem?_eq_getElem hi2) (List.getElem?_eq_getElem hi)).1 ?_
    have hemp : leftOf es seen = #[] := Array.eq_empty_of_size_eq_zero hz
    unfold leftOf at hemp
    rw [Array.filter_eq_empty_iff] at hemp
    have := hemp es.toList[i] (by simp)
    simpa using this
  · have hmem : e1 ∈ es.toList ∧ seen.contains e1.born = false := by
      unfold leftOf at he1
      simp at he1
      exact ⟨by simpa using he1.1, by simpa using he1.2⟩
    obtain ⟨i, hi, rfl⟩ := List.getElem_of_mem hmem.1
    obtain ⟨p, hp, ek, ev⟩ := hm.get (List.getElem?_eq_getElem hi)
    obtain ⟨x, v⟩ := p
    have hxd : x ∉ done := fun hx => by
      have := (hrel i _ _ (List.getElem?_eq_getElem hi) hp).2 hx
      rw [this] at hmem
      exact absurd hmem.2 (by simp)
    have hr1 : w1.heap[r]? = some (.mapIter (some b) since seen c0) := by rcases hw1 with rfl | rfl <;> exact hr
    have ho : Oth r w1 (setBlock w1 r (.mapIter (some b) since (seen.push es.toList[i].born) c)) := by
      refine ⟨rfl, rfl, rfl, by simp [setBlock], fun j hj => ?_⟩
      simp only [setBlock]
      rw [Array.getElem?_setIfInBounds_ne (fun h => hj h.symm)]
    rw [ek, ev] at hrun
    refine okV_of hrun (h1 x v _ (List.mem_of_getElem? hp) hxd ⟨es, c, since, seen.push es.toList[i].born, c, ⟨?_, hm.keys, hm.vals, hm.nodup, hm.born, hm.old⟩, ?_, hold, hsk, hsk, ?_, ?_, ?_⟩ ⟨es, c, since, seen, es.toList[i], ?_, ?_, List.getElem_mem hi, hm.born.imp (fun h => Nat.ne_of_lt h), ek, ev⟩ ?_ ?_)
    · rw [ho.other b (fun h => hne h.symm)]
      rcases hw1 with rfl | rfl <;> exact hm.heap
    · simp only [setBlock]
      rw [Array.getElem?_setIfInBounds_self_of_lt (Array.getElem?_eq_some_iff.1 hr1).1]
    · intro j e2 p2 he2 hp2
      have hj := (List.getElem?_eq_some_iff.1 he2)
      have hjm := (List.getElem?_eq_some_iff.1 hp2)
      have him := (List.getElem?_eq_some_iff.1 hp)
      have hb := List.pairwise_iff_getElem.1 hm.born
      have hk := List.pairwise_iff_getElem.1 hm.nodup
      have hone : (e2.born = es.toList[i].born ↔ j = i) ∧ (p2.1 = x ↔ j = i) := by
        rcases Nat.lt_trichotomy j i with h | h | h
        · have a1 := hb j i (by simpa using hj.1) (by simpa using hi) h
          have a2 := hk j i (by simpa using hjm.1) (by simpa using him.1) h
          simp only [List.getElem_map, hj.2, hjm.2, him.2] at a1 a2
          exact ⟨⟨fun e => by omega, fun e => by omega⟩, ⟨fun e => absurd e a2, fun e => by omega⟩⟩
        · subst h
          rw [← hj.2]
          have : p2 = (x, v) := by rw [← hjm.2, ← him.2]
          rw [this]
          simp
        · have a1 := hb i j (by simpa using hi) (by simpa using hj.1) h
          have a2 := hk i j (by simpa using him.1) (by simpa using hjm.1) h
          simp only [List.getElem_map, hj.2, hjm.2, him.2] at a1 a2
          exact ⟨⟨fun e => by omega, fun e => by omega⟩, ⟨fun e => absurd e.symm a2, fun e => by omega⟩⟩
      have hr2 := hrel j e2 p2 he2 hp2
      rw [List.mem_append, List.mem_singleton, hone.2, ← hone.1, ← hr2]
      simp only [Array.contains_iff_mem, Array.mem_push]
    · rw [List.nodup_append]
      refine ⟨hnd, by simp, fun a ha b hb => ?_⟩
      simp at hb; subst hb
      rintro rfl; exact hxd ha
    · intro y hy
      rcases List.mem_append.1 hy with h | h
      · exact hsub y h
      · simp at h; subst h; exact List.mem_map.2 ⟨_, List.mem_of_getElem? hp, rfl⟩
    · rw [ho.other b (fun h => hne h.symm)]
      rcases hw1 with rfl | rfl <;> exact hm.heap
    · simp only [setBlock]
      rw [Array.getElem?_setIfInBounds_self_of_lt (Array.getElem?_eq_some_iff.1 hr1).1]
    · rcases hw1 with rfl | rfl
      · exact ho
      · exact ⟨ho.os, ho.tape, ho.output, ho.size, ho.other⟩
    · have e1 : (setBlock w1 r (.mapIter (some b) since (seen.push es.toList[i].born) c)).heap[b]? = some (.map es c) := by
        rw [ho.other b (fun h => hne h.symm)]
        rcases hw1 with rfl | rfl <;> exact hm.heap
      have e2 : (setBlock w1 r (.mapIter (some b) since (seen.push es.toList[i].born) c)).heap[r]? = some (.mapIter (some b) since (seen.push es.toList[i].born) c) := by
        simp only [setBlock]
        rw [Array.getElem?_setIfInBounds_self_of_lt (Array.getElem?_eq_some_iff.1 hr1).1]
      unfold rleft
      rw [e1, e2, hm.heap, hr]
      simp only [leftOf]
      have hs : ∀ p : MapEntry → Bool, (es.filter p).size = (es.toList.filter p).length := fun p => by rw [← Array.toList_filter, Array.length_toList]
      rw [hs, hs]
      refine filter_lt hmem.1 (by simpa using hmem.2) (by simp) (fun x hx => ?_)
      simp only [Array.contains_push, Bool.not_or, Bool.and_eq_true] at hx
      exact hx.1
end

section
variable {κ ν : Type} [DecidableEq κ] {kv : κ → Value} {vv : ν → Value} {w w' : World} {b : Nat} {m : List (κ × ν)} {P : Program} {K : KV} {t k e : TypeId}
theorem mput_new {m : List (κ × ν)} {x : κ} (h : mget m x = none) (v : ν) : mput m x v = m ++ [(x, v)] := by
  induction m with
  | nil => rfl
  | cons p m ih =>
    by_cases hp : p.1 = x
    · simp [mget, hp] at h
    · simp only [mget, hp, if_false] at h
      simp [mput, hp, ih h]
theorem mput_put {m : List (κ × ν)} {x : κ} {v u : ν} : mput (mput m x u) x v = mput m x v := by
  induction m with
  | nil => simp [mput]
  | cons p m ih =>
    by_cases hp : p.1 = x
    · simp [mput, hp]
    · simp [mput, hp, ih]
theorem mput_same {m : List (κ × ν)} {x : κ} {v : ν} (h : mget m x = some v) : mput m x v = m := by
  induction m with
  | nil => simp [mget] at h
  | cons p m ih =>
    by_cases hp : p.1 = x
    · simp only [mget, hp, if_true, Option.some.injEq] at h
      obtain ⟨a, c⟩ := p
      simp at hp h
      subst hp h
      simp [mput]
    · simp only [mget, hp, if_false] at h
      simp [mput, hp, ih h]
/-- m[k] .. = : the entry, laid if there is none. -/
theorem mEnt_of {z0 : ν} (KK : KLaw P k kv) (ht : P.underlying t = some (.map k e)) (hz : ∀ w, (zeroValue e).run P w = .ok (vv z0) w) (hm : MB kv vv w b m) {x : κ}
    (h : ∀ w' s, MS kv vv w' b (mput m x ((mget m x).getD z0)) x s → Oth b w w' → K (.tuple #[vv ((mget m x).getD z0), .int .i64 (s : Nat)]) w') : mEnt P t (.map (some b)) (kv x) K w := by
  obtain ⟨es, c, hm⟩ := hm
  unfold mEnt
  rcases hm.find KK x with ⟨h0, h1, h2⟩ | ⟨j, e0, v0, h0, h1, h2, h3, h4, h5⟩
  · rw [h0] at h
    simp only [Option.getD_none] at h
    have hput := mput_new h0 z0
    rw [hput] at h
    refine okV_of (w' := setBlock w b (.map (es.push ⟨kv x, vv z0, c⟩) (c + 1))) (v := .tuple #[vv z0, .int .i64 (c : Nat)]) (by simp [Instr.mapEntry, run_underlying ht, MapKept.run_getObj_map hm.heap, KK.chk, h1, hz, MapKept.run_setObj_map _ hm.heap, Result.andThen, setBlock, goInt]) (h _ c ⟨_, _, ⟨heap_setBlock_same hm.heap _, by simp [hm.keys], by simp [hm.vals], ?_, ?_, ?_⟩, ?_⟩ (oth_set hm.heap))
    · rw [← hput]; exact mput_nodup hm.nodup
    · rw [Array.toList_push, List.map_append, List.pairwise_append]
      refine ⟨hm.born, by simp, fun a ha c' hc' => ?_⟩
      obtain ⟨e1, he1, rfl⟩ := List.mem_map.1 ha
      simp at hc'
      subst hc'
      exact hm.old e1 he1
    · intro e1 he1
      simp only [Array.toList_push, List.mem_append, List.mem_singleton] at he1
      rcases he1 with he1 | rfl
      · exact Nat.lt_succ_of_lt (hm.old e1 he1)
      · exact Nat.lt_succ_self c
    · have hl := hm.len
      refine ⟨m.length, ⟨kv x, vv z0, c⟩, z0, ?_, rfl, ?_⟩
      · rw [Array.toList_push, List.getElem?_append_right (by simp; omega)]; simp [hl]
      · rw [List.getElem?_append_right (Nat.le_refl _)]; simp
  · rw [h0] at h
    simp only [Option.getD_some] at h
    rw [mput_same h0] at h
    have hj : es[j]? = some e0 := by rw [← Array.getElem?_toList]; exact h2
    have hst := KK.stays w x
    have hid : (es.modify j fun e => { e with key := kv x }) = es := by
      apply Array.ext'
      rw [Array.toList_modify]
      apply List.ext_getElem?
      intro i
      rw [List.getElem?_modify]
      by_cases hij : j = i
      · subst hij; rw [h2]; simp [← h3]
      · simp [hij]
    refine okV_of (w' := setBlock w b (.map es c)) (v := .tuple #[vv v0, .int .i64 (e0.born : Nat)]) (by simp [Instr.mapEntry, run_underlying ht, MapKept.run_getObj_map hm.heap, KK.chk, h1, hj, h3, hst, hid, MapKept.run_setObj_map _ hm.heap, Result.andThen, setBlock, goInt]) (h _ e0.born ⟨es, c, ⟨heap_setBlock_same hm.heap _, hm.keys, hm.vals, hm.nodup, hm.born, hm.old⟩, j, e0, v0, h2, rfl, h5⟩ (oth_set hm.heap))
theorem eSt_of {x : κ} {s : Nat} {v : ν} (hm : MS kv vv w b m x s) (h : ∀ w', MB kv vv w' b (mput m x v) → Oth b w w' → K undef w') : eSt P t (.map (some b)) (.int .i64 (s : Nat)) (vv v) K w := by
  obtain ⟨es, c, hm, j, e0, v0, h2, rfl, h5⟩ := hm
  unfold eSt
  have hj : es[j]? = some e0 := by rw [← Array.getElem?_toList]; exact h2
  have hjl := (Array.getElem?_eq_some_iff.1 hj).1
  have hfind : es.findIdx? (fun e => (e.born : Int) == (e0.born : Int)) = some j := by
    rw [Array.findIdx?_eq_some_iff_getElem]
    refine ⟨hjl, by rw [(Array.getElem?_eq_some_iff.1 hj).2]; simp, fun i hi => ?_⟩
    have hb := List.pairwise_iff_getElem.1 hm.born i j (by simp; omega) (by simp; omega) hi
    simp only [List.getElem_map, Array.getElem_toList, (Array.getElem?_eq_some_iff.1 hj).2] at hb
    simp; omega
  refine okU_of (u := ()) (w' := setBlock w b (.map (es.modify j fun e => { e with val := vv v }) c)) (by simp [Instr.entryStore, MapKept.run_getObj_map hm.heap, asInt, asIntOf, hfind, MapKept.run_setObj_map _ hm.heap, Result.andThen, setBlock]) (h _ ?_ (oth_set hm.heap))
  rw [mput_set hm.nodup h5]
  have hborn : ((es.modify j fun e => { e with val := vv v }).toList.map (·.born)) = es.toList.map (·.born) := by
    rw [Array.toList_modify]
    apply List.ext_getElem?
    intro i
    simp only [List.getElem?_map, List.getElem?_modify]
    cases hi : es.toList[i]? with
    | none => simp
    | some e1 => by_cases hij : j = i <;> simp [hij]
  have hjm := (List.getElem?_eq_some_iff.1 h5).1
  refine ⟨_, c, heap_setBlock_same hm.heap _, ?_, ?_, ?_, by rw [hborn]; exact hm.born, ?_⟩
  · rw [Array.toList_modify]
    apply List.ext_getElem?
    intro i
    have h1 := congrArg (fun l => l[i]?) hm.keys
    simp only [List.getElem?_map, List.getElem?_modify, List.getElem?_set] at h1 ⊢
    by_cases hij : j = i
    · subst hij
      rw [h2, h5] at h1
      rw [h2]
      simp at h1
      simp [hjm, h1]
    · simpa [hij] using h1
  · rw [Array.toList_modify]
    apply List.ext_getElem?
    intro i
    have h1 := congrArg (fun l => l[i]?) hm.vals
    simp only [List.getElem?_map, List.getElem?_modify, List.getElem?_set] at h1 ⊢
    by_cases hij : j = i
    · subst hij
      rw [h2]
      simp [hjm]
    · simpa [hij] using h1
  · rw [← mput_set hm.nodup h5]; exact mput_nodup hm.nodup
  · intro e1 he1
    have : e1.born ∈ es.toList.map (·.born) := by rw [← hborn]; exact List.mem_map.2 ⟨e1, he1, rfl⟩
    obtain ⟨e2, he2, hb2⟩ := List.mem_map.1 this
    rw [← hb2]; exact hm.old e2 he2
end
end Go.Proofs.Ytcieejlkdfdpiaa
