/- The document's audit, on: its rows as they grow and turn. -/
import Derived.Test.YtcieejlkdfdpiaaARef
import Derived.Test.YtcieejlkdfdpiaaARow
import Derived.Maps.AppendAt
namespace Go.Proofs.Ytcieejlkdfdpiaa
set_option maxRecDepth 100000
open Go.RowKit Go.ChangeMaps
section
variable {P : Program} {w w' : World} {K : KV} {t : TypeId} {g B n c s : Nat} {e : TypeId} {v : Value} {xs : List Value} {α : Type} {enc : α → List Value} {L : List α}
theorem app_at {e ty : TypeId} {cs : Array Bool} {base : Nat} {i : TypeInfo} {z : Value} {bytes s : Nat} (ht : P.underlying t = some (.slice e)) (hi : P.info? e = some i) (hz : i.zero = some z)
    (hsize : i.size = s) (hby : i.bytes = bytes) (hzs : z.cells.size = s) (hs0 : 0 < s)
    {av : Option Addr} {n c : Nat} {xs : List Value} (hown : w.ownsRow base e s (.slice av n c) n xs) {g : Nat} {m c2 : Nat} {ys : List Value} (hy : blk w g e ys) (hyl : ys.length = m * s) (h1 : ∀ u ∈ ys, u.oneCell' = true)
    (hbytes : (n + m) * bytes ≤ 140737488355328) (h63 : n + m ≤ 9223372036854775807) (hbase : base ≤ w.heap.size)
    (h : ∀ a' c' w', w'.ownsRow base e s (.slice a' (n + m) c') (n + m) (xs ++ ys) → w.grownBy w' (Value.slice av n c).ownBlock → ((Value.slice a' (n + m) c').ownBlock = (Value.slice av n c).ownBlock ∨ (Value.slice a' (n + m) c').ownBlock = some w.heap.size) → K (.slice a' (n + m) c') w') :
    blt P .append #[t, t] ty cs #[.slice av n c, .slice (some ⟨g, 0, none⟩) m c2] K w := by
  have hn : ∀ j u, ys[j]? = some u → w.cell? ((⟨g, 0, none⟩ : Addr).add j) = some u := by
    intro j u hj
    rw [add_p, hy.cell, Nat.zero_add]
    exact hj
  obtain ⟨v', w', hr, h2, h3, _, h5⟩ := run_append_own_at (P := P) w base t ty e i z s bytes ht hi hz hsize hby hzs hs0 _ n xs hown ⟨g, 0, none⟩ m c2 ys hyl hn h1 (by simp only [maxLen]; omega) hbytes hbase
  obtain ⟨a', c', rfl⟩ : ∃ a' c', v' = .slice a' (n + m) c' := by
    rcases h2.2 with ⟨hv, hn⟩ | ⟨g, cap, cur, hv, _⟩
    · exact ⟨none, 0, by rw [hv, hn]⟩
    · exact ⟨_, cap, hv⟩
  exact blt_of (by rw [BigFrame.builtin_append]; simp only [Sem.run_bind, hr, Result.andThen_ok, Sem.run_pure]) (h a' c' w' h2 h3 h5)
/-- A row of the call's own, opened. -/
structure Opn (w : World) (B : Nat) (e : TypeId) (s n c g : Nat) (cur : List Value) (xs : List Value) : Prop where
  blk : blk w g e cur
  lo : B ≤ g
  nc : n ≤ c
  cm : c ≤ maxLen
  len : cur.length = c * s
  take : cur.take (n * s) = xs
  xl : xs.length = n * s
theorem own_open {a : Option Addr} (hr : w.ownsRow B e s (.slice a n c) n xs) (h0 : 0 < n) : ∃ g cur, a = some ⟨g, 0, none⟩ ∧ Opn w B e s n c g cur xs := by
  rcases hr.2 with ⟨_, hz⟩ | ⟨g, cap, cur, hv, hg, hh, hn, hcm, hsz2, htk⟩
  · omega
  simp only [Value.slice.injEq] at hv
  obtain ⟨rfl, _, rfl⟩ := hv
  exact ⟨g, cur.toList, rfl, hh, hg, hn, hcm, by simpa using hsz2, htk, hr.1⟩
theorem Opn.own {cur : List Value} (h : Opn w B e s n c g cur xs) : w.ownsRow B e s (.slice (some ⟨g, 0, none⟩) n c) n xs :=
  ⟨h.xl, .inr ⟨g, c, cur.toArray, rfl, h.lo, h.blk, h.nc, h.cm, by simpa using h.len, by simpa using h.take⟩⟩
theorem flat_len (hs : ∀ x, (enc x).length = s) : ∀ L : List α, (L.flatMap enc).length = L.length * s
  | [] => by simp
  | x :: L => by rw [List.flatMap_cons, List.length_append, hs, flat_len hs L, List.length_cons, Nat.succ_mul]; omega
theorem flat_set (hs : ∀ x, (enc x).length = s) : ∀ (L : List α) (i : Nat) (x : α), i < L.length → (L.flatMap enc).take (i * s) ++ enc x ++ (L.flatMap enc).drop (i * s + s) = (L.set i x).flatMap enc
  | [], i, x, h => by simp at h
  | y :: L, 0, x, _ => by
    simp only [Nat.zero_mul, List.take_zero, List.nil_append, Nat.zero_add, List.set_cons_zero, List.flatMap_cons]
    rw [List.drop_append_of_le_length (by rw [hs]; exact Nat.le_refl _), List.drop_of_length_le (by rw [hs]; exact Nat.le_refl _), List.nil_append]
  | y :: L, i + 1, x, h => by
    have ih := flat_set hs L i x (by simpa using h)
    simp only [List.set_cons_succ, List.flatMap_cons]
    rw [← ih, Nat.succ_mul]
    have e1 : i * s + s = (enc y).length + i * s := by rw [hs]; omega
    have e2 : i * s + s + s = (enc y).length + (i * s + s) := by rw [hs]; omega
    rw [e2, List.drop_length_add_append, e1, List.take_length_add_append]
    simp [List.append_assoc]
/-- One element of it is written. -/
theorem Opn.set {cur : List Value} {i : Nat} {x : α} (hs : ∀ x, (enc x).length = s) (h : Opn w B e s n c g cur (L.flatMap enc)) (hl : L.length = n) (hi : i < n) (hb : Go.Proofs.Ytcieejlkdfdpiaa.blk w' g e (cur.take (i * s) ++ enc x ++ cur.drop (i * s + s))) :
    Opn w' B e s n c g (cur.take (i * s) ++ enc x ++ cur.drop (i * s + s)) ((L.set i x).flatMap enc) := by
  have h1 : (i + 1) * s ≤ n * s := Nat.mul_le_mul_right _ hi
  have h2 : n * s ≤ c * s := Nat.mul_le_mul_right _ h.nc
  rw [Nat.succ_mul] at h1
  have hl2 := h.len
  refine ⟨hb, h.lo, h.nc, h.cm, ?_, ?_, ?_⟩
  · simp only [List.length_append, List.length_take, List.length_drop, hs]; omega
  · rw [← flat_set hs L i x (by omega), ← h.take]
    rw [List.take_append, List.take_append]
    simp only [List.length_append, List.length_take, hs]
    rw [List.take_take, List.take_of_length_le (l := enc x) (by rw [hs]; omega)]
    rw [List.take_take, show min (n * s) (i * s) = i * s by omega, show min (i * s) (n * s) = i * s by omega, List.drop_take]
    congr 2
    omega
  · rw [flat_len hs, List.length_set, hl]
theorem Opn.elem {cur : List Value} {i : Nat} {x : α} (hs : ∀ x, (enc x).length = s) (h : Opn w B e s n c g cur (L.flatMap enc)) (hl : L.length = n) (hx : L[i]? = some x) : (cur.drop (i * s)).take s = enc x := by
  have hi : i < n := by rw [← hl]; exact (List.getElem?_eq_some_iff.1 hx).1
  have h1 : (i + 1) * s ≤ n * s := Nat.mul_le_mul_right _ hi
  rw [Nat.succ_mul] at h1
  have e : (cur.drop (i * s)).take s = ((cur.take (n * s)).drop (i * s)).take s := by
    rw [List.drop_take, List.take_take]; congr 1; omega
  rw [e, h.take]
  apply List.ext_getElem?
  intro j
  by_cases hj : j < s
  · rw [List.getElem?_take_of_lt hj, List.getElem?_drop, flat_at hs L i x j hx hj]
  · rw [List.getElem?_eq_none (by simp; omega), List.getElem?_eq_none (by rw [hs]; omega)]
theorem own_blk {k : Nat} (h : w.ownsRow B e s v n xs) (hk : v.ownBlock = some k) : (∃ cur, blk w k e cur) ∧ B ≤ k ∧ k < w.heap.size := by
  rcases h.2 with ⟨rfl, _⟩ | ⟨g, cap, cur, rfl, hg, hh, _⟩
  · cases hk
  · cases hk
    exact ⟨⟨cur.toList, hh⟩, hg, blk.lt (w := w) (E := e) (cs := cur.toList) hh⟩
theorem blk_ty {k : Nat} {E E' : TypeId} {cs cs' : List Value} (h : blk w k E cs) (h' : blk w k E' cs') : E = E' := by
  unfold blk at h h'; rw [h] at h'; simp only [Option.some.injEq, Obj.cells.injEq] at h'; exact h'.2.1
theorem own_ne {B' e' s' n' : Nat} {v' : Value} {xs' : List Value} (h : w.ownsRow B e s v n xs) (h' : w.ownsRow B' e' s' v' n' xs') (he : e ≠ e') : ∀ k, v.ownBlock = some k → v'.ownBlock ≠ some k := by
  intro k hk hk'
  obtain ⟨⟨c1, h1⟩, _⟩ := own_blk h hk
  obtain ⟨⟨c2, h2⟩, _⟩ := own_blk h' hk'
  exact he (blk_ty h1 h2)
end
/-- The blocks of the document's audit. -/
def RF.foot (f : RF) : List Nat := f.p :: ((f.n.1.map (·.block)).toList ++ ((f.r.1.map (·.block)).toList ++ ((f.t.1.map (·.block)).toList ++ (f.b.1.map (·.block)).toList)))
theorem ownB {a : Option Addr} {n c : Nat} : (Value.slice a n c).ownBlock = a.map (·.block) := by cases a <;> rfl
section
variable {w w' : World} {K : KV} {B : Nat} {f : RF} {S : RS} {F : List Nat}
theorem RK.ch (h : RK w B f S) (hc : Ch F w w') (hF : ∀ k ∈ f.foot, k ∉ F) : RK w' B f S := by
  have own : ∀ {E : TypeId} {s n c : Nat} {a : Option Addr} {xs : List Value}, (∀ k, a.map (·.block) = some k → k ∈ f.foot) → w.ownsRow B E s (.slice a n c) n xs → w'.ownsRow B E s (.slice a n c) n xs := by
    intro E s n c a xs hin hr
    refine own_same hr (fun k hk => ?_)
    obtain ⟨_, _, hlt⟩ := own_blk hr hk
    rw [ownB] at hk
    exact hc.block k hlt (hF k (hin k hk))
  refine ⟨h.head.ch hc (hF _ (by simp [RF.foot])), own (fun k hk => by simp [RF.foot, hk]) h.n, own (fun k hk => by simp [RF.foot, hk]) h.r, own (fun k hk => by simp [RF.foot, hk]) h.t, own (fun k hk => by simp [RF.foot, hk]) h.b, h.hp, h.tb⟩
theorem RK.below (h : RK w B f S) (hb : Below w.heap.size w w') : RK w' B f S := h.ch (Ch.of_below (F := []) hb) (by simp)
theorem RK.lt (h : RK w B f S) : ∀ k ∈ f.foot, B ≤ k ∧ k < w.heap.size := by
  have own : ∀ {E : TypeId} {s n c : Nat} {a : Option Addr} {xs : List Value} {k : Nat}, a.map (·.block) = some k → w.ownsRow B E s (.slice a n c) n xs → B ≤ k ∧ k < w.heap.size := by
    intro E s n c a xs k hk hr
    obtain ⟨_, h1, h2⟩ := own_blk hr (by rw [ownB]; exact hk)
    exact ⟨h1, h2⟩
  intro k hk
  simp only [RF.foot, List.mem_cons, List.mem_append, Option.mem_toList] at hk
  rcases hk with rfl | hk | hk | hk | hk
  · exact ⟨h.hp, h.head.lt⟩
  · exact own hk h.n
  · exact own hk h.r
  · exact own hk h.t
  · exact own hk h.b
theorem RK.new (h : RK w B f S) {k : Nat} (ho : Oth k w w') (hk : k ∉ f.foot) : RK w' B f S := h.ch (F := [k]) (Ch.of_oth ho (by simp)) (fun x hx hh => hk (by simp at hh; rw [← hh]; exact hx))
abbrev RK.hd (f : RF) (S : RS) : List Value := [.slice f.n.1 S.N.length f.n.2, .slice f.r.1 S.R.length f.r.2, .slice f.t.1 S.T.length f.t.2, .slice f.b.1 S.B.length f.b.2]
theorem ty_ne : TNd ≠ TRs ∧ TNd ≠ TTk2 ∧ TRs ≠ TTk2 ∧ TNd ≠ TRef ∧ TRs ≠ TRef ∧ TTk2 ≠ TRef := by decide
theorem own_p {E : TypeId} {s n p : Nat} {v : Value} {xs hs : List Value} (h : w.ownsRow B E s v n xs) (hh : blk w p TRef hs) (hE : E ≠ TRef) : v.ownBlock ≠ some p := by
  intro hk
  obtain ⟨⟨c, h1⟩, _⟩ := own_blk h hk
  exact hE (blk_ty h1 hh)
/-- A row that is none of those that turned. -/
theorem own_out {E : TypeId} {s n c : Nat} {a : Option Addr} {xs : List Value} (hr : w.ownsRow B E s (.slice a n c) n xs) (hc : Ch F w w') (hF : ∀ k, (Value.slice a n c).ownBlock = some k → k ∉ F) : w'.ownsRow B E s (.slice a n c) n xs := by
  refine own_same hr (fun k hk => ?_)
  obtain ⟨_, _, hlt⟩ := own_blk hr hk
  exact hc.block k hlt (hF k hk)
def Moved (w : World) (v v' : Value) : Prop := v'.ownBlock = v.ownBlock ∨ v'.ownBlock = some w.heap.size
theorem RK.newN {N' : List (Int × (Int × Int))} {a' : Option Addr} {c' : Nat} (h : RK w B f S) (hc : Ch (f.p :: (Value.slice f.n.1 S.N.length f.n.2).ownBlock.toList) w w') (hh : blk w' f.p TRef (RK.hd { f with n := (a', c') } { S with N := N' }))
    (ho : w'.ownsRow B TNd 3 (.slice a' N'.length c') N'.length (N'.flatMap rdC)) : RK w' B { f with n := (a', c') } { S with N := N' } := by
  obtain ⟨q1, q2, q3, q4, q5, q6⟩ := ty_ne
  refine ⟨hh, ho, own_out h.r hc (fun k hk => ?_), own_out h.t hc (fun k hk => ?_), own_out h.b hc (fun k hk => ?_), h.hp, h.tb⟩
  · rw [List.mem_cons, Option.mem_toList, not_or]
    exact ⟨fun e => own_p h.r h.head q5 (e ▸ hk), own_ne h.r h.n q1.symm k hk⟩
  · rw [List.mem_cons, Option.mem_toList, not_or]
    exact ⟨fun e => own_p h.t h.head q6 (e ▸ hk), own_ne h.t h.n q2.symm k hk⟩
  · rw [List.mem_cons, Option.mem_toList, not_or]
    exact ⟨fun e => own_p h.b h.head q6 (e ▸ hk), own_ne h.b h.n q2.symm k hk⟩
theorem RK.newR {N' : List (Int × Int)} {a' : Option Addr} {c' : Nat} (h : RK w B f S) (hc : Ch (f.p :: (Value.slice f.r.1 S.R.length f.r.2).ownBlock.toList) w w') (hh : blk w' f.p TRef (RK.hd { f with r := (a', c') } { S with R := N' }))
    (ho : w'.ownsRow B TRs 2 (.slice a' N'.length c') N'.length (N'.flatMap rrC)) : RK w' B { f with r := (a', c') } { S with R := N' } := by
  obtain ⟨q1, q2, q3, q4, q5, q6⟩ := ty_ne
  refine ⟨hh, own_out h.n hc (fun k hk => ?_), ho, own_out h.t hc (fun k hk => ?_), own_out h.b hc (fun k hk => ?_), h.hp, h.tb⟩
  · rw [List.mem_cons, Option.mem_toList, not_or]
    exact ⟨fun e => own_p h.n h.head q4 (e ▸ hk), own_ne h.n h.r q1 k hk⟩
  · rw [List.mem_cons, Option.mem_toList, not_or]
    exact ⟨fun e => own_p h.t h.head q6 (e ▸ hk), own_ne h.t h.r q3.symm k hk⟩
  · rw [List.mem_cons, Option.mem_toList, not_or]
    exact ⟨fun e => own_p h.b h.head q6 (e ▸ hk), own_ne h.b h.r q3.symm k hk⟩
theorem RK.newT {N' : List ((Int × Int) × (Int × Int) × Bool)} {a' : Option Addr} {c' : Nat} (h : RK w B f S) (hc : Ch (f.p :: (Value.slice f.t.1 S.T.length f.t.2).ownBlock.toList) w w') (hh : blk w' f.p TRef (RK.hd { f with t := (a', c') } { S with T := N' }))
    (ho : w'.ownsRow B TTk2 5 (.slice a' N'.length c') N'.length (N'.flatMap rtC)) (hm : (Value.slice a' N'.length c').ownBlock = (Value.slice f.t.1 S.T.length f.t.2).ownBlock ∨ (Value.slice a' N'.length c').ownBlock = some w.heap.size) : RK w' B { f with t := (a', c') } { S with T := N' } := by
  obtain ⟨q1, q2, q3, q4, q5, q6⟩ := ty_ne
  refine ⟨hh, own_out h.n hc (fun k hk => ?_), own_out h.r hc (fun k hk => ?_), ho, own_out h.b hc (fun k hk => ?_), h.hp, fun k hk hk2 => ?_⟩
  · rw [List.mem_cons, Option.mem_toList, not_or]
    exact ⟨fun e => own_p h.n h.head q4 (e ▸ hk), own_ne h.n h.t q2 k hk⟩
  · rw [List.mem_cons, Option.mem_toList, not_or]
    exact ⟨fun e => own_p h.r h.head q5 (e ▸ hk), own_ne h.r h.t q3 k hk⟩
  · rw [List.mem_cons, Option.mem_toList, not_or]
    exact ⟨fun e => own_p h.b h.head q6 (e ▸ hk), fun e => h.tb k e hk⟩
  · rcases hm with e | e
    · exact h.tb k (e ▸ hk) hk2
    · have := (own_blk h.b hk2).2.2
      rw [hk] at e
      simp only [Option.some.injEq] at e
      omega
theorem RK.newB {N' : List (Int × Int)} {a' : Option Addr} {c' : Nat} (h : RK w B f S) (hc : Ch (f.p :: (Value.slice f.b.1 S.B.length f.b.2).ownBlock.toList) w w') (hh : blk w' f.p TRef (RK.hd { f with b := (a', c') } { S with B := N' }))
    (ho : w'.ownsRow B TTk2 5 (.slice a' N'.length c') N'.length (N'.flatMap rbC)) (hm : (Value.slice a' N'.length c').ownBlock = (Value.slice f.b.1 S.B.length f.b.2).ownBlock ∨ (Value.slice a' N'.length c').ownBlock = some w.heap.size) : RK w' B { f with b := (a', c') } { S with B := N' } := by
  obtain ⟨q1, q2, q3, q4, q5, q6⟩ := ty_ne
  refine ⟨hh, own_out h.n hc (fun k hk => ?_), own_out h.r hc (fun k hk => ?_), own_out h.t hc (fun k hk => ?_), ho, h.hp, fun k hk hk2 => ?_⟩
  · rw [List.mem_cons, Option.mem_toList, not_or]
    exact ⟨fun e => own_p h.n h.head q4 (e ▸ hk), own_ne h.n h.b q2 k hk⟩
  · rw [List.mem_cons, Option.mem_toList, not_or]
    exact ⟨fun e => own_p h.r h.head q5 (e ▸ hk), own_ne h.r h.b q3 k hk⟩
  · rw [List.mem_cons, Option.mem_toList, not_or]
    exact ⟨fun e => own_p h.t h.head q6 (e ▸ hk), fun e => h.tb k hk e⟩
  · rcases hm with e | e
    · exact h.tb k hk (e ▸ hk2)
    · have := (own_blk h.t hk).2.2
      rw [hk2] at e
      simp only [Option.some.injEq] at e
      omega
/-- An element of a row was written. -/
theorem RK.setN {N' : List (Int × (Int × Int))} {g : Nat} {cur : List Value} (h : RK w B f S) (ha : f.n.1 = some ⟨g, 0, none⟩) (ho : Oth g w w') (hl : N'.length = S.N.length) (hn : Opn w' B TNd 3 S.N.length f.n.2 g cur (N'.flatMap rdC)) : RK w' B f { S with N := N' } := by
  have hc : Ch (f.p :: (Value.slice f.n.1 S.N.length f.n.2).ownBlock.toList) w w' := Ch.of_oth ho (by rw [ha]; simp [Value.ownBlock])
  have hg : g ≠ f.p := fun e => own_p h.n h.head ty_ne.2.2.2.1 (by rw [ha, ← e]; rfl)
  have := h.newN (N' := N') (a' := f.n.1) (c' := f.n.2) hc (by have := ho.blk h.head (fun e => hg e.symm); rw [RK.hd]; simp only [hl]; exact this) (by rw [hl, ha]; exact hn.own)
  exact this
theorem RK.setT {N' : List ((Int × Int) × (Int × Int) × Bool)} {g : Nat} {cur : List Value} (h : RK w B f S) (ha : f.t.1 = some ⟨g, 0, none⟩) (ho : Oth g w w') (hl : N'.length = S.T.length) (hn : Opn w' B TTk2 5 S.T.length f.t.2 g cur (N'.flatMap rtC)) : RK w' B f { S with T := N' } := by
  have hc : Ch (f.p :: (Value.slice f.t.1 S.T.length f.t.2).ownBlock.toList) w w' := Ch.of_oth ho (by rw [ha]; simp [Value.ownBlock])
  have hg : g ≠ f.p := fun e => own_p h.t h.head ty_ne.2.2.2.2.2 (by rw [ha, ← e]; rfl)
  have := h.newT (N' := N') (a' := f.t.1) (c' := f.t.2) hc (by have := ho.blk h.head (fun e => hg e.symm); rw [RK.hd]; simp only [hl]; exact this) (by rw [hl, ha]; exact hn.own) (.inl (by rw [ownB, ownB]))
  exact this
end
attribute [local irreducible] bin un conv call callV blt slc fldA fld idxA idx lkp mUpd mEnt eSt rng nxt ent ext alc box bld bldS ld sto nilC mkMap mkS ifc pick rdy wts gsel sti cond retM Gives cCode cGrp cSeq cOp
section
variable {w : World} {K : KV} {B : Nat}
theorem info_nd : (Try.prog.info? TNd).map (fun i => (i.zero, i.size, i.bytes)) = some (some (.agg #[.int .u64 0, .int .u64 0, .int .i64 0]), 3, 24) := by kernel_rfl
theorem info_rs : (Try.prog.info? TRs).map (fun i => (i.zero, i.size, i.bytes)) = some (some (.agg #[.int .u64 0, .int .i64 0]), 2, 16) := by kernel_rfl
theorem info_tk2 : (Try.prog.info? TTk2).map (fun i => (i.zero, i.size, i.bytes)) = some (some (.agg #[.int .i64 0, .int .u64 0, .int .u64 0, .int .i64 0, .bool false]), 5, 40) := by kernel_rfl
/-- One more is put at the end of a row, and the row into the audit. -/
theorem tail_c {t e : TypeId} {zs : Array Value} {bytes s j p : Nat} {ys : List Value} {S : World → Prop} {hcs xs : List Value} {a : Option Addr} {n c : Nat} {K2 : Value → Value → Value → Value → World → Prop} (ht : Try.prog.underlying t = some (.slice e))
    (hinfo : (Try.prog.info? e).map (fun i => (i.zero, i.size, i.bytes)) = some (some (.agg zs), s, bytes)) (hzs : zs.size = s) (hs0 : 0 < s) (hs24 : s ≤ 5) (hby : bytes ≤ 1000) (hst : ∀ w, (sizeOf t).run Try.prog w = .ok 1 w) (hf : fOff Try.prog TRef j = some j)
    (hyl : ys.length = s) (hy1 : ∀ u ∈ ys, u.oneCell' = true) (hown : w.ownsRow B e s (.slice a n c) n xs) (hB : B ≤ w.heap.size) (hn : n ≤ 2000) (hh : blk w p TRef hcs) (hj : j < hcs.length) (hne : e ≠ TRef) (hS : ∀ w', Below w.heap.size w w' → S w')
    (h : ∀ a' c' w' u r u1 u2, w'.ownsRow B e s (.slice a' (n + 1) c') (n + 1) (xs ++ ys) → blk w' p TRef (hcs.set j (.slice a' (n + 1) c')) → Ch (p :: (Value.slice a n c).ownBlock.toList) w w' →
      ((Value.slice a' (n + 1) c').ownBlock = (Value.slice a n c).ownBlock ∨ ∀ k, (Value.slice a' (n + 1) c').ownBlock = some k → w.heap.size ≤ k) → K2 u r u1 u2 w') :
    bldS Try.prog t 1 #[(0, .agg ys.toArray)] (fun u w => hSub S (fun S w => blt Try.prog .append #[t, t] t #[false, false] #[.slice a n c, u] (fun r w => hReg (fun S w =>
      hld S (fun k w => nilC (ptr p) k w) (fun u1 => hld S (fun k w => fldA Try.prog TRef u1 j k w) (fun u2 => sto Try.prog t u2 r (fun _t w => K2 u r u1 u2 w) w))) w) w) w) w := by
  obtain ⟨i, hi, hz, hsz, hbyt⟩ := info_parts hinfo
  refine bldSG (vs := [.agg ys.toArray]) ht (s := s) (by rw [hi]; simp [hsz]) (by rw [hi]; simp [hz]) hs0 rfl (by simp) (by omega) (by simp) (by simp [Value.cells, hyl]) ?_
  intro w7 hb7 b7 s7
  have hb7 : blk w7 w.heap.size e ys := by
    have e1 : ([Value.agg ys.toArray].flatMap fun v => v.cells.toList) = ys := by simp [Value.cells]
    rw [e1] at hb7; exact hb7
  refine hSub_same (hS w7 b7) ?_
  have ho7 := own_bel hown b7
  have hh7 := below_blk b7 hh hh.lt
  refine app_at (s := s) (m := 1) ht hi hz hsz hbyt (by simp [Value.cells, hzs]) hs0 ho7 hb7 (by omega) hy1 ?_ (by omega) (by omega) ?_
  · have : (n + 1) * bytes ≤ 2001 * 1000 := Nat.mul_le_mul (by omega) hby
    omega
  intro a' c' w8 ho8 hg8 hm8
  have hp7 : (Value.slice a n c).ownBlock ≠ some p := own_p ho7 hh7 hne
  have hh8 : blk w8 p TRef hcs := by
    unfold blk; rw [hg8.block p hh7.lt (fun e => hp7 e.symm)]; exact hh7
  refine hReg_of (fun _ => True) trivial ?_
  refine hld_of (fun x hx K hK => nilC_p hK) ?_
  refine hld_of (fun x hx K hK => fldA_of hf hK) ?_
  rw [Nat.zero_add]
  refine sto1 hst hh8 hj rfl ?_
  intro w9 hh9 o9
  have hp8 : (Value.slice a' (n + 1) c').ownBlock ≠ some p := own_p ho8 hh8 hne
  refine h a' c' w9 _ _ _ _ (own_same ho8 fun k hk => o9.other k (fun e => hp8 (by rw [← e]; exact hk))) hh9 ?_ ?_
  · have c1 : Ch (p :: (Value.slice a n c).ownBlock.toList) w w7 := Ch.of_below b7
    have c2 : Ch (p :: (Value.slice a n c).ownBlock.toList) w7 w8 := (Ch.of_grown hg8).mono (fun x hx => List.mem_cons_of_mem _ hx)
    have c3 : Ch (p :: (Value.slice a n c).ownBlock.toList) w8 w9 := Ch.of_oth o9 (by simp)
    exact (c1.trans c2 (fun x hx => .inl hx)).trans c3 (fun x hx => .inl hx)
  · rcases hm8 with hm8 | hm8
    · exact .inl hm8
    · refine .inr fun k hk => ?_
      rw [hm8] at hk
      simp only [Option.some.injEq] at hk
      omega
end
end Go.Proofs.Ytcieejlkdfdpiaa
