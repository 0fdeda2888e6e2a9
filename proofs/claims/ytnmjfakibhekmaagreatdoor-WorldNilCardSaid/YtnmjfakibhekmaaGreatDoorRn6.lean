/- Runs in which all is known but where blocks stand: operations that make and write. Nothing of the program is named here. -/
import Derived.Test.YtnmjfakibhekmaaGreatDoorRn5
namespace Go.Proofs.YtnmjfakibhekmaaGreatDoor
set_option maxRecDepth 100000
open Go.RowKit

/-- What is left alone: every block that the run does not hold; what it holds then it held, or it is new. -/
structure Fr (B0 : Nat) (R : Lay) (H : AH) (w : World) (R' : Lay) (H' : AH) (w' : World) : Prop where
  below : Below B0 w w'
  keep : ∀ k, k < w.heap.size → (∀ i o L, H.get i = some o → o.live = true → R i = some L → L.B ≠ k) → w'.heap[k]? = w.heap[k]?
  fresh : ∀ i o L, H'.get i = some o → o.live = true → R' i = some L → (∃ j oj Lj, H.get j = some oj ∧ oj.live = true ∧ R j = some Lj ∧ Lj.B = L.B) ∨ w.heap.size ≤ L.B
theorem Fr.refl (B0 : Nat) (R : Lay) (H : AH) (w : World) : Fr B0 R H w R H w := ⟨Below.refl _ _, fun _ _ _ => rfl, fun i o L a b c => .inl ⟨i, o, L, a, b, c, rfl⟩⟩
theorem Fr.trans {B0 : Nat} {R R' R2 : Lay} {H H' H2 : AH} {w w' w2 : World} (h : Fr B0 R H w R' H' w') (k : Fr B0 R' H' w' R2 H2 w2) : Fr B0 R H w R2 H2 w2 where
  below := h.below.trans k.below
  keep q hq hno := by
    rw [k.keep q (Nat.lt_of_lt_of_le hq h.below.size) ?_, h.keep q hq hno]
    intro i o L a b c e
    rcases h.fresh i o L a b c with ⟨j, oj, Lj, x, y, z, hz⟩ | hz
    · exact hno j oj Lj x y z (hz.trans e)
    · omega
  fresh i o L a b c := by
    rcases k.fresh i o L a b c with ⟨j, oj, Lj, x, y, z, hz⟩ | hz
    · rcases h.fresh j oj Lj x y z with ⟨j', oj', Lj', x', y', z', hz'⟩ | hz'
      · exact .inl ⟨j', oj', Lj', x', y', z', hz'.trans hz⟩
      · exact .inr (by omega)
    · exact .inr (Nat.le_trans h.below.size hz)

/-- The operation yields r and leaves H'. -/
def Yls (G : Glo) (B0 : Nat) (op : KV → World → Prop) (R : Lay) (H : AH) (r : GV) (H' : AH) (w : World) : Prop :=
  ∀ K : KV, (∀ R' v w', Lay.le R R' → r.rel R' v → Sim G B0 R' H' w' → Fr B0 R H w R' H' w' → K v w') → op K w
section
variable {P : Program} {G : Glo} {B0 : Nat} {R : Lay} {H H' : AH} {w w' : World} {t : TypeId} {x y r : GV} {u v : Value}
theorem Below.of_oth {B b : Nat} (h : Oth b w w') (hb : B ≤ b) : Below B w w' :=
  ⟨h.os, h.tape, h.output, by rw [h.size]; exact Nat.le_refl _, fun k hk => h.other k (by omega)⟩

theorem Fr.new {L : Loc} {o : AO} (h : Sim G B0 R H w) (hb : Below w.heap.size w w') (hL : w.heap.size ≤ L.B) (hn : H.n < 8192) : Fr B0 R H w (upd R H.n L) (H.new o) w' where
  below := hb.mono h.size
  keep k hk _ := hb.block k hk
  fresh i o' M hi hl hM := by
    rw [AH.get_new hn] at hi
    unfold upd at hM
    split at hi
    · rename_i e; rw [if_pos e] at hM; cases hM; exact .inr hL
    · rename_i e; rw [if_neg e] at hM; exact .inl ⟨i, o', M, hi, hl, hM, rfl⟩
theorem Fr.put {i : Nat} {o o' : AO} {L : Loc} (h : Sim G B0 R H w) (hi : H.get i = some o) (hl : o.live = true) (hL : R i = some L) (ho : Oth L.B w w') : Fr B0 R H w R (H.put i o') w' where
  below := by
    obtain ⟨M, h1, h2, h3⟩ := h.obj i o hi hl
    rw [hL] at h1; cases h1
    exact Below.of_oth ho h2
  keep k hk hno := ho.other k (fun e => hno i o L hi hl hL e.symm)
  fresh j oj M hj lj hM := by
    rw [AH.get_put (AH.get_lt hi) h.big] at hj
    split at hj
    · rename_i e; subst e; rw [hL] at hM; cases hM; exact .inl ⟨i, o, L, hi, hl, hL, rfl⟩
    · exact .inl ⟨j, oj, M, hj, lj, hM, rfl⟩

/-! ## A variable is made. -/
def zeroCs (P : Program) (t : TypeId) : Option (List CV) :=
  match (P.info? t).bind (·.zero) with
  | some z => match z.cells.toList.all (·.oneCell') with | true => some (z.cells.toList.map .k) | false => none
  | none => none
def newG (H : AH) (t : TypeId) (cs : List CV) : Option (GV × AH) := match Nat.blt H.n 8192 with | true => some (oneG (.p H.n 0), H.new (.cells t 1 false cs)) | false => none
theorem new_ok {cs : List CV} {vs : List Value} (h : newG H t cs = some (r, H')) (hs : Sim G B0 R H w) (hc : All2 (CR R) cs vs) (hb : Below w.heap.size w w') (hbk : blk w' w.heap.size t vs) :
    ∃ R', Lay.le R R' ∧ r.rel R' (.pointer (some ⟨w.heap.size, 0, none⟩)) ∧ Sim G B0 R' H' w' ∧ Fr B0 R H w R' H' w' := by
  unfold newG at h
  split at h
  · rename_i hn
    cases h
    have hle := hs.upd_le ⟨w.heap.size, 0⟩
    refine ⟨_, hle, ⟨_, upd_self, rfl⟩, hs.new (o := .cells t 1 false cs) (L := ⟨w.heap.size, 0⟩) hb (Nat.le_refl _) ⟨vs, hbk, ?_⟩ (blt_iff.1 hn), Fr.new hs hb (Nat.le_refl _) (blt_iff.1 hn)⟩
    have hl := hc.len
    refine ⟨?_, by omega, fun _ => hl, (fun hg => by cases hg)⟩
    rw [← hl, List.take_length]
    exact hc.mono fun _ _ => CR.mono hle
  · cases h
def alcG (P : Program) (H : AH) (t : TypeId) : Option (GV × AH) := match zeroCs P t with | some cs => newG H t cs | none => none
theorem zeroCs_ok {cs : List CV} (h : zeroCs P t = some cs) : ∃ z, (P.info? t).bind (·.zero) = some z ∧ All2 (CR R) cs z.cells.toList := by
  unfold zeroCs at h
  split at h
  · rename_i z hz
    split at h
    · rename_i hall; cases h; exact ⟨z, hz, kL_rel hall⟩
    · cases h
  · cases h
theorem alc_yls (h : alcG P H t = some (r, H')) (hs : Sim G B0 R H w) : Yls G B0 (alc P t) R H r H' w := by
  intro K hK
  unfold alcG at h
  split at h
  · rename_i cs hz
    obtain ⟨z, hz1, hz2⟩ := zeroCs_ok (R := R) hz
    refine alc_of hz1 fun w' hb hbl _ => ?_
    obtain ⟨R', a, b, c, d⟩ := new_ok h hs hz2 hbl hb
    exact hK R' _ w' a b c d
  · cases h
def oneC : CV → Bool
  | .k v => v.oneCell'
  | _ => true
theorem oneC_ok {a : CV} (h : oneC a = true) (hr : a.rel R v) : v.oneCell' = true := by
  cases a with
  | k u => cases hr; exact h
  | p b o => obtain ⟨L, _, rfl⟩ := hr; rfl
  | g b o => cases hr; rfl
  | s b o lo n c => obtain ⟨L, _, _, rfl⟩ := hr; rfl
  | se b o o' lo l => obtain ⟨L, _, rfl⟩ := hr; rfl
  | m b => obtain ⟨L, _, rfl⟩ := hr; rfl
  | it b => obtain ⟨L, _, rfl⟩ := hr; rfl
  | yd b => obtain ⟨L, _, rfl⟩ := hr; rfl
  | f fn x y => obtain ⟨xs, ys, _, _, rfl⟩ := hr; rfl
def cellsG : GV → Option (List CV)
  | .val (.one c) => match oneC c with | true => some [c] | false => none
  | .val (.agg cs) => some cs
  | _ => none
theorem oneCell_cells (h : v.oneCell' = true) : v.cells = #[v] := by cases v <;> first | rfl | simp [Value.oneCell'] at h
theorem cellsG_ok {cs : List CV} (h : cellsG x = some cs) (hx : x.rel R u) : All2 (CR R) cs u.cells.toList := by
  unfold cellsG at h
  split at h
  · split at h
    · rename_i hc; cases h
      have := oneC_ok hc hx
      rw [oneCell_cells this]
      exact .cons ⟨hx, this⟩ .nil
    · cases h
  · cases h; obtain ⟨vs, h1, rfl⟩ := hx; exact h1
  · cases h
def boxG (H : AH) (t : TypeId) (x : GV) : Option (GV × AH) := match cellsG x with | some cs => newG H t cs | none => none
theorem box_yls (h : boxG H t x = some (r, H')) (hs : Sim G B0 R H w) (hx : x.rel R u) : Yls G B0 (box P t u) R H r H' w := by
  intro K hK
  unfold boxG at h
  split at h
  · rename_i cs hc
    refine box_of fun w' hb hbl _ => ?_
    obtain ⟨R', a, b, c, d⟩ := new_ok h hs (cellsG_ok hc hx) hbl hb
    exact hK R' _ w' a b c d
  · cases h

/-! ## A store. -/
def stoG (P : Program) (H : AH) (t : TypeId) (a x : GV) : Option (GV × AH) :=
  match a, P.info? t with
  | .val (.one (.p b o)), some i => match H.get b with
    | some (.cells e z g cs) => match x with
      | .val (.one c) => match oneC c, Nat.beq i.size 1, Nat.blt o cs.length with
        | true, true, true => some (undefG, H.put b (.cells e z g (cs.set o c)))
        | _, _, _ => none
      | .val (.agg xs) => match Nat.beq xs.length i.size, Nat.ble (o + i.size) cs.length with
        | true, true => some (undefG, H.put b (.cells e z g (cs.take o ++ xs ++ cs.drop (o + i.size))))
        | _, _ => none
      | _ => none
    | _ => none
  | _, _ => none
theorem splice_take {α : Type} {c vs : List α} {o L : Nat} (h : o + vs.length ≤ L) (hL : L ≤ c.length) : (c.take o ++ vs ++ c.drop (o + vs.length)).take L = (c.take L).take o ++ vs ++ (c.take L).drop (o + vs.length) := by
  have e1 : c.drop (o + vs.length) = (c.take L).drop (o + vs.length) ++ c.drop L := by
    conv => lhs; rw [← List.take_append_drop L c]
    rw [List.drop_append_of_le_length (by rw [List.length_take]; omega)]
  have e2 : c.take o = (c.take L).take o := by rw [List.take_take]; congr 1; omega
  rw [e1, ← List.append_assoc, e2]
  rw [List.take_append_of_le_length (by simp; omega), List.take_of_length_le (by simp; omega)]
theorem sto_yls {a : GV} {av : Value} (h : stoG P H t a x = some (r, H')) (hs : Sim G B0 R H w) (ha : a.rel R av) (hx : x.rel R u) : Yls G B0 (sto P t av u) R H r H' w := by
  intro K hK
  unfold stoG at h
  split at h
  · rename_i b o i hi
    split at h
    · rename_i e z g cs hg
      obtain ⟨L, hL, rfl⟩ := ha
      obtain ⟨c, hb, hc, hB⟩ := hs.cells hg hL
      split at h
      · rename_i c0
        split at h
        · rename_i h1 h2 h3
          cases h
          have h3 := blt_iff.1 h3
          have h2 := Nat.eq_of_beq_eq_true h2
          have hv := oneC_ok h1 hx
          have hle := hc.le
          refine sto1 (by intro w; rw [size_run hi, h2]) hb (by omega) hv fun w' hb' ho => ?_
          refine hK R _ w' (Lay.le.refl R) rfl (hs.put hg rfl hL ho.size ho.other ⟨_, hb', ?_⟩) (Fr.put hs hg rfl hL ho)
          refine ⟨?_, by simpa using hc.le, fun hh => by simpa using hc.eq hh, fun hh => by simpa using hc.room hh⟩
          rw [List.length_set, List.take_set]
          exact hc.rel.set ⟨hx, hv⟩ o
        · cases h
      · rename_i xs
        split at h
        · rename_i h1 h2
          cases h
          have h1 := Nat.eq_of_beq_eq_true h1
          have h2 := Nat.le_of_ble_eq_true h2
          obtain ⟨vs, hvs, rfl⟩ := hx
          have hl := hvs.len
          have hle := hc.le
          refine stoA (n := i.size) (by simp [hi]) (by omega) hb (by omega) (hvs.all fun _ _ h => h.2) fun w' hb' ho => ?_
          refine hK R _ w' (Lay.le.refl R) rfl (hs.put hg rfl hL ho.size ho.other ⟨_, hb', ?_⟩) (Fr.put hs hg rfl hL ho)
          have hlen : (cs.take o ++ xs ++ cs.drop (o + i.size)).length = cs.length := by simp; omega
          have hlen2 : (c.take o ++ vs ++ c.drop (o + i.size)).length = c.length := by simp; omega
          refine ⟨?_, by rw [hlen, hlen2]; exact hc.le, fun hh => by rw [hlen, hlen2]; exact hc.eq hh, fun hh => by rw [hlen2]; exact hc.room hh⟩
          rw [hlen]
          have e3 : o + i.size = o + vs.length := by omega
          rw [e3, splice_take (by omega) hle]
          have e4 : cs.drop (o + vs.length) = cs.drop (o + vs.length) := rfl
          exact ((hc.rel.take o).append hvs).append (hc.rel.drop _)
        · cases h
      · cases h
    · cases h
  · cases h
end
end Go.Proofs.YtnmjfakibhekmaaGreatDoor
