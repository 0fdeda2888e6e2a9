/- Runs in which all is known but where blocks stand: what a memory says of a world; operations that read. Nothing of the program is named here. -/
import Derived.Test.YtnmjfakibhekmaaGreatDoorRn1
namespace Go.Proofs.YtnmjfakibhekmaaGreatDoor
set_option maxRecDepth 100000
open Go.RowKit

structure AEnt where
  key : Value
  val : AV
  born : Nat
inductive AO where
  | cells (e : TypeId) (z : Nat) (g : Bool) (cs : List CV)
  | map (es : List AEnt) (clock : Nat)
  | mit (m : Option Nat) (since : Nat) (seen : List Nat) (stepped : Nat)
  | sit (s : ByteArray) (pos : Nat)
  | dead
def AO.live : AO → Bool
  | .dead => false
  | _ => true
def EntR (R : Lay) (a : AEnt) (v : MapEntry) : Prop := v.key = a.key ∧ a.val.rel R v.val ∧ v.born = a.born
/-- Cells that stand at the head of a block; g: the block may hold more, and has room as its place says. -/
structure CellsR (R : Lay) (L : Loc) (z : Nat) (g : Bool) (cs : List CV) (c : List Value) : Prop where
  rel : All2 (CR R) cs (c.take cs.length)
  le : cs.length ≤ c.length
  eq : g = false → c.length = cs.length
  room : g = true → 0 < z ∧ L.cap ≤ maxLen ∧ c.length = L.cap * z
def objR (R : Lay) (w : World) (L : Loc) : AO → Prop
  | .cells e z g cs => ∃ c, blk w L.B e c ∧ CellsR R L z g cs c
  | .map es clock => ∃ vs, All2 (EntR R) es vs ∧ w.heap[L.B]? = some (.map vs.toArray clock)
  | .mit none a b d => w.heap[L.B]? = some (.mapIter none a b.toArray d)
  | .mit (some m) a b d => ∃ M, R m = some M ∧ w.heap[L.B]? = some (.mapIter (some M.B) a b.toArray d)
  | .sit s pos => w.heap[L.B]? = some (.stringIter s pos)
  | .dead => True

structure AH where
  t : Tr AO
  n : Nat
def AH.get (H : AH) (i : Nat) : Option AO := match Nat.blt i H.n with | true => Tr.get13 H.t i | false => none
def AH.put (H : AH) (i : Nat) (o : AO) : AH := ⟨Tr.set13 H.t i o, H.n⟩
def AH.new (H : AH) (o : AO) : AH := ⟨Tr.set13 H.t H.n o, Nat.add H.n 1⟩
theorem blt_iff {a b : Nat} : Nat.blt a b = true ↔ a < b := by
  unfold Nat.blt; rw [Nat.ble_eq]; exact Iff.rfl
theorem AH.get_lt {H : AH} {i : Nat} {o : AO} (h : H.get i = some o) : i < H.n := by
  unfold AH.get at h
  split at h
  · rename_i hb; exact blt_iff.1 hb
  · cases h
theorem AH.get_put {H : AH} {i j : Nat} {o : AO} (hi : i < H.n) (hn : H.n ≤ 8192) : (H.put i o).get j = if i = j then some o else H.get j := by
  unfold AH.get AH.put
  simp only
  cases hb : Nat.blt j H.n with
  | true =>
    have := blt_iff.1 hb
    simp only
    rw [Tr.get13_set13 _ _ _ _ (by omega) (by omega)]
  | false =>
    have h2 : ¬ j < H.n := fun hh => by rw [blt_iff.2 hh] at hb; cases hb
    simp only
    rw [if_neg (by omega)]
theorem AH.get_new {H : AH} {j : Nat} {o : AO} (hn : H.n < 8192) : (H.new o).get j = if j = H.n then some o else H.get j := by
  unfold AH.get AH.new
  simp only
  cases hb : Nat.blt j (H.n + 1) with
  | true =>
    have := blt_iff.1 hb
    simp only
    rw [Tr.get13_set13 _ _ _ _ (by omega) (by omega)]
    by_cases hj : j = H.n
    · rw [if_pos hj, if_pos hj.symm]
    · rw [if_neg hj, if_neg (fun h => hj h.symm), blt_iff.2 (by omega)]
  | false =>
    have h2 : ¬ j < H.n + 1 := fun hh => by rw [blt_iff.2 hh] at hb; cases hb
    have h3 : Nat.blt j H.n = false := by
      cases hq : Nat.blt j H.n
      · rfl
      · have := blt_iff.1 hq; omega
    rw [if_neg (by omega), h3]

/-- Variables of the package, never written. -/
abbrev Glo := Nat → Option (TypeId × List Value)
def gbk (w : World) (g : Nat) (cs : List Value) : Prop := ∃ E fr, w.heap[g]? = some (.cells cs.toArray E fr)
theorem gbk.cell {w : World} {g : Nat} {cs : List Value} (h : gbk w g cs) (o : Nat) : w.cell? ⟨g, o, none⟩ = cs[o]? := by
  obtain ⟨E, fr, h⟩ := h
  unfold World.cell?
  rw [h]; simp
theorem gbk.same {w w' : World} {g : Nat} {cs : List Value} (h : gbk w g cs) (hw : w'.heap[g]? = w.heap[g]?) : gbk w' g cs := by
  obtain ⟨E, fr, h⟩ := h
  exact ⟨E, fr, by rw [hw]; exact h⟩
theorem gbk.lt {w : World} {g : Nat} {cs : List Value} (h : gbk w g cs) : g < w.heap.size := by
  obtain ⟨E, fr, h⟩ := h
  exact (Array.getElem?_eq_some_iff.1 h).1
structure Sim (G : Glo) (B0 : Nat) (R : Lay) (H : AH) (w : World) : Prop where
  obj : ∀ i o, H.get i = some o → o.live = true → ∃ L, R i = some L ∧ B0 ≤ L.B ∧ objR R w L o
  inj : ∀ i j oi oj Li Lj, H.get i = some oi → H.get j = some oj → oi.live = true → oj.live = true → i ≠ j → R i = some Li → R j = some Lj → Li.B ≠ Lj.B
  dom : ∀ i L, R i = some L → i < H.n
  big : H.n ≤ 8192
  size : B0 ≤ w.heap.size
  glob : ∀ g e cs, G g = some (e, cs) → g < B0 ∧ gbk w g cs

theorem objR.lt {R : Lay} {w : World} {L : Loc} {o : AO} (h : objR R w L o) (hl : o.live = true) : L.B < w.heap.size := by
  cases o with
  | cells e z g cs => obtain ⟨c, h, _⟩ := h; exact h.lt
  | map es clock => obtain ⟨c, _, h⟩ := h; exact (Array.getElem?_eq_some_iff.1 h).1
  | mit m a b d =>
    cases m with
    | none => exact (Array.getElem?_eq_some_iff.1 h).1
    | some m => obtain ⟨c, _, h⟩ := h; exact (Array.getElem?_eq_some_iff.1 h).1
  | sit s pos => exact (Array.getElem?_eq_some_iff.1 h).1
  | dead => cases hl
theorem objR.same {R : Lay} {w w' : World} {L : Loc} {o : AO} (h : objR R w L o) (hw : w'.heap[L.B]? = w.heap[L.B]?) : objR R w' L o := by
  cases o with
  | cells e z g cs => obtain ⟨c, h, k⟩ := h; exact ⟨c, by unfold blk at *; rw [hw]; exact h, k⟩
  | map es clock => obtain ⟨c, k, h⟩ := h; exact ⟨c, k, by rw [hw]; exact h⟩
  | mit m a b d =>
    cases m with
    | none => show w'.heap[L.B]? = _; rw [hw]; exact h
    | some m => obtain ⟨c, k, h⟩ := h; exact ⟨c, k, by rw [hw]; exact h⟩
  | sit s pos => show w'.heap[L.B]? = _; rw [hw]; exact h
  | dead => trivial
theorem EntR.mono {R R' : Lay} (hR : Lay.le R R') {a : AEnt} {v : MapEntry} (h : EntR R a v) : EntR R' a v := ⟨h.1, AV.rel.mono hR h.2.1, h.2.2⟩
theorem CellsR.mono {R R' : Lay} (hR : Lay.le R R') {L : Loc} {z : Nat} {g : Bool} {cs : List CV} {c : List Value} (h : CellsR R L z g cs c) : CellsR R' L z g cs c :=
  ⟨h.rel.mono fun _ _ => CR.mono hR, h.le, h.eq, h.room⟩
theorem objR.mono {R R' : Lay} (hR : Lay.le R R') {w : World} {L : Loc} {o : AO} (h : objR R w L o) : objR R' w L o := by
  cases o with
  | cells e z g cs => obtain ⟨c, h, k⟩ := h; exact ⟨c, h, k.mono hR⟩
  | map es clock => obtain ⟨c, k, h⟩ := h; exact ⟨c, k.mono fun _ _ => EntR.mono hR, h⟩
  | mit m a b d =>
    cases m with
    | none => exact h
    | some m => obtain ⟨c, k, h⟩ := h; exact ⟨c, hR _ _ k, h⟩
  | sit s pos => exact h
  | dead => trivial

section
variable {G : Glo} {B0 : Nat} {R : Lay} {H : AH} {w w' : World}
theorem Sim.below (h : Sim G B0 R H w) (hb : Below w.heap.size w w') : Sim G B0 R H w' where
  obj i o hi hl := by
    obtain ⟨L, h1, h2, h3⟩ := h.obj i o hi hl
    exact ⟨L, h1, h2, h3.same (hb.block _ (h3.lt hl))⟩
  inj := h.inj
  dom := h.dom
  big := h.big
  size := Nat.le_trans h.size hb.size
  glob g e cs hg := ⟨(h.glob g e cs hg).1, (h.glob g e cs hg).2.same (hb.block g (h.glob g e cs hg).2.lt)⟩
def upd (R : Lay) (i : Nat) (L : Loc) : Lay := fun j => if j = i then some L else R j
theorem Sim.upd_le (h : Sim G B0 R H w) (L : Loc) : Lay.le R (upd R H.n L) := by
  intro i M hi
  have := h.dom i M hi
  unfold upd
  rw [if_neg (by omega)]; exact hi
theorem upd_self {i : Nat} {L : Loc} : upd R i L i = some L := if_pos rfl
theorem Sim.new {o : AO} {L : Loc} (h : Sim G B0 R H w) (hb : Below w.heap.size w w') (hL : w.heap.size ≤ L.B) (ho : objR (upd R H.n L) w' L o) (hn : H.n < 8192) : Sim G B0 (upd R H.n L) (H.new o) w' where
  obj i o' hi hl := by
    rw [AH.get_new hn] at hi
    split at hi
    · rename_i e; subst e; cases hi; exact ⟨L, upd_self, Nat.le_trans h.size hL, ho⟩
    · obtain ⟨M, h1, h2, h3⟩ := (h.below hb).obj i o' hi hl
      exact ⟨M, h.upd_le L _ _ h1, h2, h3.mono (h.upd_le L)⟩
  inj i j oi oj Li Lj hi hj li lj hij ri rj := by
    rw [AH.get_new hn] at hi hj
    unfold upd at ri rj
    split at hi <;> split at hj
    · rename_i a b; omega
    · rename_i a b
      rw [if_pos a] at ri; cases ri
      rw [if_neg b] at rj
      obtain ⟨M, h1, h2, h3⟩ := h.obj j oj hj lj
      rw [h1] at rj; cases rj
      have := h3.lt lj; omega
    · rename_i a b
      rw [if_pos b] at rj; cases rj
      rw [if_neg a] at ri
      obtain ⟨M, h1, h2, h3⟩ := h.obj i oi hi li
      rw [h1] at ri; cases ri
      have := h3.lt li; omega
    · rename_i a b
      rw [if_neg a] at ri; rw [if_neg b] at rj
      exact h.inj i j oi oj Li Lj hi hj li lj hij ri rj
  dom i M hi := by
    show i < H.n + 1
    unfold upd at hi
    split at hi
    · omega
    · have := h.dom i M hi; omega
  big := by show H.n + 1 ≤ 8192; omega
  size := (h.below hb).size
  glob := (h.below hb).glob
/-- Only the block of i has turned. -/
theorem Sim.put {i : Nat} {o o' : AO} {L : Loc} (h : Sim G B0 R H w) (hi : H.get i = some o) (hl : o.live = true) (hL : R i = some L) (hs : w'.heap.size = w.heap.size) (hw : ∀ k, k ≠ L.B → w'.heap[k]? = w.heap[k]?) (ho : objR R w' L o') : Sim G B0 R (H.put i o') w' where
  obj j oj hj lj := by
    rw [AH.get_put (AH.get_lt hi) h.big] at hj
    split at hj
    · rename_i e; subst e; cases hj
      obtain ⟨M, h1, h2, h3⟩ := h.obj i o hi hl
      rw [hL] at h1; cases h1
      exact ⟨L, hL, h2, ho⟩
    · rename_i e
      obtain ⟨M, h1, h2, h3⟩ := h.obj j oj hj lj
      exact ⟨M, h1, h2, h3.same (hw _ (h.inj j i oj o M L hj hi lj hl (fun hh => e hh.symm) h1 hL))⟩
  inj a b oa ob La Lb ha hb la lb hab ra rb := by
    have key : ∀ {c oc}, (H.put i o').get c = some oc → oc.live = true → ∃ oc', H.get c = some oc' ∧ oc'.live = true := by
      intro c oc hc lc
      rw [AH.get_put (AH.get_lt hi) h.big] at hc
      split at hc
      · rename_i e; subst e; exact ⟨o, hi, hl⟩
      · exact ⟨oc, hc, lc⟩
    obtain ⟨oa', ha', la'⟩ := key ha la
    obtain ⟨ob', hb', lb'⟩ := key hb lb
    exact h.inj a b oa' ob' La Lb ha' hb' la' lb' hab ra rb
  dom := h.dom
  big := h.big
  size := by rw [hs]; exact h.size
  glob g e cs hg := by
    obtain ⟨h1, h2⟩ := h.glob g e cs hg
    obtain ⟨M, h3, h4, _⟩ := h.obj i o hi hl
    rw [hL] at h3; cases h3
    exact ⟨h1, h2.same (hw g (by omega))⟩
end

/-! ## Temporaries. -/
def undefG : GV := .val (.one (.k undef))
def getE (E : Tr GV) (i : Nat) : GV := match Tr.get8 E i with | some v => v | none => undefG
structure EnvR (R : Lay) (n : Nat) (E : Tr GV) (e : Env) : Prop where
  len : e.length = n
  big : n ≤ 256
  rel : ∀ i, i < n → (getE E i).rel R (gd e i)
theorem EnvR.mono {R R' : Lay} (hR : Lay.le R R') {n : Nat} {E : Tr GV} {e : Env} (h : EnvR R n E e) : EnvR R' n E e := ⟨h.len, h.big, fun i hi => GV.rel.mono hR (h.rel i hi)⟩
def ptE (E : Tr GV) (n : Nat) (d : Option Tmp) (v : GV) : Tr GV :=
  match d with
  | none => E
  | some d => match Nat.blt d n with | true => Tr.set8 E d v | false => E
theorem EnvR.put {R : Lay} {n : Nat} {E : Tr GV} {e : Env} {d : Option Tmp} {a : GV} {v : Value} (h : EnvR R n E e) (hv : a.rel R v) : EnvR R n (ptE E n d a) (pt e d v) := by
  cases d with
  | none => exact h
  | some d =>
    unfold ptE pt
    simp only
    cases hb : Nat.blt d n with
    | true =>
      have hd := blt_iff.1 hb
      have hbig := h.big
      refine ⟨by simpa using h.len, h.big, fun i hi => ?_⟩
      unfold getE
      rw [Tr.get8_set8 _ _ _ _ (by omega) (by omega)]
      by_cases hdi : d = i
      · subst hdi
        rw [if_pos rfl]
        have : gd (e.set d v) d = v := by unfold gd; simp [List.getD_eq_getElem?_getD, h.len, hi]
        rw [this]; exact hv
      · rw [if_neg hdi]
        have : gd (e.set d v) i = gd e i := by unfold gd; simp [List.getD_eq_getElem?_getD, List.getElem?_set_ne hdi]
        rw [this]; exact h.rel i hi
    | false =>
      have hd : ¬ d < n := fun hh => by rw [blt_iff.2 hh] at hb; cases hb
      have : e.set d v = e := List.set_eq_of_length_le (by rw [h.len]; exact Nat.le_of_not_lt hd)
      rw [this]; exact h
def kG (v : Value) : GV := .val (.one (.k v))
theorem kG_rel {R : Lay} {v : Value} : (kG v).rel R v := rfl
/-- A value that points nowhere. -/
def ofV (v : Value) : GV :=
  match v with
  | .agg cs => match cs.toList.all (·.oneCell') with | true => .val (.agg (cs.toList.map .k)) | false => kG v
  | _ => kG v
theorem kL_rel {R : Lay} : ∀ {l : List Value}, l.all (·.oneCell') = true → All2 (CR R) (l.map .k) l
  | [], _ => .nil
  | v :: l, h => by
    rw [List.all_cons, Bool.and_eq_true] at h
    exact .cons ⟨rfl, h.1⟩ (kL_rel h.2)
theorem ofV_rel {R : Lay} {v : Value} : (ofV v).rel R v := by
  unfold ofV
  split
  · split
    · rename_i cs h
      exact ⟨_, kL_rel h, rfl⟩
    · exact rfl
  · exact rfl
def evG (E : Tr GV) (n : Nat) : Operand → Option GV
  | .tmp t => match Nat.blt t n with | true => (match getE E t with | .bad => none | v => some v) | false => none
  | .const v => some (ofV v)
  | .global g => some (.val (.one (.g g 0)))
  | .func f => some (kG (.func (.func f) #[] #[]))
theorem evG_rel {R : Lay} {n : Nat} {E : Tr GV} {e : Env} (h : EnvR R n E e) {x : Operand} {a : GV} (ha : evG E n x = some a) : a.rel R (ev e x) := by
  cases x with
  | tmp t =>
    unfold evG at ha
    simp only at ha
    split at ha
    · rename_i hb
      have := h.rel t (blt_iff.1 hb)
      split at ha
      · cases ha
      · cases ha; exact this
    · cases ha
  | const v => cases ha; exact ofV_rel
  | global g => cases ha; exact rfl
  | func f => cases ha; exact rfl

/-! ## What asks no world. -/
def prun {α : Type} (P : Program) : Sem α → Option α
  | .pure a => some a
  | .program k => prun P (k P)
  | .mark _ k => prun P k
  | _ => none
theorem prun_run {α : Type} {P : Program} : ∀ {s : Sem α} {a : α}, prun P s = some a → ∀ w, s.run P w = .ok a w
  | .pure _, _, h, w => by cases h; rfl
  | .program k, _, h, w => by unfold Sem.run; exact prun_run (s := k P) h w
  | .mark _ k, _, h, w => by unfold Sem.run; exact prun_run (s := k) h w

def allK : List CV → Option (List Value)
  | [] => some []
  | .k v :: r => match allK r with | some l => some (v :: l) | none => none
  | _ => none
theorem allK_rel {R : Lay} : ∀ {cs : List CV} {l vs : List Value}, allK cs = some l → All2 (CR R) cs vs → vs = l
  | [], _, _, h, hr => by cases h; cases hr; rfl
  | .k v :: r, l, vs, h, hr => by
    unfold allK at h
    split at h
    · rename_i l' hl
      cases h
      cases hr with
      | cons h1 h2 => rw [allK_rel hl h2, h1.1]
    · cases h
def toV : GV → Option Value
  | .val (.one (.k v)) => some v
  | .val (.agg cs) => match allK cs with | some l => some (.agg l.toArray) | none => none
  | _ => none
theorem toV_rel {R : Lay} {a : GV} {u v : Value} (h : toV a = some u) (hr : a.rel R v) : v = u := by
  unfold toV at h
  split at h
  · cases h; exact hr
  · split at h
    · rename_i hl
      cases h
      obtain ⟨vs, h1, rfl⟩ := hr
      rw [allK_rel hl h1]
    · cases h
  · cases h

/-- The operation yields r, and does nothing else. -/
def Yld (op : KV → World → Prop) (R : Lay) (r : GV) (w : World) : Prop := ∃ v, r.rel R v ∧ ∀ K : KV, K v w → op K w
end Go.Proofs.YtnmjfakibhekmaaGreatDoor
