/- Runs in which all is known but where blocks stand: values, memory and what these say of a world. Nothing of the program is named here. -/
import Derived.Test.YtnmjfakibhekmaaGreatDoorMem
namespace Go.Proofs.YtnmjfakibhekmaaGreatDoor
set_option maxRecDepth 100000
open Go.RowKit

/-- Where a block of the run stands, and how many elements it has room for. -/
structure Loc where
  B : Nat
  cap : Nat
abbrev Lay := Nat → Option Loc
def Lay.le (R R' : Lay) : Prop := ∀ i L, R i = some L → R' i = some L
theorem Lay.le.refl (R : Lay) : Lay.le R R := fun _ _ h => h
theorem Lay.le.trans {a b c : Lay} (h : Lay.le a b) (k : Lay.le b c) : Lay.le a c := fun i L hi => k i L (h i L hi)

/-- Lists that are alike, one by one. -/
inductive All2 {α β : Type} (r : α → β → Prop) : List α → List β → Prop
  | nil : All2 r [] []
  | cons {a b l m} : r a b → All2 r l m → All2 r (a :: l) (b :: m)
section
variable {α β : Type} {r : α → β → Prop}
theorem All2.len {l : List α} {m : List β} (h : All2 r l m) : m.length = l.length := by
  induction h with
  | nil => rfl
  | cons _ _ ih => simp [ih]
theorem All2.get {l : List α} {m : List β} (h : All2 r l m) : ∀ {i : Nat} {a : α}, l[i]? = some a → ∃ b, m[i]? = some b ∧ r a b := by
  induction h with
  | nil => intro i a h; simp at h
  | cons h1 _ ih =>
    intro i a h
    cases i with
    | zero => simp at h; subst h; exact ⟨_, rfl, h1⟩
    | succ i => simp at h; simpa using ih h
theorem All2.mono {r' : α → β → Prop} (hr : ∀ a b, r a b → r' a b) {l : List α} {m : List β} (h : All2 r l m) : All2 r' l m := by
  induction h with
  | nil => exact .nil
  | cons h1 _ ih => exact .cons (hr _ _ h1) ih
theorem All2.take {l : List α} {m : List β} (h : All2 r l m) : ∀ n, All2 r (l.take n) (m.take n) := by
  induction h with
  | nil => intro n; simp; exact .nil
  | cons h1 _ ih =>
    intro n
    cases n with
    | zero => exact .nil
    | succ n => exact .cons h1 (ih n)
theorem All2.drop {l : List α} {m : List β} (h : All2 r l m) : ∀ n, All2 r (l.drop n) (m.drop n) := by
  induction h with
  | nil => intro n; simp; exact .nil
  | cons h1 h2 ih =>
    intro n
    cases n with
    | zero => exact .cons h1 h2
    | succ n => exact ih n
theorem All2.append {l l' : List α} {m m' : List β} (h : All2 r l m) (h' : All2 r l' m') : All2 r (l ++ l') (m ++ m') := by
  induction h with
  | nil => exact h'
  | cons h1 _ ih => exact .cons h1 ih
theorem All2.set {l : List α} {m : List β} (h : All2 r l m) {a : α} {b : β} (hab : r a b) : ∀ i, All2 r (l.set i a) (m.set i b) := by
  induction h with
  | nil => intro i; exact .nil
  | cons h1 h2 ih =>
    intro i
    cases i with
    | zero => exact .cons hab h2
    | succ i => exact .cons h1 (ih i)
theorem All2.func {r : α → β → Prop} (hf : ∀ a b c, r a b → r a c → b = c) {l : List α} {m m' : List β} (h : All2 r l m) (h' : All2 r l m') : m = m' := by
  induction h generalizing m' with
  | nil => cases h'; rfl
  | cons h1 _ ih =>
    cases h' with
    | cons k1 k2 => rw [hf _ _ _ h1 k1, ih k2]
theorem All2.all {q : β → Prop} (hq : ∀ a b, r a b → q b) {l : List α} {m : List β} (h : All2 r l m) : ∀ b ∈ m, q b := by
  induction h with
  | nil => intro b hb; cases hb
  | cons h1 _ ih =>
    intro b hb
    cases hb with
    | head => exact hq _ _ h1
    | tail _ hb => exact ih b hb
theorem All2.map {γ : Type} (f : α → γ) {r' : γ → β → Prop} (hr : ∀ a b, r a b → r' (f a) b) {l : List α} {m : List β} (h : All2 r l m) : All2 r' (l.map f) m := by
  induction h with
  | nil => exact .nil
  | cons h1 _ ih => exact .cons (hr _ _ h1) ih
end

/-- A value of one cell: known outright, or known but for where it points. -/
inductive CV where
  | k (v : Value)
  | p (b o : Nat)
  | g (b o : Nat)
  | s (b o lo n : Nat) (c : Option Nat)
  | se (b o o' lo l : Nat)
  | m (b : Nat)
  | it (b : Nat)
  | f (fn : FuncId) (x y : List (Nat × Nat))
  | yd (b : Nat)
inductive AV where
  | one (v : CV)
  | agg (cs : List CV)
inductive GV where
  | val (a : AV)
  | tup (l : List AV)
  | bad

def prel (R : Lay) (q : Nat × Nat) (v : Value) : Prop := ∃ L, R q.1 = some L ∧ v = .pointer (some ⟨L.B, q.2, none⟩)
def capOf (L : Loc) (lo : Nat) : Option Nat → Nat
  | some c => c
  | none => L.cap - lo
def CV.rel (R : Lay) : CV → Value → Prop
  | .k u, v => v = u
  | .p b o, v => prel R (b, o) v
  | .g b o, v => v = .pointer (some ⟨b, o, none⟩)
  | .s b o lo n c, v => ∃ L, R b = some L ∧ n ≤ capOf L lo c ∧ v = .slice (some ⟨L.B, o, none⟩) n (capOf L lo c)
  | .se b o o' lo l, v => ∃ L, R b = some L ∧ v = .slice (some ⟨L.B, (if L.cap - lo = l then o else o'), none⟩) 0 (L.cap - lo - l)
  | .m b, v => ∃ L, R b = some L ∧ v = .map (some L.B)
  | .it b, v => ∃ L, R b = some L ∧ v = .pointer (some ⟨L.B, 0, none⟩)
  | .f fn x y, v => ∃ xs ys, All2 (prel R) x xs ∧ All2 (prel R) y ys ∧ v = .func (.func fn) xs.toArray ys.toArray
  | .yd b, v => ∃ L, R b = some L ∧ v = .func (.yield L.B) #[] #[]
/-- .. in a cell. -/
def CR (R : Lay) (a : CV) (v : Value) : Prop := a.rel R v ∧ v.oneCell' = true
def AV.rel (R : Lay) : AV → Value → Prop
  | .one a, v => a.rel R v
  | .agg cs, v => ∃ vs, All2 (CR R) cs vs ∧ v = .agg vs.toArray
def GV.rel (R : Lay) : GV → Value → Prop
  | .val a, v => a.rel R v
  | .tup l, v => ∃ vs, All2 (AV.rel R) l vs ∧ v = .tuple vs.toArray
  | .bad, _ => True

theorem prel.mono {R R' : Lay} (h : Lay.le R R') {q : Nat × Nat} {v : Value} (k : prel R q v) : prel R' q v := by
  obtain ⟨L, h1, h2⟩ := k; exact ⟨L, h _ _ h1, h2⟩
theorem CV.rel.mono {R R' : Lay} (h : Lay.le R R') {a : CV} {v : Value} (k : a.rel R v) : a.rel R' v := by
  cases a with
  | k u => exact k
  | p b o => exact prel.mono h k
  | g b o => exact k
  | s b o lo n c => obtain ⟨L, h1, h0, h2⟩ := k; exact ⟨L, h _ _ h1, h0, h2⟩
  | se b o o' lo l => obtain ⟨L, h1, h2⟩ := k; exact ⟨L, h _ _ h1, h2⟩
  | m b => obtain ⟨L, h1, h2⟩ := k; exact ⟨L, h _ _ h1, h2⟩
  | it b => obtain ⟨L, h1, h2⟩ := k; exact ⟨L, h _ _ h1, h2⟩
  | f fn x y => obtain ⟨xs, ys, h1, h2, h3⟩ := k; exact ⟨xs, ys, h1.mono fun _ _ => prel.mono h, h2.mono fun _ _ => prel.mono h, h3⟩
  | yd b => obtain ⟨L, h1, h2⟩ := k; exact ⟨L, h _ _ h1, h2⟩
theorem CR.mono {R R' : Lay} (h : Lay.le R R') {a : CV} {v : Value} (k : CR R a v) : CR R' a v := ⟨CV.rel.mono h k.1, k.2⟩
theorem AV.rel.mono {R R' : Lay} (h : Lay.le R R') {a : AV} {v : Value} (k : a.rel R v) : a.rel R' v := by
  cases a with
  | one a => have k : CV.rel R a v := k; exact CV.rel.mono h k
  | agg cs => obtain ⟨vs, h1, h2⟩ := k; exact ⟨vs, h1.mono fun _ _ => CR.mono h, h2⟩
theorem GV.rel.mono {R R' : Lay} (h : Lay.le R R') {a : GV} {v : Value} (k : a.rel R v) : a.rel R' v := by
  cases a with
  | val a => have k : AV.rel R a v := k; exact AV.rel.mono h k
  | tup l => obtain ⟨vs, h1, h2⟩ := k; exact ⟨vs, h1.mono fun _ _ => AV.rel.mono h, h2⟩
  | bad => trivial
theorem prel.func {R : Lay} {q : Nat × Nat} {v v' : Value} (h : prel R q v) (h' : prel R q v') : v = v' := by
  obtain ⟨L, h1, rfl⟩ := h; obtain ⟨L', h1', rfl⟩ := h'
  rw [h1] at h1'; cases h1'; rfl
theorem CV.rel.func {R : Lay} {a : CV} {v v' : Value} (h : a.rel R v) (h' : a.rel R v') : v = v' := by
  cases a with
  | k u => exact h.trans h'.symm
  | p b o => exact prel.func h h'
  | g b o => exact h.trans h'.symm
  | s b o lo n c => obtain ⟨L, h1, _, rfl⟩ := h; obtain ⟨L', h1', _, rfl⟩ := h'; rw [h1] at h1'; cases h1'; rfl
  | se b o o' lo l => obtain ⟨L, h1, rfl⟩ := h; obtain ⟨L', h1', rfl⟩ := h'; rw [h1] at h1'; cases h1'; rfl
  | m b => obtain ⟨L, h1, rfl⟩ := h; obtain ⟨L', h1', rfl⟩ := h'; rw [h1] at h1'; cases h1'; rfl
  | it b => obtain ⟨L, h1, rfl⟩ := h; obtain ⟨L', h1', rfl⟩ := h'; rw [h1] at h1'; cases h1'; rfl
  | yd b => obtain ⟨L, h1, rfl⟩ := h; obtain ⟨L', h1', rfl⟩ := h'; rw [h1] at h1'; cases h1'; rfl
  | f fn x y =>
    obtain ⟨xs, ys, h1, h2, rfl⟩ := h; obtain ⟨xs', ys', h1', h2', rfl⟩ := h'
    rw [All2.func (r := prel R) (fun _ _ _ h h' => prel.func h h') h1 h1', All2.func (r := prel R) (fun _ _ _ h h' => prel.func h h') h2 h2']
theorem AV.rel.func {R : Lay} {a : AV} {v v' : Value} (h : a.rel R v) (h' : a.rel R v') : v = v' := by
  cases a with
  | one a => have h : CV.rel R a v := h; have h' : CV.rel R a v' := h'; exact CV.rel.func h h'
  | agg cs =>
    obtain ⟨vs, h1, rfl⟩ := h; obtain ⟨vs', h1', rfl⟩ := h'
    rw [All2.func (r := CR R) (fun _ _ _ h h' => CV.rel.func h.1 h'.1) h1 h1']
theorem GV.rel.func {R : Lay} {a : GV} {v v' : Value} (hb : a ≠ .bad) (h : a.rel R v) (h' : a.rel R v') : v = v' := by
  cases a with
  | bad => exact absurd rfl hb
  | val a => have h : AV.rel R a v := h; have h' : AV.rel R a v' := h'; exact AV.rel.func h h'
  | tup l =>
    obtain ⟨vs, h1, rfl⟩ := h; obtain ⟨vs', h1', rfl⟩ := h'
    rw [All2.func (r := AV.rel R) (fun _ _ _ h h' => AV.rel.func h h') h1 h1']

/-! ## Trees by number. -/
inductive Tr (α : Type) where
  | e
  | l (a : α)
  | n (x y : Tr α)
def Tr.get {α : Type} : Nat → Tr α → Nat → Option α
  | 0, .l a, _ => some a
  | d + 1, .n x y, i => match Nat.beq (i % 2) 0 with | true => Tr.get d x (i / 2) | false => Tr.get d y (i / 2)
  | _, _, _ => none
def Tr.sub {α : Type} : Tr α → Tr α × Tr α
  | .n x y => (x, y)
  | _ => (.e, .e)
/-- A node, with its new part reckoned first. -/
def Tr.nl {α : Type} (x y : Tr α) : Tr α := match x with | .e => .n .e y | .l a => .n (.l a) y | .n p q => .n (.n p q) y
def Tr.nr {α : Type} (x y : Tr α) : Tr α := match y with | .e => .n x .e | .l a => .n x (.l a) | .n p q => .n x (.n p q)
theorem Tr.nl_eq {α : Type} (x y : Tr α) : Tr.nl x y = .n x y := by cases x <;> rfl
theorem Tr.nr_eq {α : Type} (x y : Tr α) : Tr.nr x y = .n x y := by cases y <;> rfl
def Tr.set {α : Type} : Nat → Tr α → Nat → α → Tr α
  | 0, _, _, a => .l a
  | d + 1, .n x y, i, a => match Nat.beq (i % 2) 0 with | true => Tr.nl (Tr.set d x (i / 2) a) y | false => Tr.nr x (Tr.set d y (i / 2) a)
  | d + 1, _, i, a => match Nat.beq (i % 2) 0 with | true => Tr.nl (Tr.set d .e (i / 2) a) .e | false => Tr.nr .e (Tr.set d .e (i / 2) a)
theorem Tr.sub_n {α : Type} (x y : Tr α) : (Tr.n x y).sub = (x, y) := rfl
theorem Tr.set_sub {α : Type} (d : Nat) (t : Tr α) (i : Nat) (a : α) : Tr.set (d + 1) t i a = match Nat.beq (i % 2) 0 with | true => .n (Tr.set d t.sub.1 (i / 2) a) t.sub.2 | false => .n t.sub.1 (Tr.set d t.sub.2 (i / 2) a) := by
  cases t with
  | e =>
    show (match Nat.beq (i % 2) 0 with | true => Tr.nl (Tr.set d .e (i / 2) a) .e | false => Tr.nr .e (Tr.set d .e (i / 2) a)) = _
    rw [Tr.nl_eq, Tr.nr_eq]; rfl
  | l b =>
    show (match Nat.beq (i % 2) 0 with | true => Tr.nl (Tr.set d .e (i / 2) a) .e | false => Tr.nr .e (Tr.set d .e (i / 2) a)) = _
    rw [Tr.nl_eq, Tr.nr_eq]; rfl
  | n x y =>
    show (match Nat.beq (i % 2) 0 with | true => Tr.nl (Tr.set d x (i / 2) a) y | false => Tr.nr x (Tr.set d y (i / 2) a)) = _
    rw [Tr.nl_eq, Tr.nr_eq]; rfl
theorem Tr.get_sub {α : Type} (d : Nat) (t : Tr α) (i : Nat) : Tr.get (d + 1) t i = match Nat.beq (i % 2) 0 with | true => Tr.get d t.sub.1 (i / 2) | false => Tr.get d t.sub.2 (i / 2) := by
  have he : ∀ i, Tr.get d (.e : Tr α) i = none := fun i => by cases d <;> rfl
  cases t with
  | e => simp only [Tr.sub, he]; unfold Tr.get; split <;> rfl
  | l a => simp only [Tr.sub, he]; unfold Tr.get; split <;> rfl
  | n x y => rfl
theorem eb {a b : Nat} {c : Bool} (h : Nat.beq a b = c) : if c then a = b else a ≠ b := by
  subst h
  by_cases hh : a = b
  · subst hh; simp
  · have : Nat.beq a b = false := by
      cases hq : Nat.beq a b
      · rfl
      · exact absurd (Nat.eq_of_beq_eq_true hq) hh
    simp [this, hh]
theorem Tr.get_set {α : Type} (a : α) : ∀ (d : Nat) (t : Tr α) (i j : Nat), i < 2 ^ d → j < 2 ^ d → Tr.get d (Tr.set d t i a) j = if i = j then some a else Tr.get d t j
  | 0, t, i, j, hi, hj => by
    have : i = j := by omega
    simp [this, Tr.set, Tr.get]
  | d + 1, t, i, j, hi, hj => by
    have hi2 : i / 2 < 2 ^ d := by rw [Nat.pow_succ] at hi; omega
    have hj2 : j / 2 < 2 ^ d := by rw [Nat.pow_succ] at hj; omega
    rw [Tr.get_sub, Tr.get_sub, Tr.set_sub]
    cases ei : Nat.beq (i % 2) 0 <;> cases ej : Nat.beq (j % 2) 0 <;> simp only [Tr.sub_n]
    · rw [Tr.get_set a d _ _ _ hi2 hj2]
      have e1 := eb ei
      have e2 := eb ej
      simp only [Bool.false_eq_true, if_true, if_false] at e1 e2
      by_cases hij : i / 2 = j / 2
      · rw [if_pos hij, if_pos (by omega)]
      · rw [if_neg hij, if_neg (by omega)]
    · have e1 := eb ei
      have e2 := eb ej
      simp only [Bool.false_eq_true, if_true, if_false] at e1 e2
      rw [if_neg (by omega)]
    · have e1 := eb ei
      have e2 := eb ej
      simp only [Bool.false_eq_true, if_true, if_false] at e1 e2
      rw [if_neg (by omega)]
    · rw [Tr.get_set a d _ _ _ hi2 hj2]
      have e1 := eb ei
      have e2 := eb ej
      simp only [Bool.false_eq_true, if_true, if_false] at e1 e2
      by_cases hij : i / 2 = j / 2
      · rw [if_pos hij, if_pos (by omega)]
      · rw [if_neg hij, if_neg (by omega)]

/-! ## The same, for reckoning: each level spelt. -/
section
variable {α : Type}
def Tr.g0 (t : Tr α) (_ : Nat) : Option α := match t with | .l a => some a | _ => none
def Tr.gs (f : Tr α → Nat → Option α) (t : Tr α) (i : Nat) : Option α := match t with | .n x y => (match Nat.beq (Nat.mod i 2) 0 with | true => f x (Nat.div i 2) | false => f y (Nat.div i 2)) | _ => none
def Tr.s0 (_ : Tr α) (_ : Nat) (a : α) : Tr α := .l a
def Tr.ss (f : Tr α → Nat → α → Tr α) (t : Tr α) (i : Nat) (a : α) : Tr α :=
  match t with
  | .n x y => (match Nat.beq (Nat.mod i 2) 0 with | true => Tr.nl (f x (Nat.div i 2) a) y | false => Tr.nr x (f y (Nat.div i 2) a))
  | _ => (match Nat.beq (Nat.mod i 2) 0 with | true => Tr.nl (f .e (Nat.div i 2) a) .e | false => Tr.nr .e (f .e (Nat.div i 2) a))
theorem Tr.gs_eq {f : Tr α → Nat → Option α} {d : Nat} (h : f = Tr.get d) : Tr.gs f = Tr.get (d + 1) := by
  subst h
  funext t i
  cases t <;> rfl
theorem Tr.ss_eq {f : Tr α → Nat → α → Tr α} {d : Nat} (h : f = Tr.set d) : Tr.ss f = Tr.set (d + 1) := by
  subst h
  funext t i a
  cases t <;> rfl
theorem Tr.g0_eq : (Tr.g0 : Tr α → Nat → Option α) = Tr.get 0 := by
  funext t i
  cases t <;> rfl
theorem Tr.s0_eq : (Tr.s0 : Tr α → Nat → α → Tr α) = Tr.set 0 := by
  funext t i a
  cases t <;> rfl
def Tr.get8 : Tr α → Nat → Option α := Tr.gs (Tr.gs (Tr.gs (Tr.gs (Tr.gs (Tr.gs (Tr.gs (Tr.gs Tr.g0)))))))
def Tr.set8 : Tr α → Nat → α → Tr α := Tr.ss (Tr.ss (Tr.ss (Tr.ss (Tr.ss (Tr.ss (Tr.ss (Tr.ss Tr.s0)))))))
def Tr.get13 : Tr α → Nat → Option α := Tr.gs (Tr.gs (Tr.gs (Tr.gs (Tr.gs (Tr.gs (Tr.gs (Tr.gs (Tr.gs (Tr.gs (Tr.gs (Tr.gs (Tr.gs Tr.g0))))))))))))
def Tr.set13 : Tr α → Nat → α → Tr α := Tr.ss (Tr.ss (Tr.ss (Tr.ss (Tr.ss (Tr.ss (Tr.ss (Tr.ss (Tr.ss (Tr.ss (Tr.ss (Tr.ss (Tr.ss Tr.s0))))))))))))
theorem Tr.get8_eq : (Tr.get8 : Tr α → Nat → Option α) = Tr.get 8 := Tr.gs_eq (Tr.gs_eq (Tr.gs_eq (Tr.gs_eq (Tr.gs_eq (Tr.gs_eq (Tr.gs_eq (Tr.gs_eq Tr.g0_eq)))))))
theorem Tr.set8_eq : (Tr.set8 : Tr α → Nat → α → Tr α) = Tr.set 8 := Tr.ss_eq (Tr.ss_eq (Tr.ss_eq (Tr.ss_eq (Tr.ss_eq (Tr.ss_eq (Tr.ss_eq (Tr.ss_eq Tr.s0_eq)))))))
theorem Tr.get13_eq : (Tr.get13 : Tr α → Nat → Option α) = Tr.get 13 := Tr.gs_eq (Tr.gs_eq (Tr.gs_eq (Tr.gs_eq (Tr.gs_eq (Tr.gs_eq (Tr.gs_eq (Tr.gs_eq (Tr.gs_eq (Tr.gs_eq (Tr.gs_eq (Tr.gs_eq (Tr.gs_eq Tr.g0_eq))))))))))))
theorem Tr.set13_eq : (Tr.set13 : Tr α → Nat → α → Tr α) = Tr.set 13 := Tr.ss_eq (Tr.ss_eq (Tr.ss_eq (Tr.ss_eq (Tr.ss_eq (Tr.ss_eq (Tr.ss_eq (Tr.ss_eq (Tr.ss_eq (Tr.ss_eq (Tr.ss_eq (Tr.ss_eq (Tr.ss_eq Tr.s0_eq))))))))))))
theorem Tr.get8_set8 (a : α) (t : Tr α) (i j : Nat) (hi : i < 256) (hj : j < 256) : Tr.get8 (Tr.set8 t i a) j = if i = j then some a else Tr.get8 t j := by
  rw [Tr.get8_eq, Tr.set8_eq]
  exact Tr.get_set a 8 t i j hi hj
theorem Tr.get13_set13 (a : α) (t : Tr α) (i j : Nat) (hi : i < 8192) (hj : j < 8192) : Tr.get13 (Tr.set13 t i a) j = if i = j then some a else Tr.get13 t j := by
  rw [Tr.get13_eq, Tr.set13_eq]
  exact Tr.get_set a 13 t i j hi hj
end
end Go.Proofs.YtnmjfakibhekmaaGreatDoor
