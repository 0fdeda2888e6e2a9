/- Runs in which all is known but where blocks stand: regions that draw, whole. Nothing of the program is named here. -/
import Derived.Test.YtnmjfakibhekmaaGreatDoorRn11
namespace Go.Proofs.YtnmjfakibhekmaaGreatDoor
set_option maxRecDepth 100000
open Go.RowKit

section
variable {P : Program} {G : Glo} {B0 : Nat} {R : Lay} {H H' : AH} {w w' : World} {n : Nat} {E E' : Tr GV} {e : Env} {cl : Cl} {cp : Cp} {ops : Array Oper} {K : KE}
/-! ## What stands behind an operation that writes. -/
def contW (P : Program) (ops : Array Oper) (K : KE) (f : Nat) (listed : Array Bool) (pend : List Nat) (S : World → Prop) (i : Nat) (e : Env) (d : Option Tmp) : KV := fun v w' =>
  match hLeft ops pend i with
  | [] =>
    match (Region.ready .any ops (listed.setIfInBounds i true)).isEmpty with
    | true => hRun P ops K f (listed.setIfInBounds i true) [] S (pt e d v) w'
    | false => hReg (fun S w => hRun P ops K f (listed.setIfInBounds i true) [] S (pt e d v) w) w'
  | p :: ps => hSub S (fun S w => hRun P ops K f (listed.setIfInBounds i true) (p :: ps) S (pt e d v) w) w'
theorem hConj_of {f : Nat → Prop} : ∀ (l : List Nat), (∀ i ∈ l, f i) → hConj l f
  | [], _ => trivial
  | [a], h => h a (.head _)
  | a :: b :: l, h => ⟨h a (.head _), hConj_of (b :: l) fun i hi => h i (.tail _ hi)⟩
theorem hRun_wr {f : Nat} {listed : Array Bool} {pend : List Nat} {S : World → Prop} {rs : List Nat} (hr : rdyL ops listed = rs) (hne : rs ≠ []) (hn : nxtR ops listed = none)
    (h : ∀ i ∈ rs, ∃ o, ops[i]? = some o ∧ cOpG P ops e o (contW P ops K f listed pend S i e o.dst) w) : hRun P ops K (f + 1) listed pend S e w := by
  have hemp : (Region.ready .any ops listed).isEmpty = false := by
    cases hq : Region.ready .any ops listed with
    | nil => exact absurd (hr.symm.trans hq) hne
    | cons a l => rfl
  unfold hRun
  rw [hemp]
  unfold nxtR rdyL at hn
  simp only [hn]
  refine hConj_of _ fun i hi => ?_
  obtain ⟨o, ho, hc⟩ := h i (by rw [← hr]; exact hi)
  unfold hAt
  rw [ho]
  exact hc
theorem hRun_done {f : Nat} {listed : Array Bool} {pend : List Nat} {S : World → Prop} (hr : rdyL ops listed = []) (h : K e w) : hRun P ops K f listed pend S e w := by
  have hemp : (Region.ready .any ops listed).isEmpty = true := by rw [show Region.ready .any ops listed = [] from hr]; rfl
  cases f with
  | zero => unfold hRun; rw [hemp]; exact h
  | succ f => unfold hRun; rw [hemp]; exact h
theorem hRun_end {f : Nat} {listed : Array Bool} {pend : List Nat} {S : World → Prop} (hr : (Region.ready .any ops listed).isEmpty = true) (h : hRun P ops K f listed pend S e w) : K e w := by
  cases f with
  | zero => unfold hRun at h; rw [hr] at h; exact h
  | succ f => unfold hRun at h; rw [hr] at h; exact h
theorem contW_of {f : Nat} {listed : Array Bool} {pend : List Nat} {S : World → Prop} {i : Nat} {d : Option Tmp} {v : Value}
    (hf : hLeft ops pend i = [] → ∃ S', S' w ∧ hRun P ops K f (listed.setIfInBounds i true) [] S' (pt e d v) w)
    (hg : ∀ p ps, hLeft ops pend i = p :: ps → ∃ S', (∀ x, S' x → S x) ∧ S' w ∧ hRun P ops K f (listed.setIfInBounds i true) (p :: ps) S' (pt e d v) w) : contW P ops K f listed pend S i e d v w := by
  unfold contW
  split
  · rename_i hl
    obtain ⟨S', h1, h2⟩ := hf hl
    split
    · rename_i hr
      refine hRun_done ?_ (hRun_end hr h2)
      exact List.isEmpty_iff.1 hr
    · exact ⟨S', h1, h2⟩
  · rename_i p ps hl
    obtain ⟨S', h1, h2, h3⟩ := hg p ps hl
    exact ⟨S', h1, h2, h3⟩
def iOpG (cl : Cl) (P : Program) (G : Glo) (H : AH) (E : Tr GV) (n : Nat) (ops : Array Oper) (o : Oper) : Option (GV × AH) :=
  match (match o.guard with | none => some true | some (j, want) => gB ops.toList E n j want) with
  | some true => iOp cl P G H E n o
  | some false => some (undefG, H)
  | none => none
theorem iOpG_ok {o : Oper} {r : GV} {Kc : KV} (hcl : ClOK P G B0 cl) (h : iOpG cl P G H E n ops o = some (r, H')) (he : EnvR R n E e) (hs : Sim G B0 R H w)
    (hK : ∀ R' v w', Lay.le R R' → r.rel R' v → Sim G B0 R' H' w' → Fr B0 R H w R' H' w' → Kc v w') : cOpG P ops e o Kc w := by
  unfold iOpG at h
  unfold cOpG
  cases hg : o.guard with
  | none =>
    rw [hg] at h
    exact iOp_yls hcl h he hs Kc hK
  | some g =>
    obtain ⟨j, want⟩ := g
    rw [hg] at h
    simp only at h
    split at h
    · rename_i hb
      have hmet := (gB_ok hb he).1 rfl
      exact ⟨fun _ => iOp_yls hcl h he hs Kc hK, fun hh => absurd hmet hh⟩
    · rename_i hb
      cases h
      have hmet : ¬ asB (gdst ops.toList e j) = some want := fun hh => by have := (gB_ok hb he).2 hh; cases this
      exact ⟨fun hh => absurd hh hmet, fun _ => hK R undef w (Lay.le.refl R) rfl hs (Fr.refl ..)⟩
    · cases h

/-! ## A variable that was made early. -/
structure ErlAt (P : Program) (ops : Array Oper) (B0 : Nat) (R : Lay) (H : AH) (w w0 : World) (e : Env) (q : Nat × Nat) (α : Nat) : Prop where
  ptr : gd e q.2 = .pointer (some ⟨α, 0, none⟩)
  ex : ∃ (o : Oper) (t : TypeId) (z : Value), ops[q.1]? = some o ∧ o.op = .alloc t ∧ (P.info? t).bind (·.zero) = some z ∧ blk w α t z.cells.toList
  no : ∀ i o L, H.get i = some o → o.live = true → R i = some L → L.B ≠ α
  b0 : B0 ≤ α
  w0 : w0.heap.size ≤ α
  lt : α < w.heap.size
structure Erl (P : Program) (ops : Array Oper) (B0 : Nat) (R : Lay) (H : AH) (w w0 : World) (e : Env) (la : La) (m : Msk) (al : Nat → Nat) : Prop where
  at_ : ∀ q ∈ la, m q.1 = true → ErlAt P ops B0 R H w w0 e q (al q.1)
  ne : ∀ q ∈ la, ∀ q' ∈ la, m q.1 = true → m q'.1 = true → q.1 ≠ q'.1 → al q.1 ≠ al q'.1
theorem Sim.adopt {α : Nat} {t : TypeId} {cs : List CV} {vs : List Value} (h : Sim G B0 R H w) (hb : blk w α t vs) (hc : All2 (CR R) cs vs) (hno : ∀ i o L, H.get i = some o → o.live = true → R i = some L → L.B ≠ α) (hB : B0 ≤ α) (hn : H.n < 8192) :
    Sim G B0 (upd R H.n ⟨α, 0⟩) (H.new (.cells t 1 false cs)) w where
  obj i o' hi hl := by
    rw [AH.get_new hn] at hi
    split at hi
    · rename_i e; subst e; cases hi
      refine ⟨⟨α, 0⟩, upd_self, hB, vs, hb, ?_⟩
      have hl := hc.len
      refine ⟨?_, by omega, fun _ => hl, (fun hg => by cases hg)⟩
      rw [← hl, List.take_length]
      exact hc.mono fun _ _ => CR.mono (h.upd_le _)
    · obtain ⟨M, h1, h2, h3⟩ := h.obj i o' hi hl
      exact ⟨M, h.upd_le _ _ _ h1, h2, h3.mono (h.upd_le _)⟩
  inj i j oi oj Li Lj hi hj li lj hij ri rj := by
    rw [AH.get_new hn] at hi hj
    unfold upd at ri rj
    split at hi <;> split at hj
    · rename_i a b; omega
    · rename_i a b
      rw [if_pos a] at ri; cases ri
      rw [if_neg b] at rj
      exact (hno j oj Lj hj lj rj).symm
    · rename_i a b
      rw [if_pos b] at rj; cases rj
      rw [if_neg a] at ri
      exact hno i oi Li hi li ri
    · rename_i a b
      rw [if_neg a] at ri; rw [if_neg b] at rj
      exact h.inj i j oi oj Li Lj hi hj li lj hij ri rj
  dom i M hi := by
    show i < H.n + 1
    unfold upd at hi
    split at hi
    · omega
    · have := h.dom i M hi; omega
  big := by show H.n + 1 ≤ 8192; omega
  size := h.size
  glob := h.glob
theorem Fr.adopt {R0 : Lay} {H0 : AH} {w0 : World} {α : Nat} {o : AO} (h : Fr B0 R0 H0 w0 R H w) (ha : w0.heap.size ≤ α) (hn : H.n < 8192) : Fr B0 R0 H0 w0 (upd R H.n ⟨α, 0⟩) (H.new o) w where
  below := h.below
  keep := h.keep
  fresh i o' M hi hl hM := by
    rw [AH.get_new hn] at hi
    unfold upd at hM
    split at hi
    · rename_i e; rw [if_pos e] at hM; cases hM; exact .inr ha
    · rename_i e; rw [if_neg e] at hM; exact h.fresh i o' M hi hl hM
theorem EnvR.same {d : Nat} {r : GV} (h : EnvR R n E e) (hr : r.rel R (gd e d)) : EnvR R n (ptE E n (some d) r) e := by
  have h2 := h.put (d := some d) hr
  have : pt e (some d) (gd e d) = e := by
    unfold pt gd
    simp only
    apply List.ext_getElem?
    intro i
    by_cases hi : d = i
    · subst hi
      rw [List.getElem?_set]
      by_cases hl : d < e.length
      · simp [hl, List.getD_eq_getElem?_getD]
      · simp [hl]
    · rw [List.getElem?_set_ne hi]
  rw [this] at h2; exact h2
theorem ErlAt.step {R' : Lay} {H1 : AH} {w0 w1 : World} {e' : Env} {q : Nat × Nat} {α : Nat} (h : ErlAt P ops B0 R H w w0 e q α) (hf : Fr B0 R H w R' H1 w1) (hd : gd e' q.2 = gd e q.2) : ErlAt P ops B0 R' H1 w1 w0 e' q α where
  ptr := by rw [hd]; exact h.ptr
  ex := by
    obtain ⟨o, t, z, h1, h2, h3, h4⟩ := h.ex
    exact ⟨o, t, z, h1, h2, h3, by unfold blk; rw [hf.keep α h.lt h.no]; exact h4⟩
  no i o L hi hl hL e := by
    rcases hf.fresh i o L hi hl hL with ⟨j, oj, Lj, x, y, z, hz⟩ | hz
    · exact h.no j oj Lj x y z (hz.trans e)
    · have := h.lt; omega
  b0 := h.b0
  w0 := h.w0
  lt := Nat.lt_of_lt_of_le h.lt hf.below.size
theorem Erl.step {R' : Lay} {H1 : AH} {w0 w1 : World} {e' : Env} {la la' : La} {m m' : Msk} {al : Nat → Nat} (h : Erl P ops B0 R H w w0 e la m al) (hf : Fr B0 R H w R' H1 w1) (hsub : ∀ q ∈ la', m' q.1 = true → q ∈ la ∧ m q.1 = true) (hd : ∀ q ∈ la', m' q.1 = true → gd e' q.2 = gd e q.2) : Erl P ops B0 R' H1 w1 w0 e' la' m' al where
  at_ q hq hm := (h.at_ q (hsub q hq hm).1 (hsub q hq hm).2).step hf (hd q hq hm)
  ne q hq q' hq' hm hm' := h.ne q (hsub q hq hm).1 q' (hsub q' hq' hm').1 (hsub q hq hm).2 (hsub q' hq' hm').2
theorem Erl.nil {w0 : World} {m : Msk} {al : Nat → Nat} : Erl P ops B0 R H w w0 e [] m al := ⟨fun q hq => (by cases hq), fun q hq => (by cases hq)⟩

/-! ## The region. -/
def isAl (P : Program) (n : Nat) (ops : Array Oper) (i : Nat) : Option Nat :=
  match ops[i]? with
  | some o => match o.op, o.guard, o.dst with
    | .alloc t, none, some d => match zeroCs P t, Nat.blt d n with | some _, true => some d | _, _ => none
    | _, _, _ => none
  | none => none
def reck (cp : Cp) (P : Program) (G : Glo) (H : AH) (n : Nat) (qs : List Rec) : Bool := qs.all fun q => match rOp2 cp P G H q.E n q.o with | some r => geq r q.r | none => false
theorem reck_ok {qs : List Rec} (h : reck cp P G H n qs = true) : RecOK cp P G H n qs := by
  intro q hq
  have := List.all_eq_true.1 h q hq
  split at this
  · rename_i r hr; rw [hr, geq_ok this]
  · cases this
def memL (la : La) (i : Nat) : Bool := la.any fun q => Nat.beq q.1 i
def fstN (P : Program) (n : Nat) (ops : Array Oper) (la : La) : List Nat → La
  | [] => []
  | i :: r => match isAl P n ops i, memL la i with
    | some d, false => (i, d) :: fstN P n ops la r
    | _, _ => fstN P n ops la r
/-- Which operation is next, which may come ahead from now on, and whether it is one that may have come ahead. -/
def whichW (P : Program) (n : Nat) (ops : Array Oper) (la : La) (rs : List Nat) : Option (Nat × La × Bool) :=
  match rs.find? (fun i => match isAl P n ops i with | some _ => false | none => true) with
  | some j => some (j, fstN P n ops la rs, false)
  | none => match rs.find? (memL la) with
    | some j => some (j, fstN P n ops la rs, true)
    | none => match rs with
      | j :: r => some (j, fstN P n ops la r, false)
      | [] => none
def ndB : List Nat → Bool
  | [] => true
  | a :: r => match r.any (Nat.beq a) with | true => false | false => ndB r
def alsB (P : Program) (n : Nat) (ops : Array Oper) (la : La) : Bool := la.all fun q => onE (isAl P n ops q.1) (some q.2)
/-- Whatever came ahead: no reading stands, and j, or one that may come ahead, is next. -/
def schB (ops : Array Oper) (la : La) (j : Nat) (mg : Bool) (L : Array Bool) : Bool :=
  (allM la L).all fun p => match mg, p.2.any (Nat.beq j) with
    | true, false => true
    | _, _ => match nxtR ops p.1, rdyL ops p.1 with
      | none, i :: r => (i :: r).all fun k => match Nat.beq k j with | true => true | false => p.2.any (Nat.beq k)
      | _, _ => false
def rem (j : Nat) : La → La
  | [] => []
  | (a, d) :: r => match Nat.beq a j with | true => r | false => (a, d) :: rem j r
/-- What is not known while a variable may have been made early. -/
def badE (la : La) (n : Nat) (E : Tr GV) : Tr GV := match la with | [] => E | (_, d) :: r => badE r n (ptE E n (some d) .bad)
def okW (P : Program) (n : Nat) (ops : Array Oper) (la : La) (j : Nat) (mg : Bool) (L : Array Bool) : Bool :=
  match la with
  | [] => match mg, nxtR ops L, rdyL ops L with | false, none, [k] => Nat.beq k j | _, _, _ => false
  | la => match ndB (la.map (·.1)), ndB (la.map (·.2)), alsB P n ops la, memL la j, mg with
    | true, true, true, false, false => schB ops la j false L
    | true, true, true, true, true => schB ops la j true L
    | _, _, _, _, _ => false
def iHR (cl : Cl) (cp : Cp) (P : Program) (G : Glo) (n : Nat) (ops : Array Oper) : Nat → Nat → Array Bool → List Nat → Tr GV → AH → List Rec → La → Option (Tr GV × AH)
  | 0, _, _, _, _, _, _, _ => none
  | m + 1, f, listed, pend, E, H, qs, la =>
    match iRd cp P G H n ops la f listed pend E qs with
    | none => none
    | some (f1, L1, pd, E1, q1) =>
      match rdyL ops L1 with
      | [] => match la with | [] => some (E1, H) | _ :: _ => none
      | j0 :: js =>
        match whichW P n ops la (j0 :: js), f1 with
        | some (j, new, mg), f2 + 1 =>
          match okW P n ops (new ++ la) j mg L1, ops[j]?, mg with
          | true, some o, true => match o.op with
            | .alloc t => match alcG P H t with
              | some (r, H1) => match reck cp P G H1 n q1 && fuelOK (rem j (new ++ la)) f2 with
                | true => iHR cl cp P G n ops m f2 (L1.setIfInBounds j true) pd (ptE (badE (new ++ la) n E1) n o.dst r) H1 q1 (rem j (new ++ la))
                | false => none
              | none => none
            | _ => none
          | true, some o, false => match dstOK (new ++ la) o, fuelOK (new ++ la) f2, iOpG cl P G H (badE (new ++ la) n E1) n ops o with
            | true, true, some (r, H1) => match hLeft ops pd j with
              | [] => iHR cl cp P G n ops m f2 (L1.setIfInBounds j true) [] (ptE (badE (new ++ la) n E1) n o.dst r) H1 [] (new ++ la)
              | p :: ps => match reck cp P G H1 n q1 with
                | true => iHR cl cp P G n ops m f2 (L1.setIfInBounds j true) (p :: ps) (ptE (badE (new ++ la) n E1) n o.dst r) H1 q1 (new ++ la)
                | false => none
            | _, _, _ => none
          | _, _, _ => none
        | _, _ => none
theorem hLeft_sub' {p p2 : List Nat} {i : Nat} (h : ∀ x ∈ p, x ∈ p2) : ∀ x ∈ hLeft ops p i, x ∈ hLeft ops p2 i := by
  intro x hx
  unfold hLeft at hx ⊢
  rw [List.mem_filter] at hx ⊢
  exact ⟨h x hx.1, hx.2⟩
theorem hLeft_mem {p : List Nat} {i x : Nat} (h : x ∈ hLeft ops p i) : x ∈ p := by
  unfold hLeft at h
  exact (List.mem_filter.1 h).1
theorem isAl_ok {i d : Nat} (h : isAl P n ops i = some d) : ∃ o t cs, ops[i]? = some o ∧ o.op = .alloc t ∧ o.guard = none ∧ o.dst = some d ∧ zeroCs P t = some cs ∧ d < n := by
  unfold isAl at h
  split at h
  · rename_i o ho
    split at h
    · rename_i t d' h1 h2 h3
      split at h
      · rename_i cs hz hb; cases h; exact ⟨o, t, cs, ho, h1, h2, h3, hz, blt_iff.1 hb⟩
      · cases h
    · cases h
  · cases h
theorem badE_same : ∀ {la : La} {E : Tr GV}, EnvR R n E e → EnvR R n (badE la n E) e
  | [], _, h => h
  | (_, d) :: r, _, h => badE_same (la := r) (h.same (d := d) (r := .bad) trivial)
theorem getE_bad {d d' : Nat} (hn : n ≤ 256) (hd : d < n) (h : getE E d = .bad ∨ d = d') : getE (ptE E n (some d') .bad) d = .bad := by
  unfold ptE
  simp only
  cases hb : Nat.blt d' n with
  | false =>
    have hd' : ¬ d' < n := fun hh => by rw [blt_iff.2 hh] at hb; cases hb
    simp only
    rcases h with h | h
    · exact h
    · omega
  | true =>
    have hd' := blt_iff.1 hb
    simp only
    unfold getE
    rw [Tr.get8_set8 _ _ _ _ (by omega) (by omega)]
    by_cases hdd : d' = d
    · rw [if_pos hdd]
    · rw [if_neg hdd]
      rcases h with h | h
      · unfold getE at h; exact h
      · exact absurd h.symm hdd
theorem badE_bad {d : Nat} (hn : n ≤ 256) (hd : d < n) : ∀ {la : La} {E : Tr GV}, (getE E d = .bad ∨ ∃ a, (a, d) ∈ la) → getE (badE la n E) d = .bad
  | [], E, h => by
    rcases h with h | ⟨a, h⟩
    · exact h
    · cases h
  | (a', d') :: r, E, h => by
    unfold badE
    refine badE_bad hn hd ?_
    rcases h with h | ⟨a, h⟩
    · exact .inl (getE_bad hn hd (.inl h))
    · cases h with
      | head => exact .inl (getE_bad hn hd (.inr rfl))
      | tail _ h => exact .inr ⟨a, h⟩
theorem badE_pt {d : Nat} {v : Value} {la : La} (hd : d < n) (hla : ∃ a, (a, d) ∈ la) (h : EnvR R n (badE la n E) e) : EnvR R n (badE la n E) (pt e (some d) v) := by
  refine ⟨by unfold pt; simpa using h.len, h.big, fun i hi => ?_⟩
  by_cases hid : d = i
  · subst hid
    rw [badE_bad h.big hd (.inr hla)]
    trivial
  · have : gd (pt e (some d) v) i = gd e i := by unfold pt gd; simp [List.getD_eq_getElem?_getD, List.getElem?_set_ne hid]
    rw [this]; exact h.rel i hi
/-! ## Which came ahead. -/
def ups (m : Msk) (i : Nat) : Msk := fun x => match Nat.beq x i with | true => true | false => m x
def dns (m : Msk) (i : Nat) : Msk := fun x => match Nat.beq x i with | true => false | false => m x
theorem ups_self (m : Msk) (i : Nat) : ups m i i = true := by unfold ups; simp
theorem ups_ne (m : Msk) {i x : Nat} (h : x ≠ i) : ups m i x = m x := by
  unfold ups
  cases hb : Nat.beq x i with
  | true => exact absurd (Nat.eq_of_beq_eq_true hb) h
  | false => rfl
theorem dns_self (m : Msk) (i : Nat) : dns m i i = false := by unfold dns; simp
theorem dns_ne (m : Msk) {i x : Nat} (h : x ≠ i) : dns m i x = m x := by
  unfold dns
  cases hb : Nat.beq x i with
  | true => exact absurd (Nat.eq_of_beq_eq_true hb) h
  | false => rfl
theorem ndB_ok : ∀ {l : List Nat}, ndB l = true → l.Nodup
  | [], _ => .nil
  | a :: r, h => by
    unfold ndB at h
    split at h
    · cases h
    · rename_i hb
      refine List.nodup_cons.2 ⟨fun hm => ?_, ndB_ok h⟩
      have : r.any (Nat.beq a) = true := List.any_eq_true.2 ⟨a, hm, by simp⟩
      rw [this] at hb; cases hb
section
variable {m : Msk} {a d : Nat} {r : La} {l : Array Bool}
theorem withs_t (h : m a = true) : withs ((a, d) :: r) m l = (withs r m l).setIfInBounds a true := by
  show (match m a with | true => (withs r m l).setIfInBounds a true | false => withs r m l) = _
  rw [h]
theorem withs_f (h : m a = false) : withs ((a, d) :: r) m l = withs r m l := by
  show (match m a with | true => (withs r m l).setIfInBounds a true | false => withs r m l) = _
  rw [h]
theorem delta_t (h : m a = true) : delta ((a, d) :: r) m = delta r m + 1 := by
  show (match m a with | true => delta r m + 1 | false => delta r m) = _
  rw [h]
theorem delta_f (h : m a = false) : delta ((a, d) :: r) m = delta r m := by
  show (match m a with | true => delta r m + 1 | false => delta r m) = _
  rw [h]
theorem unM_t (h : m a = true) : unM ((a, d) :: r) m = unM r m := by
  show (match m a with | true => unM r m | false => a :: unM r m) = _
  rw [h]
theorem unM_f (h : m a = false) : unM ((a, d) :: r) m = a :: unM r m := by
  show (match m a with | true => unM r m | false => a :: unM r m) = _
  rw [h]
end
theorem withs_eq {la : La} {m m' : Msk} (h : ∀ q ∈ la, m q.1 = m' q.1) (l : Array Bool) : withs la m l = withs la m' l ∧ delta la m = delta la m' ∧ unM la m = unM la m' := by
  induction la with
  | nil => exact ⟨rfl, rfl, rfl⟩
  | cons q r ih =>
    obtain ⟨a, d⟩ := q
    obtain ⟨h1, h2, h3⟩ := ih fun q hq => h q (.tail _ hq)
    have h0 := h (a, d) (.head _)
    simp only at h0
    cases hm : m a with
    | true =>
      have hm' : m' a = true := by rw [← h0]; exact hm
      rw [withs_t hm, withs_t hm', delta_t hm, delta_t hm', unM_t hm, unM_t hm', h1, h2, h3]
      exact ⟨rfl, rfl, rfl⟩
    | false =>
      have hm' : m' a = false := by rw [← h0]; exact hm
      rw [withs_f hm, withs_f hm', delta_f hm, delta_f hm', unM_f hm, unM_f hm', h1, h2, h3]
      exact ⟨rfl, rfl, rfl⟩
/-- One more came ahead. -/
theorem withs_ups {m : Msk} {i d : Nat} {l : Array Bool} : ∀ {la : La}, (la.map (·.1)).Nodup → (i, d) ∈ la → m i = false → withs la (ups m i) l = (withs la m l).setIfInBounds i true ∧ delta la (ups m i) = delta la m + 1 ∧ (unM la m).length = (unM la (ups m i)).length + 1
  | [], _, h, _ => by cases h
  | (a, d') :: r, hn, h, hm => by
    rw [List.map_cons, List.nodup_cons] at hn
    by_cases hai : a = i
    · subst hai
      obtain ⟨h1, h2, h3⟩ := withs_eq (la := r) (m := ups m a) (m' := m) (fun q hq => ups_ne m fun he => hn.1 (List.mem_map.2 ⟨q, hq, he⟩)) l
      rw [withs_t (ups_self m a), delta_t (ups_self m a), unM_t (ups_self m a), withs_f hm, delta_f hm, unM_f hm, h1, h2, h3]
      exact ⟨rfl, rfl, rfl⟩
    · have hir : (i, d) ∈ r := by
        cases h with
        | head => exact absurd rfl hai
        | tail _ h => exact h
      obtain ⟨h1, h2, h3⟩ := withs_ups (la := r) (l := l) hn.2 hir hm
      have hu := ups_ne m hai
      cases hma : m a with
      | true =>
        rw [hma] at hu
        rw [withs_t hu, delta_t hu, unM_t hu, withs_t hma, delta_t hma, unM_t hma, h1, h2]
        exact ⟨set_comm _ _ _, rfl, h3⟩
      | false =>
        rw [hma] at hu
        rw [withs_f hu, delta_f hu, unM_f hu, withs_f hma, delta_f hma, unM_f hma, h1, h2]
        exact ⟨rfl, rfl, by simp only [List.length_cons]; omega⟩
theorem withs_new {m : Msk} {l : Array Bool} : ∀ {new la : La}, (∀ q ∈ new, m q.1 = false) → withs (new ++ la) m l = withs la m l ∧ delta (new ++ la) m = delta la m
  | [], la, _ => ⟨rfl, rfl⟩
  | (a, d) :: r, la, h => by
    obtain ⟨h1, h2⟩ := withs_new (la := la) (l := l) (m := m) (new := r) fun q hq => h q (.tail _ hq)
    have := h (a, d) (.head _)
    rw [List.cons_append, withs_f this, delta_f this]
    exact ⟨h1, h2⟩
theorem rem_mem {j : Nat} {q : Nat × Nat} : ∀ {la : La}, q ∈ rem j la → q ∈ la
  | [], h => h
  | (a, d) :: r, h => by
    unfold rem at h
    split at h
    · exact .tail _ h
    · cases h with
      | head => exact .head _
      | tail _ h => exact .tail _ (rem_mem h)
theorem rem_ne {j : Nat} {q : Nat × Nat} : ∀ {la : La}, (la.map (·.1)).Nodup → q ∈ rem j la → q.1 ≠ j
  | [], _, h => by cases h
  | (a, d) :: r, hn, h => by
    rw [List.map_cons, List.nodup_cons] at hn
    unfold rem at h
    split at h
    · rename_i hb
      have hb := Nat.eq_of_beq_eq_true hb
      intro he
      exact hn.1 (List.mem_map.2 ⟨q, h, by rw [he]; exact hb.symm⟩)
    · rename_i hb
      have hb := eb hb
      simp only [Bool.false_eq_true, if_false] at hb
      cases h with
      | head => exact hb
      | tail _ h => exact rem_ne hn.2 h
theorem withs_rem {m : Msk} {j d : Nat} {l : Array Bool} : ∀ {la : La}, (la.map (·.1)).Nodup → (j, d) ∈ la →
    (m j = true → withs la m l = (withs (rem j la) m l).setIfInBounds j true ∧ delta la m = delta (rem j la) m + 1) ∧ (m j = false → withs la m l = withs (rem j la) m l ∧ delta la m = delta (rem j la) m)
  | [], _, h => by cases h
  | (a, d') :: r, hn, h => by
    rw [List.map_cons, List.nodup_cons] at hn
    unfold rem
    cases hb : Nat.beq a j with
    | true =>
      have hb := Nat.eq_of_beq_eq_true hb
      subst hb
      exact ⟨fun hm => ⟨withs_t hm, delta_t hm⟩, fun hm => ⟨withs_f hm, delta_f hm⟩⟩
    | false =>
      have hb := eb hb
      simp only [Bool.false_eq_true, if_false] at hb
      have hir : (j, d) ∈ r := by
        cases h with
        | head => exact absurd rfl hb
        | tail _ h => exact h
      obtain ⟨h1, h2⟩ := withs_rem (m := m) (l := l) hn.2 hir
      simp only
      refine ⟨fun hm => ?_, fun hm => ?_⟩
      · obtain ⟨g1, g2⟩ := h1 hm
        cases hma : m a with
        | true => rw [withs_t hma, delta_t hma, withs_t hma, delta_t hma, g1, g2]; exact ⟨set_comm _ _ _, rfl⟩
        | false => rw [withs_f hma, delta_f hma, withs_f hma, delta_f hma, g1, g2]; exact ⟨rfl, rfl⟩
      · obtain ⟨g1, g2⟩ := h2 hm
        cases hma : m a with
        | true => rw [withs_t hma, delta_t hma, withs_t hma, delta_t hma, g1, g2]; exact ⟨rfl, rfl⟩
        | false => rw [withs_f hma, delta_f hma, withs_f hma, delta_f hma, g1, g2]; exact ⟨rfl, rfl⟩
theorem rem_of {j x d : Nat} (hx : x ≠ j) : ∀ {la : La}, (x, d) ∈ la → (x, d) ∈ rem j la
  | [], h => by cases h
  | (a, d') :: r, h => by
    unfold rem
    cases hb : Nat.beq a j with
    | true =>
      cases h with
      | head => exact absurd (Nat.eq_of_beq_eq_true hb) hx
      | tail _ h => exact h
    | false =>
      cases h with
      | head => exact .head _
      | tail _ h => exact .tail _ (rem_of hx h)
theorem nd_inj {α β : Type} {f : α → β} : ∀ {l : List α}, (l.map f).Nodup → ∀ {a b : α}, a ∈ l → b ∈ l → f a = f b → a = b
  | [], _, a, b, ha, _, _ => by cases ha
  | x :: l, h, a, b, ha, hb, he => by
    rw [List.map_cons, List.nodup_cons] at h
    cases ha with
    | head =>
      cases hb with
      | head => rfl
      | tail _ hb => exact absurd (List.mem_map.2 ⟨b, hb, he.symm⟩) h.1
    | tail _ ha =>
      cases hb with
      | head => exact absurd (List.mem_map.2 ⟨a, ha, he⟩) h.1
      | tail _ hb => exact nd_inj h.2 ha hb he
theorem memL_ok {la : La} {i : Nat} : (memL la i = true → ∃ d, (i, d) ∈ la) ∧ (memL la i = false → ∀ q ∈ la, q.1 ≠ i) := by
  unfold memL
  refine ⟨fun h => ?_, fun h q hq he => ?_⟩
  · obtain ⟨q, h1, h2⟩ := List.any_eq_true.1 h
    exact ⟨q.2, by rw [← Nat.eq_of_beq_eq_true h2]; exact h1⟩
  · have : la.any (fun q => Nat.beq q.1 i) = true := List.any_eq_true.2 ⟨q, hq, by rw [he]; simp⟩
    rw [this] at h; cases h
theorem anyN {l : List Nat} {k : Nat} (h : l.any (Nat.beq k) = true) : k ∈ l := by
  obtain ⟨x, h1, h2⟩ := List.any_eq_true.1 h
  rw [Nat.eq_of_beq_eq_true h2]; exact h1
theorem unM_of {m : Msk} {j d : Nat} : ∀ {la : La}, (j, d) ∈ la → m j = false → j ∈ unM la m
  | [], h, _ => by cases h
  | (a, d') :: r, h, hm => by
    unfold unM
    cases h with
    | head => rw [hm]; exact .head _
    | tail _ h =>
      have := unM_of h hm
      cases m a with
      | true => exact this
      | false => exact .tail _ this
theorem sch_ok {la : La} {j : Nat} {mg : Bool} {L : Array Bool} {m : Msk} (h : schB ops la j mg L = true) (hj : mg = true → j ∈ unM la m) :
    nxtR ops (withs la m L) = none ∧ rdyL ops (withs la m L) ≠ [] ∧ ∀ k ∈ rdyL ops (withs la m L), k = j ∨ k ∈ unM la m := by
  have h := List.all_eq_true.1 h _ (withs_mem m L la)
  have core : (match nxtR ops (withs la m L), rdyL ops (withs la m L) with
      | none, i :: r => (i :: r).all fun k => match Nat.beq k j with | true => true | false => (unM la m).any (Nat.beq k)
      | _, _ => false) = true := by
    cases mg with
    | false => exact h
    | true =>
      have : (unM la m).any (Nat.beq j) = true := List.any_eq_true.2 ⟨j, hj rfl, by simp⟩
      simp only [this] at h
      exact h
  split at core
  · rename_i i r h1 h2
    refine ⟨h1, by rw [h2]; simp, fun k hk => ?_⟩
    rw [h2] at hk
    have := List.all_eq_true.1 core k hk
    split at this
    · rename_i hb; exact .inl (Nat.eq_of_beq_eq_true hb)
    · exact .inr (anyN this)
  · cases core
theorem okW_ok {la : La} {j : Nat} {mg : Bool} {L : Array Bool} (h : okW P n ops la j mg L = true) :
    (la.map (·.1)).Nodup ∧ (la.map (·.2)).Nodup ∧ (∀ q ∈ la, isAl P n ops q.1 = some q.2) ∧ (mg = true → ∃ d, (j, d) ∈ la) ∧ (mg = false → ∀ q ∈ la, q.1 ≠ j) ∧
    ∀ m, (mg = true → m j = false) → nxtR ops (withs la m L) = none ∧ rdyL ops (withs la m L) ≠ [] ∧ ∀ k ∈ rdyL ops (withs la m L), k = j ∨ k ∈ unM la m := by
  cases la with
  | nil =>
    unfold okW at h
    simp only at h
    split at h
    · rename_i k h1 h2
      have h := Nat.eq_of_beq_eq_true h
      subst h
      refine ⟨.nil, .nil, fun q hq => (by cases hq), fun hh => (by cases hh), fun _ q hq => (by cases hq), fun m _ => ⟨h1, by rw [show withs [] m L = L from rfl, h2]; simp, fun x hx => ?_⟩⟩
      rw [show withs [] m L = L from rfl, h2] at hx
      exact .inl (List.mem_singleton.1 hx)
    · cases h
  | cons q r =>
    unfold okW at h
    simp only at h
    split at h
    · rename_i h1 h2 h3 h4
      refine ⟨ndB_ok h1, ndB_ok h2, fun q hq => onE_ok (List.all_eq_true.1 h3 q hq), fun hh => (by cases hh), fun _ => memL_ok.2 h4, fun m _ => sch_ok h fun hh => by cases hh⟩
    · rename_i h1 h2 h3 h4
      obtain ⟨d, hd⟩ := memL_ok.1 h4
      refine ⟨ndB_ok h1, ndB_ok h2, fun q hq => onE_ok (List.all_eq_true.1 h3 q hq), fun _ => ⟨d, hd⟩, fun hh => (by cases hh), fun m hm => sch_ok h fun _ => ?_⟩
      exact unM_of hd (hm rfl)
    · cases h
end
end Go.Proofs.YtnmjfakibhekmaaGreatDoor
