/- Runs in which all is known but where blocks stand: a range over a function. Nothing of the program is named here. -/
import Derived.Test.YtnmjfakibhekmaaGreatDoorRn15
import Derived.RangeFuncOwn
namespace Go.Proofs.YtnmjfakibhekmaaGreatDoor
set_option maxRecDepth 100000
open Go.RowKit

def Out.x : Out → Exit
  | .nrm _ _ => .normal
  | .ext i _ _ => .exit i
  | .ret _ _ => .ret

/-! ## A round. -/
/-- A round's parameters. -/
def putE (n : Nat) : List (Tmp × GV) → Tr GV → Tr GV
  | [], E => E
  | (p, v) :: r, E => putE n r (ptE E n (some p) v)
def putV : List (Tmp × Value) → Env → Env
  | [], e => e
  | (p, v) :: r, e => putV r (e.set p v)
/-- A round: how the loop is to be left behind it. -/
def iRnd (ht : Ht) (cl : Cl) (cp : Cp) (P : Program) (G : Glo) (n F : Nat) (E : Tr GV) (ps : List Tmp) (a bd : Code) (as : List GV) (H : AH) : Option (Option Code × AH) :=
  match Nat.beq as.length ps.length with
  | true => match iCode ht cl cp P G n F a (putE n (ps.zip as) E) H with
    | some (.nrm E1 H1) => match iCode ht cl cp P G n F bd E1 H1 with
      | some (.nrm _ H2) => some (none, H2)
      | some (.ext i _ H2) => some (some (.exit i), H2)
      | some (.ret _ H2) => some (some .ret, H2)
      | none => none
    | _ => none
  | false => none
abbrev Rnd := List GV → AH → Option (Option Code × AH)

/-! ## The function that is ranged over. -/
/-- The arguments, if this calls the body of the loop b. -/
def isY (b : Nat) (E : Tr GV) (n : Nat) (o : Oper) : Option (List Operand) :=
  match o.op with
  | .call c => match c.callee with
    | .value (.tmp t) => match evG E n (.tmp t) with
      | some (.val (.one (.yd b'))) => match Nat.beq b b' with | true => some c.args.toList | false => none
      | _ => none
    | _ => none
  | _ => none
def iYs (rnd : Rnd) (b : Nat) (cl : Cl) (P : Program) (G : Glo) (n : Nat) (ops : Array Oper) : List Oper → Tr GV → AH → Option Code → Option (Tr GV × AH × Option Code)
  | [], E, H, y => some (E, H, y)
  | o :: r, E, H, y => match (match o.guard with | none => some true | some (j, want) => gB ops.toList E n j want) with
    | none => none
    | some false => iYs rnd b cl P G n ops r (ptE E n o.dst undefG) H y
    | some true => match isY b E n o with
      | some args => match y, evL E n args with
        | none, some l => match rnd l H with
          | some (j, H1) => iYs rnd b cl P G n ops r (ptE E n o.dst (kG (.bool j.isNone))) H1 j
          | none => none
        | _, _ => none
      | none => match ndO o with
        | true => match iOp cl P G H E n o with
          | some (g, H1) => iYs rnd b cl P G n ops r (ptE E n o.dst g) H1 y
          | none => none
        | false => none
/-- A value is called in it. -/
def anyV (ops : List Oper) : Bool := ops.any fun o => match o.op with | .call c => (match c.callee with | .value (.tmp _) => true | _ => false) | _ => false
def iY (rnd : Rnd) (b : Nat) (ht : Ht) (cl : Cl) (cp : Cp) (P : Program) (G : Glo) (n : Nat) : Nat → Code → Tr GV → AH → Option Code → Option (Out × Option Code)
  | 0, _, _, _, _ => none
  | f + 1, c, E, H, y =>
    match c with
    | .seq a b' => match iY rnd b ht cl cp P G n f a E H y with
      | some (.nrm E1 H1, y1) => iY rnd b ht cl cp P G n f b' E1 H1 y1
      | r => r
    | .cond c x z => match isT E n c with
      | some true => iY rnd b ht cl cp P G n f x E H y
      | some false => iY rnd b ht cl cp P G n f z E H y
      | none => none
    | .block id c => match iY rnd b ht cl cp P G n f c E H y with
      | some (.ext i E1 H1, y1) => match Nat.beq i id with | true => some (.nrm E1 H1, y1) | false => some (.ext i E1 H1, y1)
      | r => r
    | .loop c => match iY rnd b ht cl cp P G n f c E H y with
      | some (.nrm E1 H1, y1) => iY rnd b ht cl cp P G n f (.loop c) E1 H1 y1
      | r => r
    | .region id ops false => match anyV ops.toList with
      | true => match iYs rnd b cl P G n ops ops.toList E H y with | some (E1, H1, y1) => some (.nrm E1 H1, y1) | none => none
      | false => match iCode ht cl cp P G n f (.region id ops false) E H with | some o => some (o, y) | none => none
    | c => match iCode ht cl cp P G n f c E H with | some o => some (o, y) | none => none

/-! ## A function with such a loop. -/
def iRf (hts : FuncId → Ht) (ht : Ht) (cl : Cl) (cp : Cp) (P : Program) (G : Glo) (n f : Nat) (g : Operand) (ps : List Tmp) (a bd : Code) (E : Tr GV) (H : AH) : Option (AH × Option Code) :=
  match evG E n g with
  | some x => match fnOf x with
    | some (gf, [], cap) => match P.funcs[gf]? with
      | some fn => match fn.body, Nat.blt H.n 8192, Nat.ble (cap.length + 1) fn.ntmps, Nat.ble fn.ntmps 256, fn.results.toList with
        | some c, true, true, true, [] => match iY (iRnd ht cl cp P G n f E ps a bd) H.n (hts gf) cl cp P G fn.ntmps f c (iniE fn.ntmps 0 (oneG (.yd H.n) :: cap) .e) (H.new .dead) none with
          | some (.nrm _ H1, y) => some (H1, y)
          | some (.ret _ H1, y) => some (H1, y)
          | _ => none
        | _, _, _, _, _ => none
      | none => none
    | _ => none
  | none => none
def outOf (E : Tr GV) : Option (AH × Option Code) → Option (Out × Bool)
  | some (H, none) => some (.nrm E H, true)
  | some (H, some .ret) => some (.ret E H, true)
  | some (H, some (.exit i)) => some (.ext i E H, true)
  | _ => none
def iM (hts : FuncId → Ht) (ht : Ht) (cl : Cl) (cp : Cp) (P : Program) (G : Glo) (n : Nat) : Nat → Code → Tr GV → AH → Bool → Option (Out × Bool)
  | 0, _, _, _, _ => none
  | f + 1, c, E, H, mk =>
    match c with
    | .seq a b => match iM hts ht cl cp P G n f a E H mk with
      | some (.nrm E1 H1, mk1) => iM hts ht cl cp P G n f b E1 H1 mk1
      | r => r
    | .block id b => match b with
      | .rangeFunc g ps a bd => match mk with
        | false => match outOf E (iRf hts ht cl cp P G n f g ps.toList a bd E H) with
          | some (.ext i E1 H1, mk1) => match Nat.beq i id with | true => some (.nrm E1 H1, mk1) | false => some (.ext i E1 H1, mk1)
          | r => r
        | true => none
      | b => match iCode ht cl cp P G n f (.block id b) E H with | some o => some (o, mk) | none => none
    | c => match iCode ht cl cp P G n f c E H with | some o => some (o, mk) | none => none
section
variable {P : Program} {G : Glo} {B0 : Nat} {R : Lay} {H H' : AH} {w w' : World} {n : Nat} {E E' : Tr GV} {e : Env} {cl : Cl} {cp : Cp} {K : KE} {ht : Ht}
theorem putE_ok : ∀ {ps : List Tmp} {as : List GV} {vs : List Value} {E : Tr GV} {e : Env}, All2 (GV.rel R) as vs → EnvR R n E e → EnvR R n (putE n (ps.zip as) E) (putV (ps.zip vs) e)
  | [], _, _, _, _, _, h => by simpa [putE, putV] using h
  | _ :: _, _, _, _, _, .nil, h => by simpa [putE, putV] using h
  | p :: ps, _, _, _, _, .cons h1 h2, h => putE_ok (ps := ps) h2 (h.put (d := some p) h1)
theorem putV_eq : ∀ (l : List (Tmp × Value)) (e : Env), l.foldl (fun t p => t.setIfInBounds p.1 p.2) e.toArray = (putV l e).toArray
  | [], e => rfl
  | (p, v) :: l, e => by
    rw [List.foldl_cons, show e.toArray.setIfInBounds p v = (e.set p v).toArray by simp]
    exact putV_eq l _

/-- A block that is none of the objects. -/
structure BkAt (Bm : Nat) (R : Lay) (H : AH) (w : World) (D : Nat) (o : Obj) : Prop where
  dl : w.heap[D]? = some o
  b0 : Bm ≤ D
  no : ∀ i o L, H.get i = some o → o.live = true → R i = some L → L.B ≠ D
def Mk (Bm : Nat) (R : Lay) (H : AH) (w : World) (mk : Bool) (ds : List Deferred) : Prop := match mk with | false => ds = [] | true => ∃ D, ds = [{ target := .collected D, args := #[] }] ∧ BkAt Bm R H w D (.deferred (some []))
theorem BkAt.step {Bm : Nat} {R' : Lay} {H1 : AH} {w1 : World} {D : Nat} {o : Obj} (h : BkAt Bm R H w D o) (hf : Fr B0 R H w R' H1 w1) : BkAt Bm R' H1 w1 D o := by
  have hlt := (Array.getElem?_eq_some_iff.1 h.dl).1
  refine ⟨by rw [hf.keep D hlt h.no]; exact h.dl, h.b0, fun i o L hi hl hL e => ?_⟩
  rcases hf.fresh i o L hi hl hL with ⟨j, oj, Lj, x, y, z, hz⟩ | hz
  · exact h.no j oj Lj x y z (hz.trans e)
  · omega
theorem BkAt.set {Bm D : Nat} {o o' : Obj} (h : BkAt Bm R H w D o) : BkAt Bm R H (w.putObj D o') D o' := ⟨World.putObj_heap_same (Array.getElem?_eq_some_iff.1 h.dl).1, h.b0, h.no⟩
theorem BkAt.oth {Bm D l : Nat} {o o' : Obj} (h : BkAt Bm R H w D o) (hne : D ≠ l) : BkAt Bm R H (w.putObj l o') D o := ⟨by rw [World.putObj_heap_other hne]; exact h.dl, h.b0, h.no⟩
theorem Mk.step {Bm : Nat} {R' : Lay} {H1 : AH} {w1 : World} {mk : Bool} {ds : List Deferred} (h : Mk Bm R H w mk ds) (hf : Fr B0 R H w R' H1 w1) : Mk Bm R' H1 w1 mk ds := by
  cases mk with
  | false => exact h
  | true => obtain ⟨D, h1, h2⟩ := h; exact ⟨D, h1, h2.step hf⟩
theorem Sim.oth {l : Nat} (h : Sim G B0 R H w) (hl : B0 ≤ l) (hs : w'.heap.size = w.heap.size) (hw : ∀ k, k ≠ l → w'.heap[k]? = w.heap[k]?) (hno : ∀ i o L, H.get i = some o → o.live = true → R i = some L → L.B ≠ l) : Sim G B0 R H w' where
  obj i o hi hl := by
    obtain ⟨L, h1, h2, h3⟩ := h.obj i o hi hl
    exact ⟨L, h1, h2, h3.same (hw _ (hno i o L hi hl h1))⟩
  inj := h.inj
  dom := h.dom
  big := h.big
  size := by rw [hs]; exact h.size
  glob g e cs hg := by
    obtain ⟨h1, h2⟩ := h.glob g e cs hg
    exact ⟨h1, h2.same (hw g (by omega))⟩
theorem Fr.oth {R' : Lay} {H1 : AH} {w1 w2 : World} {l : Nat} {o2 : Obj} (h : Fr B0 R H w R' H1 w1) (hs : Sim G B0 R H w) (hl : w.heap.size ≤ l) (hw : w2 = w1.putObj l o2) : Fr B0 R H w R' H1 w2 where
  below := by
    subst hw
    have hb := h.below
    have := hs.size
    exact ⟨hb.os, hb.tape, hb.output, by rw [World.putObj_size]; exact hb.size, fun k hk => by rw [World.putObj_heap_other (by omega)]; exact hb.block k hk⟩
  keep k hk hno := by
    subst hw
    rw [World.putObj_heap_other (by omega)]
    exact h.keep k hk hno
  fresh := h.fresh

/-- The loop's record. -/
def recL (fn : FuncId) (e : Env) (ps : Array Tmp) (a bd : Code) (D : Nat) (st : LoopState) (y : Option Code) : Loop := { state := st, pending := y, fn, tmps := e.toArray, params := ps, assign := a, body := bd, defers := D }
def stL (y : Option Code) : LoopState := if y.isNone then .ready else .done
/-- The loop's record and the block for its deferred calls stand. -/
structure LpAt (Bm : Nat) (R : Lay) (H : AH) (w : World) (l D : Nat) (r : Loop) : Prop where
  lp : BkAt Bm R H w l (.loop r)
  df : BkAt Bm R H w D (.deferred (some []))
  ne : D ≠ l
theorem LpAt.step {Bm : Nat} {R' : Lay} {H1 : AH} {w1 : World} {l D : Nat} {r : Loop} (h : LpAt Bm R H w l D r) (hf : Fr B0 R H w R' H1 w1) : LpAt Bm R' H1 w1 l D r := ⟨h.lp.step hf, h.df.step hf, h.ne⟩
theorem LpAt.set {Bm : Nat} {l D : Nat} {r r' : Loop} (h : LpAt Bm R H w l D r) : LpAt Bm R H (w.putObj l (.loop r')) l D r' := ⟨h.lp.set, h.df.oth h.ne, h.ne⟩
theorem LpAt.sim {Bm : Nat} {l D : Nat} {r : Loop} {o : Obj} (h : LpAt Bm R H w l D r) (hB : B0 ≤ Bm) (hs : Sim G B0 R H w) : Sim G B0 R H (w.putObj l o) :=
  hs.oth (l := l) (Nat.le_trans hB h.lp.b0) World.putObj_size (fun k hk => World.putObj_heap_other hk) h.lp.no

section round
variable {Bm : Nat} {R0 : Lay} {H0 : AH} {w0 : World} {l D : Nat} {fn : FuncId} {ps : Array Tmp} {a bd : Code}
theorem rnd_ok {g : Operand} {F nn : Nat} {as : List GV} {vs : List Value} {j : Option Code} {K : KV} (hcl : ClOK P G B0 cl) (hcp : CpOK P G B0 cp) (hh : hintB P ht (.rangeFunc g ps a bd) = true)
    (h : iRnd ht cl cp P G n F E ps.toList a bd as H = some (j, H')) (he : EnvR R n E e) (hs : Sim G B0 R H w) (hL : LpAt Bm R H w l D (recL fn e ps a bd D .ready none)) (hB : B0 ≤ Bm) (ha : All2 (GV.rel R) as vs)
    (hf0 : Fr B0 R0 H0 w0 R H w) (hs0 : Sim G B0 R0 H0 w0) (hl0 : w0.heap.size ≤ l)
    (hK : ∀ R' w', Lay.le R R' → Sim G B0 R' H' w' → Fr B0 R0 H0 w0 R' H' w' → LpAt Bm R' H' w' l D (recL fn e ps a bd D (stL j) j) → K (.bool j.isNone) w') :
    vs.length = ps.size ∧ RoundIn Fence.wide nn P l fn ((ps.zip vs.toArray).foldl (fun tmps (t, a) => tmps.setIfInBounds t a) e.toArray) a bd w (fun x w' => ∃ v, x = .returned v ∧ K v w') := by
  obtain ⟨hha, hhb, na, nb⟩ : hintB P ht a = true ∧ hintB P ht bd = true ∧ ndC a = true ∧ ndC bd = true := by
    unfold hintB at hh
    split at hh
    · rename_i h1
      split at hh
      · rename_i h2
        split at hh
        · rename_i h3; exact ⟨h1, h2, h3, hh⟩
        · cases hh
      · cases hh
    · cases hh
  unfold iRnd at h
  split at h
  · rename_i hlen
    have hlen := Nat.eq_of_beq_eq_true hlen
    refine ⟨by rw [ha.len, hlen]; simp, ?_⟩
    have etmp : (ps.zip vs.toArray).foldl (fun tmps (t, a) => tmps.setIfInBounds t a) e.toArray = (putV (ps.toList.zip vs) e).toArray := by
      rw [← putV_eq, ← Array.foldl_toList]
      simp
    rw [etmp]
    split at h
    · rename_i E1 H1 h1
      refine roundIn_of_wpIn trivial ?_
      have hA := (iCode_ok hcl hcp F hha h1 (N := fun e1 w1 => ∃ w₂, (Instr.beginRound l).run P w1 = .ok () w₂ ∧ bd.wpIn (Fence.wide.inRound l) nn P (roundPost P l (fun x w' => ∃ v, x = .returned v ∧ K v w')) ⟨e1.toArray, []⟩ w₂) (X := fun _ _ _ => False) (Rt := fun _ _ => False) (putE_ok (ps := ps.toList) ha he) hs ?_).code
      · refine wpIn_mono (cCode_soundIn (ds := []) a _ _ _ _ _ na hA) ?_
        intro x a1 w1 hq
        cases x with
        | normal => obtain ⟨e1, rfl, hq⟩ := hq; exact hq
        | exit i => obtain ⟨_, _, hq⟩ := hq; exact hq
        | ret => obtain ⟨_, _, hq⟩ := hq; exact hq
        | _ => exact hq
      · intro R1 e1 w1 hle1 he1 hs1 hf1
        have hL1 := hL.step hf1
        refine ⟨_, run_beginRound hL1.lp.dl rfl, ?_⟩
        have hL2 : LpAt Bm R1 H1 (w1.putObj l (.loop (recL fn e ps a bd D .busy none))) l D (recL fn e ps a bd D .busy none) := hL1.set
        have hs2 : Sim G B0 R1 H1 (w1.putObj l (.loop (recL fn e ps a bd D .busy none))) := hL1.sim hB hs1
        have hf2 : Fr B0 R0 H0 w0 R1 H1 (w1.putObj l (.loop (recL fn e ps a bd D .busy none))) := (hf0.trans hf1).oth (l := l) hs0 hl0 rfl
        have fin : ∀ {jj : Option Code} {Hq : AH} {R3 : Lay} {w3 : World}, jj = j → Hq = H' → Lay.le R1 R3 → Sim G B0 R3 Hq w3 → Fr B0 R1 H1 (w1.putObj l (.loop (recL fn e ps a bd D .busy none))) R3 Hq w3 →
            ∃ v w', (Instr.endRound l jj).run P w3 = .ok v w' ∧ ∃ v', Ending.returned v = .returned v' ∧ K v' w' := by
          rintro jj Hq R3 w3 rfl rfl hle3 hs3 hf3
          have hL3 := hL2.step hf3
          refine ⟨_, _, run_endRound jj hL3.lp.dl, _, rfl, ?_⟩
          exact hK R3 _ (hle1.trans hle3) (hL3.sim hB hs3) ((hf2.trans hf3).oth (l := l) hs0 hl0 rfl) hL3.set
        have bodyK : ∀ {o : Out}, iCode ht cl cp P G n F bd E1 H1 = some o → (∀ R3 e3 w3, Lay.le R1 R3 → Sim G B0 R3 o.H w3 → Fr B0 R1 H1 (w1.putObj l (.loop (recL fn e ps a bd D .busy none))) R3 o.H w3 → roundPost P l (fun x w' => ∃ v, x = .returned v ∧ K v w') o.x ⟨e3, []⟩ w3) → bd.wpIn (Fence.wide.inRound l) nn P (roundPost P l (fun x w' => ∃ v, x = .returned v ∧ K v w')) ⟨e1.toArray, []⟩ (w1.putObj l (.loop (recL fn e ps a bd D .busy none))) := by
          intro o ho hp
          have hB := (iCode_ok hcl hcp F hhb ho (N := fun e3 w3 => roundPost P l (fun x w' => ∃ v, x = .returned v ∧ K v w') .normal ⟨e3.toArray, []⟩ w3) (X := fun i e3 w3 => roundPost P l (fun x w' => ∃ v, x = .returned v ∧ K v w') (.exit i) ⟨e3.toArray, []⟩ w3)
            (Rt := fun e3 w3 => roundPost P l (fun x w' => ∃ v, x = .returned v ∧ K v w') .ret ⟨e3.toArray, []⟩ w3) he1 hs2 (fun R3 e3 w3 hle3 _ hs3 hf3 => by
              have := hp R3 e3.toArray w3 hle3 hs3 hf3
              cases o <;> exact this)).code
          refine wpIn_mono (cCode_soundIn (ds := []) bd _ _ _ _ _ nb hB) ?_
          intro x a1 w1 hq
          cases x with
          | normal => obtain ⟨e1, rfl, hq⟩ := hq; exact hq
          | exit i => obtain ⟨e1, rfl, hq⟩ := hq; exact hq
          | ret => obtain ⟨e1, rfl, hq⟩ := hq; exact hq
          | _ => exact hq.elim
        split at h
        · rename_i E2 H2 h2; cases h
          exact bodyK h2 fun R3 e3 w3 hle3 hs3 hf3 => fin rfl rfl hle3 hs3 hf3
        · rename_i i E2 H2 h2; cases h
          exact bodyK h2 fun R3 e3 w3 hle3 hs3 hf3 => fin rfl rfl hle3 hs3 hf3
        · rename_i E2 H2 h2; cases h
          exact bodyK h2 fun R3 e3 w3 hle3 hs3 hf3 => fin rfl rfl hle3 hs3 hf3
        · cases h
    · cases h
  · cases h
end round
end
end Go.Proofs.YtnmjfakibhekmaaGreatDoor
