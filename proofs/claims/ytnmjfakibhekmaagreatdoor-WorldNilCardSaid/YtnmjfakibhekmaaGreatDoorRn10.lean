/- Runs in which all is known but where blocks stand: one operation; some in a row. Nothing of the program is named here. -/
import Derived.Test.YtnmjfakibhekmaaGreatDoorRn9t
namespace Go.Proofs.YtnmjfakibhekmaaGreatDoor
set_option maxRecDepth 100000
open Go.RowKit

abbrev Cl := FuncId → List GV → AH → Option (GV × AH)
abbrev Cp := FuncId → List GV → AH → Option GV
def ClOK (P : Program) (G : Glo) (B0 : Nat) (cl : Cl) : Prop := ∀ {f args H r H' R w vs}, cl f args H = some (r, H') → Sim G B0 R H w → All2 (GV.rel R) args vs → Yls G B0 (fun K w => call P f vs.toArray K w) R H r H' w
def CpOK (P : Program) (G : Glo) (B0 : Nat) (cp : Cp) : Prop := ∀ {f args H r R w vs}, cp f args H = some r → Sim G B0 R H w → All2 (GV.rel R) args vs → Yld (fun K w => call P f vs.toArray K w) R r w

def parG (E : Tr GV) (n : Nat) : List (Nat × Operand) → Option (List (Nat × GV))
  | [] => some []
  | (i, x) :: r => match evG E n x, parG E n r with | some a, some l => some ((i, a) :: l) | _, _ => none
theorem parG_rel {R : Lay} {n : Nat} {E : Tr GV} {e : Env} (he : EnvR R n E e) : ∀ {l : List (Nat × Operand)} {m : List (Nat × GV)}, parG E n l = some m → All2 (PartR R) m (l.map fun p => (p.1, ev e p.2))
  | [], _, h => by cases h; exact .nil
  | (i, x) :: l, m, h => by
    unfold parG at h
    split at h
    · rename_i a m' ha hm
      cases h
      exact .cons ⟨rfl, evG_rel he ha⟩ (parG_rel he hm)
    · cases h
def rOp2 (cp : Cp) (P : Program) (G : Glo) (H : AH) (E : Tr GV) (n : Nat) (o : Oper) : Option GV :=
  match o.op with
  | .build t ps => match parG E n ps.toList with | some l => bldG P t l | none => none
  | .entry it => match evG E n it with | some x => entG H x | none => none
  | .call c => match c.callee with
    | .value (.func f) => match evL E n c.args.toList with | some l => cp f l H | none => none
    | _ => rOp P G H E n o
  | _ => rOp P G H E n o
section
variable {P : Program} {G : Glo} {B0 : Nat} {R : Lay} {H H' : AH} {w w' : World} {n : Nat} {E E' : Tr GV} {e : Env} {cl : Cl} {cp : Cp}
theorem rOp2_yld {o : Oper} {r : GV} (hcp : CpOK P G B0 cp) (h : rOp2 cp P G H E n o = some r) (he : EnvR R n E e) (hs : Sim G B0 R H w) : Yld (fun K w => cOp P (ev e) o K w) R r w := by
  obtain ⟨dst, op, ty, pos, after, guard⟩ := o
  unfold rOp2 at h
  cases op with
  | build t ps =>
    simp only at h
    split at h
    · rename_i l hl; exact bld_yld h (parG_rel he hl)
    · cases h
  | entry it =>
    simp only at h
    split at h
    · rename_i x hx; exact ent_yld h hs (evG_rel he hx)
    · cases h
  | call c =>
    obtain ⟨cal, args, ats⟩ := c
    cases cal with
    | value x =>
      cases x with
      | func f =>
        simp only at h
        split at h
        · rename_i l hl; exact hcp h hs (evL_rel he hl)
        · cases h
      | _ => exact rOp_yld h he hs
    | _ => exact rOp_yld h he hs
  | _ => exact rOp_yld h he hs

/-- A function value. -/
def fnOf : GV → Option (FuncId × List GV × List GV)
  | .val (.one (.k (.func (.func f) a b))) => some (f, a.toList.map ofV, b.toList.map ofV)
  | .val (.one (.f f a b)) => some (f, a.map (fun q => oneG (.p q.1 q.2)), b.map (fun q => oneG (.p q.1 q.2)))
  | _ => none
theorem ofVs_rel : ∀ {l : List Value}, All2 (GV.rel R) (l.map ofV) l
  | [] => .nil
  | _ :: _ => .cons ofV_rel ofVs_rel
theorem fnOf_ok {x : GV} {v : Value} {q : FuncId × List GV × List GV} (h : fnOf x = some q) (hx : x.rel R v) : ∃ a b, v = .func (.func q.1) (List.toArray a) (List.toArray b) ∧ All2 (GV.rel R) q.2.1 a ∧ All2 (GV.rel R) q.2.2 b := by
  unfold fnOf at h
  split at h
  · rename_i f a b; cases h; cases hx; exact ⟨a.toList, b.toList, by simp, ofVs_rel, ofVs_rel⟩
  · cases h
    obtain ⟨xs, ys, h1, h2, rfl⟩ := hx
    exact ⟨xs, ys, rfl, h1.map (r' := GV.rel R) (fun (q : Nat × Nat) => oneG (.p q.1 q.2)) (fun _ _ h => h), h2.map (r' := GV.rel R) (fun (q : Nat × Nat) => oneG (.p q.1 q.2)) (fun _ _ h => h)⟩
  · cases h
def iCall (cl : Cl) (P : Program) (G : Glo) (H : AH) (E : Tr GV) (n : Nat) (o : Oper) (c : Call) : Option (GV × AH) :=
  match c.callee with
  | .value (.func f) => match evL E n c.args.toList with | some l => cl f l H | none => none
  | .value x => match evG E n x, evL E n c.args.toList with
    | some fv, some l => match fnOf fv with | some q => cl q.1 (q.2.1 ++ l ++ q.2.2) H | none => none
    | _, _ => none
  | .builtin .append => match c.argTypes.toList, evL E n c.args.toList with
    | [t, t'], some [x, y] => match sliceT P t t' with | true => appG2 P H t x y | false => none
    | _, _ => none
  | .builtin .clear => match c.argTypes.toList, evL E n c.args.toList with
    | [t], some [x] => clrG P H t x
    | _, _ => none
  | .builtin .delete => match c.argTypes.toList, evL E n c.args.toList with
    | [t, _], some [x, y] => delG P H t x y
    | _, _ => none
  | .builtin _ => match rOp P G H E n o with | some r => some (r, H) | none => none
  | _ => none
def iOp (cl : Cl) (P : Program) (G : Glo) (H : AH) (E : Tr GV) (n : Nat) (o : Oper) : Option (GV × AH) :=
  match o.op with
  | .call c => iCall cl P G H E n o c
  | .alloc t => alcG P H t
  | .box t x => match evG E n x with | some x => boxG H t x | none => none
  | .store t a x => match evG E n a, evG E n x with | some a, some x => stoG P H t a x | _, _ => none
  | .buildSlice t k ps => match parG E n ps.toList with | some l => bldSG' P H t k l | none => none
  | .makeSlice t l c => match evG E n l, evG E n c with | some l, some c => mkSG P H t l c | _, _ => none
  | .makeMap t rs => match optE E n rs with | some q => mkMapG P H t q | none => none
  | .mapUpdate t m k x => match evG E n m, evG E n k, evG E n x with | some m, some k, some x => mUpdG P H t m k x | _, _, _ => none
  | .insert t m k x => match evG E n m, evG E n k, evG E n x with | some m, some k, some x => mUpdG P H t m k x | _, _, _ => none
  | .range t x => match evG E n x with | some x => rngG P H t x | none => none
  | .next it s => match evG E n it with | some x => nxtG H x s | none => none
  | .build t ps => match parG E n ps.toList with | some l => (match bldG P t l with | some r => some (r, H) | none => none) | none => none
  | .entry it => match evG E n it with | some x => (match entG H x with | some r => some (r, H) | none => none) | none => none
  | _ => match rOp P G H E n o with | some r => some (r, H) | none => none
theorem Yld.yls {op : KV → World → Prop} {r : GV} (h : Yld op R r w) (hs : Sim G B0 R H w) : Yls G B0 op R H r H w := by
  obtain ⟨v, h1, h2⟩ := h
  exact fun K hK => h2 K (hK R v w (Lay.le.refl R) h1 hs (Fr.refl ..))
theorem toArray2 {α : Type} {l : Array α} {a b : α} (h : l.toList = [a, b]) : l = #[a, b] := by rw [← Array.toArray_toList (xs := l), h]
theorem iOp_yls {o : Oper} {r : GV} (hcl : ClOK P G B0 cl) (h : iOp cl P G H E n o = some (r, H')) (he : EnvR R n E e) (hs : Sim G B0 R H w) : Yls G B0 (fun K w => cOp P (ev e) o K w) R H r H' w := by
  have plain : ∀ {r : GV}, (match rOp P G H E n o with | some r => some (r, H) | none => none) = some (r, H') → Yls G B0 (fun K w => cOp P (ev e) o K w) R H r H' w := by
    intro r h
    split at h
    · rename_i q hq; cases h; exact (rOp_yld hq he hs).yls hs
    · cases h
  obtain ⟨dst, op, ty, pos, after, guard⟩ := o
  unfold iOp at h
  cases op with
  | call c =>
    simp only at h
    obtain ⟨cal, args, ats⟩ := c
    unfold iCall at h
    cases cal with
    | value x =>
      cases x with
      | func f =>
        simp only at h
        split at h
        · rename_i l hl; exact hcl h hs (evL_rel he hl)
        · cases h
      | tmp q =>
        simp only at h
        split at h
        · rename_i fv l hf hl
          split at h
          · rename_i q hq
            obtain ⟨a, b, hv, ha, hb⟩ := fnOf_ok hq (evG_rel he hf)
            intro K hK
            have := hcl h hs ((ha.append (evL_rel he hl)).append hb) K hK
            exact ⟨_, _, _, hv, by simpa using this⟩
          · cases h
        · cases h
      | const q =>
        simp only at h
        split at h
        · rename_i fv l hf hl
          split at h
          · rename_i q hq
            obtain ⟨a, b, hv, ha, hb⟩ := fnOf_ok hq (evG_rel he hf)
            intro K hK
            have := hcl h hs ((ha.append (evL_rel he hl)).append hb) K hK
            exact ⟨_, _, _, hv, by simpa using this⟩
          · cases h
        · cases h
      | global q =>
        simp only at h
        split at h
        · rename_i fv l hf hl
          split at h
          · rename_i q hq
            obtain ⟨a, b, hv, ha, hb⟩ := fnOf_ok hq (evG_rel he hf)
            intro K hK
            have := hcl h hs ((ha.append (evL_rel he hl)).append hb) K hK
            exact ⟨_, _, _, hv, by simpa using this⟩
          · cases h
        · cases h
    | builtin b =>
      cases b with
      | append =>
        simp only at h
        split at h
        · rename_i t t' x y hat hl
          split at h
          · rename_i hb
            have := evL_rel he hl
            cases this' : args.toList.map (ev e) with
            | nil => rw [this'] at this; cases this
            | cons v1 l1 =>
              rw [this'] at this
              cases this with
              | cons g1 g2 =>
                cases g2 with
                | cons g2 g3 =>
                  cases g3
                  have hA : ats = #[t, t'] := toArray2 hat
                  subst hA
                  intro K hK
                  show blt P .append #[t, t'] ty _ (args.toList.map (ev e)).toArray K w
                  rw [this']
                  unfold sliceT at hb
                  split at hb
                  · rename_i hq
                    rw [← Nat.eq_of_beq_eq_true hq]
                    exact app2_yls h hs g1 g2 K hK
                  · split at hb
                    · rename_i e1 e2 h1 h2; exact app_ty h1 h2 (app2_yls h hs g1 g2 K hK)
                    · cases hb
          · cases h
        · cases h
      | clear =>
        simp only at h
        split at h
        · rename_i t x hat hl
          have := evL_rel he hl
          cases this' : args.toList.map (ev e) with
          | nil => rw [this'] at this; cases this
          | cons v1 l1 =>
            rw [this'] at this
            cases this with
            | cons g1 g2 =>
              cases g2
              have hA : ats = #[t] := by rw [← Array.toArray_toList (xs := ats), hat]
              subst hA
              intro K hK
              show blt P .clear #[t] ty _ (args.toList.map (ev e)).toArray K w
              rw [this']
              exact clr_yls h hs g1 K hK
        · cases h
      | delete =>
        simp only at h
        split at h
        · rename_i t t' x y hat hl
          have := evL_rel he hl
          cases this' : args.toList.map (ev e) with
          | nil => rw [this'] at this; cases this
          | cons v1 l1 =>
            rw [this'] at this
            cases this with
            | cons g1 g2 =>
              cases g2 with
              | cons g2 g3 =>
                cases g3
                have hA : ats = #[t, t'] := toArray2 hat
                subst hA
                intro K hK
                show blt P .delete #[t, t'] ty _ (args.toList.map (ev e)).toArray K w
                rw [this']
                exact del_yls h hs g1 g2 K hK
        · cases h
      | _ => exact plain h
    | invoke a b => cases h
  | alloc t => exact alc_yls h hs
  | box t x =>
    simp only at h
    split at h
    · rename_i x hx; exact box_yls h hs (evG_rel he hx)
    · cases h
  | store t a x =>
    simp only at h
    split at h
    · rename_i a x ha hx; exact sto_yls h hs (evG_rel he ha) (evG_rel he hx)
    · cases h
  | buildSlice t k ps =>
    simp only at h
    split at h
    · rename_i l hl; exact bldS_yls h hs (parG_rel he hl)
    · cases h
  | makeSlice t l c =>
    simp only at h
    split at h
    · rename_i l c hl hc; exact mkS_yls h hs (evG_rel he hl) (evG_rel he hc)
    · cases h
  | makeMap t rs =>
    simp only at h
    split at h
    · rename_i q hq; exact mkMap_yls h hs (optE_rel he hq)
    · cases h
  | mapUpdate t m k x =>
    simp only at h
    split at h
    · rename_i m k x hm hk hx; exact mUpd_yls h hs (evG_rel he hm) (evG_rel he hk) (evG_rel he hx)
    · cases h
  | insert t m k x =>
    simp only at h
    split at h
    · rename_i m k x hm hk hx; exact mUpd_yls h hs (evG_rel he hm) (evG_rel he hk) (evG_rel he hx)
    · cases h
  | range t x =>
    simp only at h
    split at h
    · rename_i x hx; exact rng_yls h hs (evG_rel he hx)
    · cases h
  | next it s =>
    simp only at h
    split at h
    · rename_i x hx; exact nxt_yls h hs (evG_rel he hx)
    · cases h
  | build t ps =>
    simp only at h
    split at h
    · rename_i l hl
      split at h
      · rename_i q hq; cases h; exact (bld_yld hq (parG_rel he hl)).yls hs
      · cases h
    · cases h
  | entry it =>
    simp only at h
    split at h
    · rename_i x hx
      split at h
      · rename_i q hq; cases h; exact (ent_yld hq hs (evG_rel he hx)).yls hs
      · cases h
    · cases h
  | _ => exact plain h

/-! ## Some in a row, under guards. -/
def iSeq (cl : Cl) (P : Program) (G : Glo) (n : Nat) : List Oper → Tr GV → AH → Option (Tr GV × AH)
  | [], E, H => some (E, H)
  | o :: l, E, H => match iOp cl P G H E n o with | some (r, H') => iSeq cl P G n l (ptE E n o.dst r) H' | none => none
theorem iSeq_ok (hcl : ClOK P G B0 cl) {K : KE} : ∀ {l : List Oper} {R : Lay} {E E' : Tr GV} {H H' : AH} {e : Env} {w : World}, iSeq cl P G n l E H = some (E', H') → EnvR R n E e → Sim G B0 R H w →
    (∀ R' e' w', Lay.le R R' → EnvR R' n E' e' → Sim G B0 R' H' w' → Fr B0 R H w R' H' w' → K e' w') → cSeq P l K e w
  | [], R, E, E', H, H', e, w, h, he, hs, hK => by cases h; exact hK R e w (Lay.le.refl R) he hs (Fr.refl ..)
  | o :: l, R, E, E', H, H', e, w, h, he, hs, hK => by
    unfold iSeq at h
    split at h
    · rename_i r H1 ho
      unfold cSeq
      refine iOp_yls hcl ho he hs _ fun R1 v w1 hle hr hs1 hf1 => ?_
      exact iSeq_ok hcl h ((he.mono hle).put hr) hs1 fun R2 e2 w2 hle2 he2 hs2 hf2 => hK R2 e2 w2 (hle.trans hle2) he2 hs2 (hf1.trans hf2)
    · cases h
def metB (v : Value) (want : Bool) : Bool := match asB v with | some b => (match b, want with | true, true => true | false, false => true | _, _ => false) | none => false
theorem metB_ok {v : Value} {want : Bool} : (metB v want = true ↔ asB v = some want) := by
  unfold metB
  cases h : asB v with
  | none => simp
  | some b => cases b <;> cases want <;> simp
/-- Is a guard met? -/
def gB (ops : List Oper) (E : Tr GV) (n : Nat) (j : Nat) (want : Bool) : Option Bool :=
  match (ops[j]?).bind (·.dst) with
  | none => some (metB undef want)
  | some d => match Nat.blt d n with
    | true => match getE E d with | .val (.one (.k v)) => some (metB v want) | _ => none
    | false => none
theorem gB_ok {ops : List Oper} {j : Nat} {want b : Bool} (h : gB ops E n j want = some b) (he : EnvR R n E e) : (b = true ↔ asB (gdst ops e j) = some want) := by
  unfold gB at h
  unfold gdst
  split at h
  · rename_i hd; rw [hd]; cases h; exact metB_ok
  · rename_i d hd
    rw [hd]
    split at h
    · rename_i hb
      have := he.rel d (blt_iff.1 hb)
      split at h
      · rename_i v hv
        rw [hv] at this
        cases h
        have : gd e d = v := this
        simp only [this]
        exact metB_ok
      · cases h
    · cases h
def undE (n : Nat) : List Nat → Tr GV → Tr GV
  | [], E => E
  | d :: r, E => undE n r (ptE E n (some d) undefG)
theorem undE_ok : ∀ {ds : List Nat} {E : Tr GV} {e : Env} (us : List Value) (k : Nat), (∀ i, gd us i = undef) → EnvR R n E e → EnvR R n (undE n ds E) (setsF us ds k e)
  | [], _, _, _, _, _, he => he
  | d :: r, E, e, us, k, hu, he => by
    unfold undE setsF
    rw [hu k]
    exact undE_ok us (k + 1) hu (he.put (d := some d) rfl)
def iGrp (cl : Cl) (P : Program) (G : Glo) (n : Nat) (ops : List Oper) : List (Option (Nat × Bool) × List Oper) → Tr GV → AH → Option (Tr GV × AH)
  | [], E, H => some (E, H)
  | (none, l) :: gs, E, H => match iSeq cl P G n l E H with | some (E', H') => iGrp cl P G n ops gs E' H' | none => none
  | (some (j, want), l) :: gs, E, H => match ((ops[j]?).bind (·.dst)).any ((dsts l).contains ·), gB ops E n j want with
    | false, some true => match iSeq cl P G n l E H with | some (E', H') => iGrp cl P G n ops gs E' H' | none => none
    | false, some false => iGrp cl P G n ops gs (undE n (dsts l) E) H
    | _, _ => none
theorem iGrp_ok (hcl : ClOK P G B0 cl) {ops : List Oper} {K : KE} : ∀ {gs : List (Option (Nat × Bool) × List Oper)} {R : Lay} {E E' : Tr GV} {H H' : AH} {e : Env} {w : World}, iGrp cl P G n ops gs E H = some (E', H') → EnvR R n E e → Sim G B0 R H w →
    (∀ R' e' w', Lay.le R R' → EnvR R' n E' e' → Sim G B0 R' H' w' → Fr B0 R H w R' H' w' → K e' w') → cGrp P ops gs K e w
  | [], R, E, E', H, H', e, w, h, he, hs, hK => by cases h; exact hK R e w (Lay.le.refl R) he hs (Fr.refl ..)
  | (none, l) :: gs, R, E, E', H, H', e, w, h, he, hs, hK => by
    unfold iGrp at h
    split at h
    · rename_i E1 H1 h1
      unfold cGrp
      exact iSeq_ok hcl h1 he hs fun R1 e1 w1 hle he1 hs1 hf1 => iGrp_ok hcl h he1 hs1 fun R2 e2 w2 hle2 he2 hs2 hf2 => hK R2 e2 w2 (hle.trans hle2) he2 hs2 (hf1.trans hf2)
    · cases h
  | (some (j, want), l) :: gs, R, E, E', H, H', e, w, h, he, hs, hK => by
    unfold iGrp at h
    unfold cGrp
    split at h
    · rename_i hb hg
      rw [hb]
      have hmet := (gB_ok hg he).1 rfl
      split at h
      · rename_i E1 H1 h1
        refine ⟨fun _ => ?_, fun hh => absurd hmet hh⟩
        have key := iSeq_ok (K := fun e' w' => cGrp P ops gs K e' w') hcl h1 he hs fun R1 e1 w1 hle he1 hs1 hf1 => iGrp_ok hcl h he1 hs1 fun R2 e2 w2 hle2 he2 hs2 hf2 => hK R2 e2 w2 (hle.trans hle2) he2 hs2 (hf1.trans hf2)
        refine cSeq_frame l key fun e2 w2 hag hk => ?_
        show cGrp P ops gs K (sets e (dsts l) ((dsts l).map (gd e2))) w2
        rw [agree_sets hag]
        exact hk
      · cases h
    · rename_i hb hg
      rw [hb]
      have hmet : ¬ asB (gdst ops e j) = some want := fun hh => by have := (gB_ok hg he).2 hh; cases this
      refine ⟨fun hh => absurd hh hmet, fun _ => ?_⟩
      show cGrp P ops gs K (sets e (dsts l) ((dsts l).map fun _ => undef)) w
      exact iGrp_ok hcl h (undE_ok _ 0 (gd_undefs (dsts l)) he) hs hK
    · cases h

/-! ## .. that read, and do nothing else. -/
def iSeqS (cp : Cp) (P : Program) (G : Glo) (H : AH) (n : Nat) : List Oper → Tr GV → Option (Tr GV)
  | [], E => some E
  | o :: l, E => match rOp2 cp P G H E n o with | some r => iSeqS cp P G H n l (ptE E n o.dst r) | none => none
theorem Yld.sti {op : KV → World → Prop} {r : GV} {k : KV} (h : Yld op R r w) (hk : ∀ v, r.rel R v → k v w) : Go.Proofs.YtnmjfakibhekmaaGreatDoor.sti op k w := by
  obtain ⟨v, h1, h2⟩ := h
  exact ⟨v, h2 _ ⟨rfl, rfl⟩, hk v h1⟩
theorem sOp_of {o : Oper} {r : GV} {k : KV} (h : Yld (fun K w => cOp P (ev e) o K w) R r w) (hk : ∀ v, r.rel R v → k v w) : sOp P e o k w := by
  obtain ⟨dst, op, ty, pos, after, guard⟩ := o
  cases op with
  | move x => obtain ⟨v, h1, h2⟩ := h; have := h2 (fun v' w' => v' = v) rfl; have this : ev e x = v := this; subst this; exact hk _ h1
  | assign x => obtain ⟨v, h1, h2⟩ := h; have := h2 (fun v' w' => v' = v) rfl; have this : ev e x = v := this; subst this; exact hk _ h1
  | _ => exact h.sti hk
theorem iSeqS_ok (hcp : CpOK P G B0 cp) (hs : Sim G B0 R H w) {K : KE} : ∀ {l : List Oper} {E E' : Tr GV} {e : Env}, iSeqS cp P G H n l E = some E' → EnvR R n E e → (∀ e', EnvR R n E' e' → K e' w) → sSeq P l K e w
  | [], E, E', e, h, he, hK => by cases h; exact hK e he
  | o :: l, E, E', e, h, he, hK => by
    unfold iSeqS at h
    split at h
    · rename_i r ho
      unfold sSeq
      exact sOp_of (rOp2_yld hcp ho he hs) fun v hv => iSeqS_ok hcp hs h (he.put hv) hK
    · cases h
def iGrpS (cp : Cp) (P : Program) (G : Glo) (H : AH) (n : Nat) (ops : List Oper) : List (Option (Nat × Bool) × List Oper) → Tr GV → Option (Tr GV)
  | [], E => some E
  | (none, l) :: gs, E => match iSeqS cp P G H n l E with | some E' => iGrpS cp P G H n ops gs E' | none => none
  | (some (j, want), l) :: gs, E => match ((ops[j]?).bind (·.dst)).any ((dsts l).contains ·), gB ops E n j want with
    | false, some true => match iSeqS cp P G H n l E with | some E' => iGrpS cp P G H n ops gs E' | none => none
    | false, some false => iGrpS cp P G H n ops gs (undE n (dsts l) E)
    | _, _ => none
theorem iGrpS_ok (hcp : CpOK P G B0 cp) (hs : Sim G B0 R H w) {ops : List Oper} {K : KE} : ∀ {gs : List (Option (Nat × Bool) × List Oper)} {E E' : Tr GV} {e : Env}, iGrpS cp P G H n ops gs E = some E' → EnvR R n E e → (∀ e', EnvR R n E' e' → K e' w) → sGrp P ops gs K e w
  | [], E, E', e, h, he, hK => by cases h; exact hK e he
  | (none, l) :: gs, E, E', e, h, he, hK => by
    unfold iGrpS at h
    split at h
    · rename_i E1 h1
      unfold sGrp
      exact iSeqS_ok hcp hs h1 he fun e1 he1 => iGrpS_ok hcp hs h he1 hK
    · cases h
  | (some (j, want), l) :: gs, E, E', e, h, he, hK => by
    unfold iGrpS at h
    unfold sGrp
    split at h
    · rename_i hb hg
      rw [hb]
      have hmet := (gB_ok hg he).1 rfl
      split at h
      · rename_i E1 h1
        refine ⟨fun _ => ?_, fun hh => absurd hmet hh⟩
        have key := iSeqS_ok (K := fun e' w' => sGrp P ops gs K e' w') hcp hs h1 he fun e1 he1 => iGrpS_ok hcp hs h he1 hK
        refine sSeq_frame l key fun e2 hag hk => ?_
        show sGrp P ops gs K (sets e (dsts l) ((dsts l).map (gd e2))) w
        rw [agree_sets hag]
        exact hk
      · cases h
    · rename_i hb hg
      rw [hb]
      have hmet : ¬ asB (gdst ops e j) = some want := fun hh => by have := (gB_ok hg he).2 hh; cases this
      refine ⟨fun hh => absurd hh hmet, fun _ => ?_⟩
      show sGrp P ops gs K (sets e (dsts l) ((dsts l).map fun _ => undef)) w
      exact iGrpS_ok hcp hs h (undE_ok _ 0 (gd_undefs (dsts l)) he) hK
    · cases h
end
end Go.Proofs.YtnmjfakibhekmaaGreatDoor
