/- Runs in which all is known but where blocks stand: the function that is ranged over, and the statement. Nothing of the program is named here. -/
import Derived.Test.YtnmjfakibhekmaaGreatDoorRn16
namespace Go.Proofs.YtnmjfakibhekmaaGreatDoor
set_option maxRecDepth 100000
open Go.RowKit

section
variable {P : Program} {Q : Exit → Act → World → Prop}
/-- A loop, opened. -/
def unrW (P : Program) (c : Code) (Q : Exit → Act → World → Prop) : Nat → Act → World → Prop
  | 0 => fun _ _ => False
  | k + 1 => fun a w => c.wp P (Exit.then (unrW P c Q k) Q) a w
open Classical in
theorem wp_unr {c : Code} {k : Nat} {a : Act} {w : World} (h : unrW P c Q k a w) : (Code.loop c).wp P Q a w := by
  have hm : ∀ a w, (∃ k, unrW P c Q k a w) → ∃ m, unrW P c Q m a w ∧ ∀ j, j < m → ¬ unrW P c Q j a w := fun a w ⟨k, hk⟩ => leastN (p := fun k => unrW P c Q k a w) k hk
  refine wp_loop (fun a w => ∃ k, unrW P c Q k a w) (fun a w => if hh : ∃ k, unrW P c Q k a w then Classical.choose (hm a w hh) else 0) ⟨k, h⟩ ?_
  intro a' w' hI
  have hsp := Classical.choose_spec (hm a' w' hI)
  simp only [dif_pos hI]
  generalize Classical.choose (hm a' w' hI) = m at hsp
  cases m with
  | zero => exact hsp.1.elim
  | succ m =>
    refine wp_mono hsp.1 fun x a2 w2 h2 => ?_
    cases x with
    | normal =>
      have h2 : unrW P c Q m a2 w2 := h2
      have hI2 : ∃ k, unrW P c Q k a2 w2 := ⟨m, h2⟩
      refine ⟨hI2, ?_⟩
      simp only [dif_pos hI2]
      have hs2 := Classical.choose_spec (hm a2 w2 hI2)
      by_cases hlt : Classical.choose (hm a2 w2 hI2) < m + 1
      · exact hlt
      · exact absurd h2 (hs2.2 m (by omega))
    | _ => exact h2
def GdW (P : Program) (f : Nat) (c : Code) (Q : Exit → Act → World → Prop) : Act → World → Prop := match c with | .loop b => unrW P b Q f | c => c.wp P Q
theorem GdW.code {f : Nat} {c : Code} {a : Act} {w : World} (h : GdW P f c Q a w) : c.wp P Q a w := by
  cases c with
  | loop b => exact wp_unr h
  | _ => exact h
theorem op_wide {n : Nat} {o : Oper} {a : Act} {w : World} {K : Act → World → Prop} (h : o.wp P a w K Q) : o.wpIn Fence.wide n P a w K Q := by
  unfold Oper.wp at h
  unfold Oper.wpIn
  refine ⟨fun _ _ => trivial, ?_⟩
  rw [show Fence.wide.round = none from rfl, Oper.semAt_none]
  generalize (execOp a.eval o).run P w = r at *
  cases r with
  | ok x w' =>
    cases x <;> simp only [Oper.upon] at h <;> simp only [Oper.uponIn]
    case value => exact h
    case skip => exact h
    case enter f args => exact ⟨fun hh => (by cases hh), callsIn_wide.2 h⟩
    case defer => exact h
    case row row args =>
      refine ⟨fun hh => (by cases hh), ?_⟩
      intro c cs _
      obtain ⟨v, w2, h1, h2⟩ := h c cs
      exact ⟨v, w2, h1, stepsIn_wide.2 h2⟩
  | halt x w' => cases x <;> simp only [Oper.upon] at h <;> simp only [Oper.uponIn] <;> exact h
end

section
variable {P : Program} {G : Glo} {B0 : Nat} {R : Lay} {H H' : AH} {w w' : World} {n : Nat} {E E' : Tr GV} {e : Env} {cl : Cl} {cp : Cp} {K : KE} {ht : Ht}
theorem leaf_ok {f : Nat} {c : Code} {o : Out} {Q : Exit → Act → World → Prop} {ds : List Deferred} (hcl : ClOK P G B0 cl) (hcp : CpOK P G B0 cp) (hh : hintB P ht c = true) (h : iCode ht cl cp P G n f c E H = some o) (he : EnvR R n E e) (hs : Sim G B0 R H w)
    (hK : ∀ R' e' w', Lay.le R R' → EnvR R' n o.E e' → Sim G B0 R' o.H w' → Fr B0 R H w R' o.H w' → Q o.x ⟨e'.toArray, ds⟩ w') : c.wp P Q ⟨e.toArray, ds⟩ w := by
  have := iCode_ok hcl hcp f hh h (N := fun e' w' => Q .normal ⟨e'.toArray, ds⟩ w') (X := fun i e' w' => Q (.exit i) ⟨e'.toArray, ds⟩ w') (Rt := fun e' w' => Q .ret ⟨e'.toArray, ds⟩ w') he hs (by
    intro R' e' w' a b c d
    have := hK R' e' w' a b c d
    cases o <;> exact this)
  refine wp_mono (cCode_sound (ds := ds) c _ _ _ _ _ this.code) ?_
  intro x a w hq
  cases x with
  | normal => obtain ⟨e, rfl, h⟩ := hq; exact h
  | exit i => obtain ⟨e, rfl, h⟩ := hq; exact h
  | ret => obtain ⟨e, rfl, h⟩ := hq; exact h
  | _ => exact hq.elim

/-- What a round does, as it is asked by the function that is ranged over. -/
def RndOK (P : Program) (G : Glo) (B0 : Nat) (Rx R0 : Lay) (H0 : AH) (w0 : World) (Bm l D : Nat) (fn : FuncId) (e : Env) (ps : Array Tmp) (a bd : Code) (rnd : Rnd) : Prop :=
  ∀ {as : List GV} {H H' : AH} {j : Option Code}, rnd as H = some (j, H') → ∀ {R : Lay} {w : World} {vs : List Value} {K : KV}, Lay.le Rx R → Sim G B0 R H w → Fr B0 R0 H0 w0 R H w → LpAt Bm R H w l D (recL fn e ps a bd D .ready none) → All2 (GV.rel R) as vs →
    (∀ R' w', Lay.le R R' → Sim G B0 R' H' w' → Fr B0 R0 H0 w0 R' H' w' → LpAt Bm R' H' w' l D (recL fn e ps a bd D (stL j) j) → K (.bool j.isNone) w') →
    vs.length = ps.size ∧ RoundIn Fence.wide 0 P l fn ((ps.zip vs.toArray).foldl (fun tmps (t, a) => tmps.setIfInBounds t a) e.toArray) a bd w (fun x w' => ∃ v, x = .returned v ∧ K v w')
section iter
variable {Rx R0 : Lay} {H0 : AH} {w0 : World} {Bm l D b : Nat} {fn : FuncId} {ex : Env} {ps : Array Tmp} {a bd : Code} {rnd : Rnd}
theorem isY_ok {o : Oper} {args : List Operand} (h : isY b E n o = some args) (he : EnvR R n E e) (hb : R b = some ⟨l, 0⟩) :
    ∃ t ats, o.op = .call { callee := .value (.tmp t), args := args.toArray, argTypes := ats } ∧ ev e (.tmp t) = .func (.yield l) #[] #[] := by
  unfold isY at h
  split at h
  · rename_i c hc
    split at h
    · rename_i t ht'
      split at h
      · rename_i b' hy
        split at h
        · rename_i hbb
          cases h
          have hbb := Nat.eq_of_beq_eq_true hbb
          subst hbb
          obtain ⟨L, h1, h2⟩ : ∃ L, R b = some L ∧ ev e (.tmp t) = .func (.yield L.B) #[] #[] := evG_rel he hy
          rw [hb] at h1
          cases h1
          obtain ⟨cal, as, ats⟩ := c
          simp only at ht'
          subst ht'
          exact ⟨t, ats, by simpa using hc, h2⟩
        · cases h
      · cases h
    · cases h
  · cases h
theorem iYs_ok (hcl : ClOK P G B0 cl) (hr : RndOK P G B0 Rx R0 H0 w0 Bm l D fn ex ps a bd rnd) {ops : Array Oper} {Q : Exit → Act → World → Prop} : ∀ {L : List Oper} {R : Lay} {E : Tr GV} {H : AH} {e : Env} {w : World} {y : Option Code} {E' : Tr GV} {H' : AH} {y' : Option Code},
    iYs rnd b cl P G n ops L E H y = some (E', H', y') → EnvR R n E e → Sim G B0 R H w → Fr B0 R0 H0 w0 R H w → LpAt Bm R H w l D (recL fn ex ps a bd D (stL y) y) → R b = some ⟨l, 0⟩ → Lay.le Rx R →
    (∀ R' e' w', Lay.le R R' → EnvR R' n E' e' → Sim G B0 R' H' w' → Fr B0 R0 H0 w0 R' H' w' → LpAt Bm R' H' w' l D (recL fn ex ps a bd D (stL y') y') → Q .normal ⟨e'.toArray, []⟩ w') → wpListIn Fence.wide 1 P ops Q L ⟨e.toArray, []⟩ w
  | [], R, E, H, e, w, y, E', H', y', h, he, hs, hf, hL, hb, hx, hK => by
    cases h
    exact hK R e w (Lay.le.refl R) he hs hf hL
  | o :: L, R, E, H, e, w, y, E', H', y', h, he, hs, hf, hL, hb, hx, hK => by
    unfold iYs at h
    refine wpListIn_step fun KK hKK => ?_
    have wnt : ∀ {q : Bool}, (match o.guard with | none => some true | some (j, want) => gB ops.toList E n j want) = some q → Region.wanted o (yielded ops e.toArray) = q := by
      intro q hq
      cases hg : o.guard with
      | none => rw [hg] at hq; cases hq; simp [Region.wanted, hg]
      | some jw =>
        obtain ⟨j, want⟩ := jw
        rw [hg] at hq
        simp only at hq
        have hw := wanted_eq ops.toList e o j want hg
        rw [show ops.toList.toArray = ops from rfl] at hw
        rw [hw]
        cases q with
        | true => rw [(gB_ok hq he).1 rfl]; simp
        | false =>
          cases hd : (asB (gdst ops.toList e j) == some want) with
          | false => rfl
          | true => have := (gB_ok hq he).2 (by simpa using hd); cases this
    dsimp only
    split at h
    · cases h
    · rename_i hq
      rw [wnt hq]
      refine ⟨fun _ _ => trivial, ?_⟩
      rw [put_env]
      exact hKK _ _ (iYs_ok hcl hr (L := L) h (he.put rfl) hs hf hL hb hx hK)
    · rename_i hq
      rw [wnt hq, if_pos rfl]
      split at h
      · rename_i args hy
        split at h
        · rename_i as has
          split at h
          · rename_i j H1 h1
            obtain ⟨t, ats, hop, hev⟩ := isY_ok hy he hb
            have hR := hr h1 (vs := args.map (ev e)) (K := fun v w' => KK ⟨(pt e o.dst v).toArray, []⟩ w') hx hs hf hL (evL_rel he has) (fun R' w' hle hs' hf' hL' => hKK _ _ (iYs_ok hcl hr (L := L) h ((he.mono hle).put kG_rel) hs' hf' hL' (hle _ _ hb) (hx.trans hle) fun R2 e2 w2 hle2 he2 hs2 hf2 hL2 => hK R2 e2 w2 (hle.trans hle2) he2 hs2 hf2 hL2))
            have hrun : (execOp (Act.eval ⟨e.toArray, []⟩) o).run P w = .ok (.round l fn ((ps.zip (args.map (ev e)).toArray).foldl (fun tmps (t, a) => tmps.setIfInBounds t a) ex.toArray) a bd) w := by
              have he' : Act.eval ⟨e.toArray, []⟩ = ev e := funext (eval_env e [])
              obtain ⟨dst, op, ty, pos, after, guard⟩ := o
              simp only at hop
              subst hop
              rw [he']
              simp only [execOp, resolve, Deferred.ofValue, invoke, Sem.run_bind, Sem.run_pure, Result.andThen_ok, hev]
              have e1 : #[] ++ Array.map (ev e) args.toArray = (args.map (ev e)).toArray := by simp
              rw [e1]
              have := run_yield (P := P) (w := w) (l := l) (args := (args.map (ev e)).toArray) hL.lp.dl (by have := hR.1; simpa [recL] using this)
              exact this
            unfold Oper.wpIn
            refine ⟨fun _ _ => trivial, ?_⟩
            rw [show Fence.wide.round = none from rfl, Oper.semAt_none, hrun, Oper.uponIn_round]
            refine ⟨fun hh => (by cases hh), hR.2.mono ?_⟩
            rintro x w2 ⟨v, rfl, hv⟩
            show KK (Act.put ⟨e.toArray, []⟩ o.dst v) w2
            rw [put_env]
            exact hv
          · cases h
        · cases h
      · split at h
        · split at h
          · rename_i g H1 h1
            have := iOp_yls hcl h1 he hs (fun v w' => KK ⟨(pt e o.dst v).toArray, []⟩ w') (fun R' v w' hle hv hs' hf' => hKK _ _ (iYs_ok hcl hr (L := L) h ((he.mono hle).put hv) hs' (hf.trans hf') (hL.step hf') (hle _ _ hb) (hx.trans hle) fun R2 e2 w2 hle2 he2 hs2 hf2 hL2 => hK R2 e2 w2 (hle.trans hle2) he2 hs2 hf2 hL2))
            exact op_wide (cOp_sound this fun v w' hv => hv)
          · cases h
        · cases h
theorem iY_ok (hcl : ClOK P G B0 cl) (hcp : CpOK P G B0 cp) (hr : RndOK P G B0 Rx R0 H0 w0 Bm l D fn ex ps a bd rnd) : ∀ (f : Nat) {c : Code} {E : Tr GV} {H : AH} {y : Option Code} {o : Out} {y' : Option Code}, hintB P ht c = true → iY rnd b ht cl cp P G n f c E H y = some (o, y') →
    ∀ {R : Lay} {e : Env} {w : World} {Q : Exit → Act → World → Prop}, EnvR R n E e → Sim G B0 R H w → Fr B0 R0 H0 w0 R H w → LpAt Bm R H w l D (recL fn ex ps a bd D (stL y) y) → R b = some ⟨l, 0⟩ → Lay.le Rx R →
    (∀ R' e' w', Lay.le R R' → EnvR R' n o.E e' → Sim G B0 R' o.H w' → Fr B0 R0 H0 w0 R' o.H w' → LpAt Bm R' o.H w' l D (recL fn ex ps a bd D (stL y') y') → Q o.x ⟨e'.toArray, []⟩ w') → GdW P f c Q ⟨e.toArray, []⟩ w := by
  intro f
  induction f with
  | zero => intro c E H y o y' _ h; cases h
  | succ f ih =>
    intro c E H y o y' hh h R e w Q he hs hf hL hb hx hK
    have leaf : ∀ {c : Code}, hintB P ht c = true → (match iCode ht cl cp P G n f c E H with | some o => some (o, y) | none => none) = some (o, y') → c.wp P Q ⟨e.toArray, []⟩ w := by
      intro c hh h
      split at h
      · rename_i o' ho
        cases h
        exact leaf_ok hcl hcp hh ho he hs fun R' e' w' a b c d => hK R' e' w' a b c (hf.trans d) (hL.step d)
      · cases h
    unfold iY at h
    cases c with
    | seq a' b' =>
      have hh := hint2 hh
      simp only at h
      refine wp_seq ?_
      split at h
      · rename_i E1 H1 y1 h1
        refine (ih hh.1 h1 he hs hf hL hb hx fun R1 e1 w1 hle he1 hs1 hf1 hL1 => ?_).code
        exact (ih hh.2 h he1 hs1 hf1 hL1 (hle _ _ hb) (hx.trans hle) fun R2 e2 w2 hle2 he2 hs2 hf2 hL2 => hK R2 e2 w2 (hle.trans hle2) he2 hs2 hf2 hL2).code
      · rename_i hno
        refine (ih hh.1 h he hs hf hL hb hx fun R1 e1 w1 hle he1 hs1 hf1 hL1 => ?_).code
        have := hK R1 e1 w1 hle he1 hs1 hf1 hL1
        cases o with
        | nrm E1 H1 => exact absurd h (hno E1 H1 y')
        | ext i E1 H1 => exact this
        | ret E1 H1 => exact this
    | cond c x z =>
      have hh := hint2 hh
      simp only at h
      split at h
      · rename_i hc
        exact wp_cond (t := true) (by rw [eval_env]; exact isT_ok hc he) (ih hh.1 h he hs hf hL hb hx hK).code
      · rename_i hc
        exact wp_cond (t := false) (by rw [eval_env]; exact isT_ok hc he) (ih hh.2 h he hs hf hL hb hx hK).code
      · cases h
    | block id c =>
      have hh : hintB P ht c = true := hh
      simp only at h
      refine wp_block ?_
      split at h
      · rename_i i E1 H1 y1 h1
        split at h
        · rename_i hbb
          cases h
          refine (ih hh h1 he hs hf hL hb hx fun R1 e1 w1 hle he1 hs1 hf1 hL1 => ?_).code
          have hi := Nat.eq_of_beq_eq_true hbb
          subst hi
          simp only [Out.x, Exit.inBlock, if_true]
          exact hK R1 e1 w1 hle he1 hs1 hf1 hL1
        · rename_i hbb
          cases h
          refine (ih hh h1 he hs hf hL hb hx fun R1 e1 w1 hle he1 hs1 hf1 hL1 => ?_).code
          have hi : ¬ i = id := fun hh => by subst hh; simp at hbb
          simp only [Out.x, Exit.inBlock, if_neg hi]
          exact hK R1 e1 w1 hle he1 hs1 hf1 hL1
      · rename_i hno
        refine (ih hh h he hs hf hL hb hx fun R1 e1 w1 hle he1 hs1 hf1 hL1 => ?_).code
        have := hK R1 e1 w1 hle he1 hs1 hf1 hL1
        cases o with
        | nrm E1 H1 => exact this
        | ext i E1 H1 => exact absurd h (hno i E1 H1 y')
        | ret E1 H1 => exact this
    | loop c =>
      have hh : hintB P ht c = true := hh
      simp only at h
      show c.wp P (Exit.then (unrW P c Q f) Q) ⟨e.toArray, []⟩ w
      split at h
      · rename_i E1 H1 y1 h1
        refine (ih hh h1 he hs hf hL hb hx fun R1 e1 w1 hle he1 hs1 hf1 hL1 => ?_).code
        have := ih (c := .loop c) (Q := Q) hh h he1 hs1 hf1 hL1 (hle _ _ hb) (hx.trans hle) fun R2 e2 w2 hle2 he2 hs2 hf2 hL2 => hK R2 e2 w2 (hle.trans hle2) he2 hs2 hf2 hL2
        exact this
      · rename_i hno
        refine (ih hh h he hs hf hL hb hx fun R1 e1 w1 hle he1 hs1 hf1 hL1 => ?_).code
        have := hK R1 e1 w1 hle he1 hs1 hf1 hL1
        cases o with
        | nrm E1 H1 => exact absurd h (hno E1 H1 y')
        | ext i E1 H1 => exact this
        | ret E1 H1 => exact this
    | region id ops draw =>
      cases draw with
      | true => exact leaf hh h
      | false =>
        simp only at h
        split at h
        · split at h
          · rename_i E1 H1 y1 h1
            cases h
            exact (wpIn_wide (n := 1)).1 (wpIn_region_list (iYs_ok hcl hr h1 he hs hf hL hb hx hK))
          · cases h
        · exact leaf hh h
    | _ => exact leaf hh h
end iter
end
end Go.Proofs.YtnmjfakibhekmaaGreatDoor
