/- Runs in which all is known but where blocks stand: code that only reads; functions. Nothing of the program is named here. -/
import Derived.Test.YtnmjfakibhekmaaGreatDoorRn14
namespace Go.Proofs.YtnmjfakibhekmaaGreatDoor
set_option maxRecDepth 100000
open Go.RowKit

inductive OutP where
  | nrm (E : Tr GV)
  | ext (i : Nat) (E : Tr GV)
  | ret (E : Tr GV)
def OutP.E : OutP → Tr GV
  | .nrm E => E
  | .ext _ E => E
  | .ret E => E
def OutP.k : OutP → KE → (Nat → KE) → KE → KE
  | .nrm _, N, _, _ => N
  | .ext i _, _, X, _ => X i
  | .ret _, _, _, R => R
def nrmP : Option (Tr GV) → Option OutP
  | some E => some (.nrm E)
  | none => none
def iPc (cp : Cp) (P : Program) (G : Glo) (H : AH) (n : Nat) : Nat → Code → Tr GV → Option OutP
  | 0, _, _ => none
  | f + 1, c, E =>
    match c with
    | .skip => some (.nrm E)
    | .region _ ops draw => match draw with
      | false => nrmP (iGrpS cp P G H n ops.toList (grp ops.toList) E)
      | true => none
    | .seq a b => match iPc cp P G H n f a E with
      | some (.nrm E1) => iPc cp P G H n f b E1
      | r => r
    | .cond c x y => match isT E n c with
      | some true => iPc cp P G H n f x E
      | some false => iPc cp P G H n f y E
      | none => none
    | .block id c => match iPc cp P G H n f c E with
      | some (.ext i E1) => match Nat.beq i id with | true => some (.nrm E1) | false => some (.ext i E1)
      | r => r
    | .loop c => match iPc cp P G H n f c E with
      | some (.nrm E1) => iPc cp P G H n f (.loop c) E1
      | r => r
    | .exit i => some (.ext i E)
    | .ret => some (.ret E)
    | _ => none
section
variable {P : Program} {G : Glo} {B0 : Nat} {R : Lay} {H H' : AH} {w w' : World} {n : Nat} {E E' : Tr GV} {e : Env} {cl : Cl} {cp : Cp} {K : KE}
theorem dsts_cons (o : Oper) (l : List Oper) : dsts (o :: l) = o.dst.toList ++ dsts l := by
  unfold dsts
  rw [List.filterMap_cons]
  cases o.dst <;> rfl
theorem iSeqP_ok (hcp : CpOK P G B0 cp) (hs : Sim G B0 R H w) : ∀ {l : List Oper} {E E' : Tr GV} {e : Env}, iSeqS cp P G H n l E = some E' → EnvR R n E e → ∃ e', EnvR R n E' e' ∧ agree (dsts l) e e' ∧ ∀ K : KE, K e' w → cSeq P l K e w
  | [], E, E', e, h, he => by cases h; exact ⟨e, he, agree.refl _ _, fun K hK => hK⟩
  | o :: l, E, E', e, h, he => by
    unfold iSeqS at h
    split at h
    · rename_i r ho
      obtain ⟨v, hv, hk⟩ := rOp2_yld hcp ho he hs
      obtain ⟨e', h1, h2, h3⟩ := iSeqP_ok hcp hs h (he.put hv)
      refine ⟨e', h1, ?_, fun K hK => ?_⟩
      · rw [dsts_cons]; exact (agree_pt e o.dst v).trans h2
      · unfold cSeq
        exact hk _ (h3 K hK)
    · cases h
theorem iGrpP_ok (hcp : CpOK P G B0 cp) (hs : Sim G B0 R H w) {ops : List Oper} : ∀ {gs : List (Option (Nat × Bool) × List Oper)} {E E' : Tr GV} {e : Env}, iGrpS cp P G H n ops gs E = some E' → EnvR R n E e → ∃ e', EnvR R n E' e' ∧ ∀ K : KE, K e' w → cGrp P ops gs K e w
  | [], E, E', e, h, he => by cases h; exact ⟨e, he, fun K hK => hK⟩
  | (none, l) :: gs, E, E', e, h, he => by
    unfold iGrpS at h
    split at h
    · rename_i E1 h1
      obtain ⟨e1, a1, _, c1⟩ := iSeqP_ok hcp hs h1 he
      obtain ⟨e2, a2, c2⟩ := iGrpP_ok hcp hs h a1
      refine ⟨e2, a2, fun K hK => ?_⟩
      unfold cGrp
      exact c1 _ (c2 K hK)
    · cases h
  | (some (j, want), l) :: gs, E, E', e, h, he => by
    unfold iGrpS at h
    split at h
    · rename_i hb hg
      have hmet := (gB_ok hg he).1 rfl
      split at h
      · rename_i E1 h1
        obtain ⟨e1, a1, b1, c1⟩ := iSeqP_ok hcp hs h1 he
        obtain ⟨e2, a2, c2⟩ := iGrpP_ok hcp hs h a1
        refine ⟨e2, a2, fun K hK => ?_⟩
        unfold cGrp
        rw [hb]
        refine ⟨fun _ => c1 _ ?_, fun hh => absurd hmet hh⟩
        show cGrp P ops gs K (sets e (dsts l) ((dsts l).map (gd e1))) w
        rw [agree_sets b1]
        exact c2 K hK
      · cases h
    · rename_i hb hg
      have hmet : ¬ asB (gdst ops e j) = some want := fun hh => by have := (gB_ok hg he).2 hh; cases this
      obtain ⟨e2, a2, c2⟩ := iGrpP_ok hcp hs h (undE_ok _ 0 (gd_undefs (dsts l)) he)
      refine ⟨e2, a2, fun K hK => ?_⟩
      unfold cGrp
      rw [hb]
      exact ⟨fun hh => absurd hh hmet, fun _ => c2 K hK⟩
    · cases h
theorem iPc_ok (hcp : CpOK P G B0 cp) (hs : Sim G B0 R H w) : ∀ (f : Nat) {c : Code} {E : Tr GV} {o : OutP} {e : Env}, iPc cp P G H n f c E = some o → EnvR R n E e → ∃ e', EnvR R n o.E e' ∧ ∀ (N : KE) (X : Nat → KE) (Rt : KE), o.k N X Rt e' w → Gd P f c N X Rt e w := by
  intro f
  induction f with
  | zero => intro c E o e h; cases h
  | succ f ih =>
    intro c E o e h he
    unfold iPc at h
    cases c with
    | skip => cases h; exact ⟨e, he, fun N X Rt h => h⟩
    | region id ops draw =>
      cases draw with
      | false =>
        simp only [nrmP] at h
        split at h
        · rename_i E1 h1
          cases h
          obtain ⟨e1, a1, b1⟩ := iGrpP_ok hcp hs h1 he
          exact ⟨e1, a1, fun N X Rt h => b1 _ h⟩
        · cases h
      | true => cases h
    | seq a b =>
      simp only at h
      split at h
      · rename_i E1 h1
        obtain ⟨e1, a1, b1⟩ := ih h1 he
        obtain ⟨e2, a2, b2⟩ := ih h a1
        exact ⟨e2, a2, fun N X Rt hh => (b1 (cCode P b N X Rt) X Rt (b2 N X Rt hh).code).code⟩
      · rename_i hno
        obtain ⟨e1, a1, b1⟩ := ih h he
        refine ⟨e1, a1, fun N X Rt hh => (b1 (cCode P b N X Rt) X Rt ?_).code⟩
        cases o with
        | nrm E1 => exact absurd h (hno E1)
        | ext i E1 => exact hh
        | ret E1 => exact hh
    | cond c x y =>
      simp only at h
      split at h
      · rename_i hc
        obtain ⟨e1, a1, b1⟩ := ih h he
        exact ⟨e1, a1, fun N X Rt hh => ⟨true, isT_ok hc he, fun _ => (b1 N X Rt hh).code, fun hh => by cases hh⟩⟩
      · rename_i hc
        obtain ⟨e1, a1, b1⟩ := ih h he
        exact ⟨e1, a1, fun N X Rt hh => ⟨false, isT_ok hc he, fun hh => (by cases hh), fun _ => (b1 N X Rt hh).code⟩⟩
      · cases h
    | block id c =>
      simp only at h
      split at h
      · rename_i i E1 h1
        obtain ⟨e1, a1, b1⟩ := ih h1 he
        split at h
        · rename_i hb
          cases h
          refine ⟨e1, a1, fun N X Rt hh => (b1 N (fun i => @Bool.rec (fun _ => KE) (X i) N (Nat.beq i id)) Rt ?_).code⟩
          show (@Bool.rec (fun _ => KE) (X i) N (Nat.beq i id)) e1 w
          rw [hb]
          exact hh
        · rename_i hb
          cases h
          refine ⟨e1, a1, fun N X Rt hh => (b1 N (fun i => @Bool.rec (fun _ => KE) (X i) N (Nat.beq i id)) Rt ?_).code⟩
          show (@Bool.rec (fun _ => KE) (X i) N (Nat.beq i id)) e1 w
          rw [hb]
          exact hh
      · rename_i hno
        obtain ⟨e1, a1, b1⟩ := ih h he
        refine ⟨e1, a1, fun N X Rt hh => (b1 N (fun i => @Bool.rec (fun _ => KE) (X i) N (Nat.beq i id)) Rt ?_).code⟩
        cases o with
        | nrm E1 => exact hh
        | ext i E1 => exact absurd h (hno i E1)
        | ret E1 => exact hh
    | loop c =>
      simp only at h
      split at h
      · rename_i E1 h1
        obtain ⟨e1, a1, b1⟩ := ih h1 he
        obtain ⟨e2, a2, b2⟩ := ih h a1
        refine ⟨e2, a2, fun N X Rt hh => ?_⟩
        exact (b1 (unr P c X Rt f) X Rt (b2 N X Rt hh)).code
      · rename_i hno
        obtain ⟨e1, a1, b1⟩ := ih h he
        refine ⟨e1, a1, fun N X Rt hh => ?_⟩
        refine (b1 (unr P c X Rt f) X Rt ?_).code
        cases o with
        | nrm E1 => exact absurd h (hno E1)
        | ext i E1 => exact hh
        | ret E1 => exact hh
    | exit i => cases h; exact ⟨e, he, fun N X Rt h => h⟩
    | ret => cases h; exact ⟨e, he, fun N X Rt h => h⟩
    | _ => cases h

/-! ## What a function is handed, and what it returns. -/
def aG : GV → Option AV
  | .val a => some a
  | _ => none
def getA (E : Tr GV) (n t : Nat) : Option AV := match Nat.blt t n with | true => aG (getE E t) | false => none
theorem getA_ok {t : Nat} {a : AV} (h : getA E n t = some a) (he : EnvR R n E e) : a.rel R (gd e t) := by
  unfold getA at h
  split at h
  · rename_i hb
    have := he.rel t (blt_iff.1 hb)
    unfold aG at h
    split at h
    · rename_i a' ha; cases h; rw [ha] at this; exact this
    · cases h
  · cases h
def resG (E : Tr GV) (n : Nat) : List ResultVar → Option GV
  | [] => some (.tup [])
  | [.tmp t] => match getA E n t with | some a => some (.val a) | none => none
  | [.tmp t, .tmp u] => match getA E n t, getA E n u with | some a, some b => some (.tup [a, b]) | _, _ => none
  | [.tmp t, .tmp u, .tmp v] => match getA E n t, getA E n u, getA E n v with | some a, some b, some c => some (.tup [a, b, c]) | _, _, _ => none
  | [.tmp t, .tmp u, .tmp v, .tmp x] => match getA E n t, getA E n u, getA E n v, getA E n x with | some a, some b, some c, some d => some (.tup [a, b, c, d]) | _, _, _, _ => none
  | _ => none
theorem resG_ok {rs : List ResultVar} {r : GV} (h : resG E n rs = some r) (he : EnvR R n E e) : ∃ v, r.rel R v ∧ ∀ (K : KV) w, K v w → retK P rs K e w := by
  unfold resG at h
  split at h
  · cases h; exact ⟨_, ⟨[], .nil, rfl⟩, fun K w h => h⟩
  · split at h
    · rename_i ha; cases h; exact ⟨_, getA_ok ha he, fun K w h => h⟩
    · cases h
  · split at h
    · rename_i ha hb; cases h; exact ⟨_, ⟨_, .cons (getA_ok ha he) (.cons (getA_ok hb he) .nil), rfl⟩, fun K w h => h⟩
    · cases h
  · split at h
    · rename_i ha hb hc; cases h; exact ⟨_, ⟨_, .cons (getA_ok ha he) (.cons (getA_ok hb he) (.cons (getA_ok hc he) .nil)), rfl⟩, fun K w h => h⟩
    · cases h
  · split at h
    · rename_i ha hb hc hd; cases h; exact ⟨_, ⟨_, .cons (getA_ok ha he) (.cons (getA_ok hb he) (.cons (getA_ok hc he) (.cons (getA_ok hd he) .nil))), rfl⟩, fun K w h => h⟩
    · cases h
  · cases h
/-- .. that lies in a variable. -/
def ptrG : GV → Bool
  | .val (.one (.p _ _)) => true
  | .val (.one (.g _ _)) => true
  | _ => false
def celG (P : Program) (G : Glo) (H : AH) (E : Tr GV) (n : Nat) (a : Tmp) (t : TypeId) : Option AV :=
  match Nat.blt a n, ptrG (getE E a) with
  | true, true => match ldG P G H t (getE E a) with | some r => aG r | none => none
  | _, _ => none
theorem celG_ok {a : Tmp} {t : TypeId} {x : AV} (h : celG P G H E n a t = some x) (he : EnvR R n E e) (hs : Sim G B0 R H w) : ∃ (q : Addr) (v : Value), gd e a = .pointer (some q) ∧ x.rel R v ∧ (loadVar t q).run P w = .ok v w := by
  unfold celG at h
  split at h
  · rename_i hb hp
    have hr := he.rel a (blt_iff.1 hb)
    split at h
    · rename_i r hl
      obtain ⟨v, hv, hk⟩ := ld_yld hl hs hr
      unfold aG at h
      split at h
      · rename_i x' 
        cases h
        have hq : ∃ q, gd e a = .pointer (some q) := by
          unfold ptrG at hp
          split at hp
          · rename_i b o he; rw [he] at hr; obtain ⟨L, _, hq⟩ := hr; exact ⟨_, hq⟩
          · rename_i b o he; rw [he] at hr; exact ⟨_, hr⟩
          · cases hp
        obtain ⟨q, hq⟩ := hq
        refine ⟨q, v, hq, hv, ?_⟩
        have := hk (fun v' w' => v' = v ∧ w' = w) ⟨rfl, rfl⟩
        unfold ld okV at this
        rw [hq] at this
        unfold Instr.loadAt at this
        simp only [Instr.sureAddr, Sem.run_bind, Sem.run_pure, Result.andThen_ok] at this
        split at this
        · rename_i v' w' hrun; rw [hrun, this.1, this.2]
        · exact this.elim
      · cases h
    · cases h
  · cases h
def resC (P : Program) (G : Glo) (H : AH) (E : Tr GV) (n : Nat) (rs : List ResultVar) : Option GV :=
  match rs with
  | [.cell a t] => match celG P G H E n a t with | some x => some (.val x) | none => none
  | [.cell a t, .tmp u] => match celG P G H E n a t, getA E n u with | some x, some y => some (.tup [x, y]) | _, _ => none
  | [.cell a t, .cell b s, .tmp u] => match celG P G H E n a t, celG P G H E n b s, getA E n u with | some x, some y, some z => some (.tup [x, y, z]) | _, _, _ => none
  | rs => resG E n rs
theorem resC_ok {rs : List ResultVar} {r : GV} (h : resC P G H E n rs = some r) (he : EnvR R n E e) (hs : Sim G B0 R H w) : ∃ v, r.rel R v ∧ ∀ K : KV, K v w → retK P rs K e w := by
  unfold resC at h
  split at h
  · rename_i a t
    split at h
    · rename_i x hx
      cases h
      obtain ⟨q, v, h1, h2, h3⟩ := celG_ok hx he hs
      refine ⟨v, h2, fun K hK => ?_⟩
      show retM P [(some t, gd e a)] K w
      unfold retM
      have : (resSem [(some t, gd e a)]).run P w = .ok v w := by simp [resSem, h1, asAddr, Sem.run_bind, h3]
      rw [this]; exact ⟨rfl, hK⟩
    · cases h
  · rename_i a t u
    split at h
    · rename_i x y hx hy
      cases h
      obtain ⟨q, v, h1, h2, h3⟩ := celG_ok hx he hs
      refine ⟨_, ⟨_, .cons h2 (.cons (getA_ok hy he) .nil), rfl⟩, fun K hK => ?_⟩
      show retM P [(some t, gd e a), (none, gd e u)] K w
      unfold retM
      have : (resSem [(some t, gd e a), (none, gd e u)]).run P w = .ok (.tuple #[v, gd e u]) w := by simp [resSem, h1, asAddr, Sem.run_bind, h3]
      rw [this]; exact ⟨rfl, hK⟩
    · cases h
  · rename_i a t b s u
    split at h
    · rename_i x y z hx hy hz
      cases h
      obtain ⟨q, v, h1, h2, h3⟩ := celG_ok hx he hs
      obtain ⟨q', v', h1', h2', h3'⟩ := celG_ok hy he hs
      refine ⟨_, ⟨_, .cons h2 (.cons h2' (.cons (getA_ok hz he) .nil)), rfl⟩, fun K hK => ?_⟩
      show retM P [(some t, gd e a), (some s, gd e b), (none, gd e u)] K w
      unfold retM
      have : (resSem [(some t, gd e a), (some s, gd e b), (none, gd e u)]).run P w = .ok (.tuple #[v, v', gd e u]) w := by simp [resSem, h1, h1', asAddr, Sem.run_bind, h3, h3']
      rw [this]; exact ⟨rfl, hK⟩
    · cases h
  · obtain ⟨v, h1, h2⟩ := resG_ok (P := P) h he
    exact ⟨v, h1, fun K hK => h2 K w hK⟩
def iniE (n : Nat) : Nat → List GV → Tr GV → Tr GV
  | _, [], E => E
  | i, a :: l, E => iniE n (i + 1) l (ptE E n (some i) a)
def iniV : Nat → List Value → Env → Env
  | _, [], e => e
  | i, v :: l, e => iniV (i + 1) l (pt e (some i) v)
theorem iniE_ok : ∀ {as : List GV} {vs : List Value} {i : Nat} {E : Tr GV} {e : Env}, All2 (GV.rel R) as vs → EnvR R n E e → EnvR R n (iniE n i as E) (iniV i vs e)
  | [], _, i, E, e, h, he => by cases h; exact he
  | a :: as, _, i, E, e, h, he => by
    cases h with
    | cons h1 h2 =>
      unfold iniE iniV
      exact iniE_ok h2 (he.put (d := some i) h1)
theorem iniV_eq : ∀ (vs : List Value) (pre : Env) (k : Nat), vs.length ≤ k → iniV pre.length vs (pre ++ List.replicate k undef) = pre ++ (vs ++ List.replicate (k - vs.length) undef)
  | [], pre, k, _ => by simp [iniV]
  | v :: vs, pre, k, h => by
    cases k with
    | zero => simp at h
    | succ k =>
      unfold iniV
      have h1 : pt (pre ++ List.replicate (k + 1) undef) (some pre.length) v = (pre ++ [v]) ++ List.replicate k undef := by
        unfold pt
        simp [List.set_append, List.replicate_succ]
      rw [h1]
      have h2 := iniV_eq vs (pre ++ [v]) k (by simpa using h)
      rw [List.length_append, List.length_singleton] at h2
      rw [h2]
      simp
theorem env0 (hn : n ≤ 256) : EnvR R n .e (List.replicate n undef) where
  len := by simp
  big := hn
  rel i hi := by
    have : gd (List.replicate n undef) i = undef := by unfold gd; simp [List.getD_eq_getElem?_getD, List.getElem?_replicate, hi]
    rw [this]
    exact rfl
theorem envA {as : List GV} {vs : List Value} (h : All2 (GV.rel R) as vs) (hl : Nat.ble as.length n = true) (hn : Nat.ble n 256 = true) : EnvR R n (iniE n 0 as .e) (vs ++ List.replicate (n - vs.length) undef) := by
  have h1 := iniE_ok (i := 0) h (env0 (R := R) (Nat.le_of_ble_eq_true hn))
  have h2 := iniV_eq vs [] n (by rw [h.len]; exact Nat.le_of_ble_eq_true hl)
  simp only [List.length_nil, List.nil_append] at h2
  rw [h2] at h1
  exact h1

/-! ## Functions. -/
def iPf (jc : Cp) (P : Program) (G : Glo) (F : Nat) : Nat → Cp
  | 0 => jc
  | k + 1 => fun f args H => match jc f args H with
    | some r => some r
    | none => match P.funcs[f]? with
      | some fn => match fn.body, Nat.ble args.length fn.ntmps, Nat.ble fn.ntmps 256 with
        | some c, true, true => match iPc (iPf jc P G F k) P G H fn.ntmps F c (iniE fn.ntmps 0 args .e) with
          | some (.nrm E) => resC P G H E fn.ntmps fn.results.toList
          | some (.ret E) => resC P G H E fn.ntmps fn.results.toList
          | _ => none
        | _, _, _ => none
      | none => none
def GoNames (P : Program) : Prop := ∀ (f : FuncId) (fn : Func), P.funcs[f]? = some fn → (fn.name == "runtime.NumGoroutine") = false
theorem iPf_ok {jc : Cp} {F : Nat} (hgo : GoNames P) (hjc : CpOK P G B0 jc) : ∀ k, CpOK P G B0 (iPf jc P G F k) := by
  intro k
  induction k with
  | zero => exact hjc
  | succ k ih =>
    intro f args H r R w vs h hs ha
    unfold iPf at h
    split at h
    · rename_i r' hr; cases h; exact hjc hr hs ha
    · split at h
      · rename_i fn hf
        split at h
        · rename_i c hb hl hn
          have he := envA ha hl hn
          have fin : ∀ {E : Tr GV} {o : OutP}, iPc (iPf jc P G F k) P G H fn.ntmps F c (iniE fn.ntmps 0 args .e) = some o → resC P G H o.E fn.ntmps fn.results.toList = some r → (∀ (N : KE) (X : Nat → KE), o.k N X N = N) → Yld (fun K w => call P f vs.toArray K w) R r w := by
            intro E o h1 h2 h3
            obtain ⟨e', he', hk⟩ := iPc_ok ih hs F h1 he
            obtain ⟨v, hv, hret⟩ := resC_ok h2 he' hs
            refine ⟨v, hv, fun K hK => ⟨⟨fn, hf, hgo f fn hf, by rw [hb]; rfl⟩, ?_⟩⟩
            refine enter hf hb (hk _ _ _ ?_).code
            rw [h3]
            exact hret K hK
          split at h
          · rename_i E h1; exact fin (E := E) h1 h fun _ _ => rfl
          · rename_i E h1; exact fin (E := E) h1 h fun _ _ => rfl
          · cases h
        · cases h
      · cases h
end
end Go.Proofs.YtnmjfakibhekmaaGreatDoor
