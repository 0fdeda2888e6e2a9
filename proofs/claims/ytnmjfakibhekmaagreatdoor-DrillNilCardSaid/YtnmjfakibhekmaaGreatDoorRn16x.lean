/- Runs in which all is known but where blocks stand: a loop over a map of several, in whatever order. Nothing of the program is named here. -/
import Derived.Test.YtnmjfakibhekmaaGreatDoorRn16y
import Derived.Test.YtnmjfakibhekmaaGreatDoorRnE
import Derived.Maps.RangeRun
namespace Go.Proofs.YtnmjfakibhekmaaGreatDoor
set_option maxRecDepth 100000
open Go.RowKit Go.ChangeMaps

def bindL {α β : Type} (g : α → Option (List β)) : List α → Option (List β)
  | [] => some []
  | a :: l => match g a with
    | some x => match bindL g l with | some y => some (x ++ y) | none => none
    | none => none
theorem bindL_mem {α β : Type} {g : α → Option (List β)} : ∀ {l : List α} {r : List β}, bindL g l = some r → ∀ a ∈ l, ∃ x, g a = some x ∧ ∀ b ∈ x, b ∈ r
  | [], _, _, a, ha => by cases ha
  | a0 :: l, r, h, a, ha => by
    unfold bindL at h
    split at h
    · rename_i x hx
      split at h
      · rename_i y hy
        cases h
        cases ha with
        | head => exact ⟨x, hx, fun b hb => List.mem_append_left _ hb⟩
        | tail _ ha =>
          obtain ⟨x', h1, h2⟩ := bindL_mem hy a ha
          exact ⟨x', h1, fun b hb => List.mem_append_right _ (h2 b hb)⟩
      · cases h
    · cases h
/-- What the next step over a map may come to. -/
def nxtN (H : AH) (it : GV) : Option (List (GV × AH)) :=
  match it with
  | .val (.one (.it b)) => match H.get b with
    | some (.mit (some m) since seen c0) => match H.get m with
      | some (.map es clock) => match es.all (fun e => Nat.blt e.born since), Nat.ble since c0 with
        | true, true => match es.filter (fun e => !seen.contains e.born) with
          | [] => some [(overG, H)]
          | l => bindL (fun e => match ofV e.key with
            | .val k => some [(.tup [.one (.k (.bool true)), k, e.val], H.put b (.mit (some m) since (seen ++ [e.born]) clock))]
            | _ => none) l
        | _, _ => none
      | _ => none
    | _ => none
  | _ => none
def iNs (cl : Cl) (P : Program) (G : Glo) (n : Nat) : List Oper → Tr GV → AH → Option (List (Tr GV × AH))
  | [], E, H => some [(E, H)]
  | o :: r, E, H => match o.guard with
    | some _ => none
    | none => match ndO o with
      | false => none
      | true => match (match o.op with | .next it false => some it | _ => none) with
        | some it => match evG E n it with
          | some x => match nxtN H x with
            | some qs => bindL (fun q => iNs cl P G n r (ptE E n o.dst q.1) q.2) qs
            | none => none
          | none => none
        | none => match iOp cl P G H E n o with
          | some (g, H1) => iNs cl P G n r (ptE E n o.dst g) H1
          | none => none
def hasN (ops : List Oper) : Bool := ops.any fun o => match o.op with | .next _ false => true | _ => false
def unb (id : Nat) : Out → Out
  | .ext i E H => match Nat.beq i id with | true => .nrm E H | false => .ext i E H
  | o => o
def iN (ht : Ht) (cl : Cl) (cp : Cp) (P : Program) (G : Glo) (n : Nat) : Nat → Code → Tr GV → AH → Option (List Out)
  | 0, _, _, _ => none
  | f + 1, c, E, H =>
    match c with
    | .seq a b => match iN ht cl cp P G n f a E H with
      | some os => bindL (fun o => match o with | .nrm E1 H1 => iN ht cl cp P G n f b E1 H1 | o => some [o]) os
      | none => none
    | .cond c x z => match isT E n c with
      | some true => iN ht cl cp P G n f x E H
      | some false => iN ht cl cp P G n f z E H
      | none => none
    | .block id c => match iN ht cl cp P G n f c E H with
      | some os => some (os.map (unb id))
      | none => none
    | .loop c => match iN ht cl cp P G n f c E H with
      | some os => bindL (fun o => match o with | .nrm E1 H1 => iN ht cl cp P G n f (.loop c) E1 H1 | o => some [o]) os
      | none => none
    | .region id ops false => match hasN ops.toList with
      | true => match iNs cl P G n ops.toList E H with | some l => some (l.map fun q => .nrm q.1 q.2) | none => none
      | false => match iCode ht cl cp P G n f (.region id ops false) E H with | some o => some [o] | none => none
    | c => match iCode ht cl cp P G n f c E H with | some o => some [o] | none => none

/-! ## What all ways have in common. -/
def interE : Tr GV → Tr GV → Option (Tr GV)
  | .e, .e => some .e
  | .l a, .l b => match geq2 a b with | true => some (.l a) | false => some (.l .bad)
  | .n x y, .n p q => match interE x p with
    | some u => match interE y q with | some v => some (.n u v) | none => none
    | none => none
  | _, _ => none
def interT : Tr AO → Tr AO → Tr AO
  | .l a, .l b => match aoeq a b with | true => .l a | false => .e
  | .n x y, .n p q => .n (interT x p) (interT y q)
  | _, _ => .e
def joinO : List Out → Option (Tr GV × AH)
  | [] => none
  | [.nrm E H] => some (E, H)
  | .nrm E H :: l => match joinO l with
    | some (E1, H1) => match interE E E1, Nat.beq H.n H1.n with
      | some E2, true => some (E2, ⟨interT H.t H1.t, H.n⟩)
      | _, _ => none
    | none => none
  | _ => none
theorem interE_get : ∀ (d : Nat) {a b c : Tr GV} {i : Nat}, interE a b = some c → (Tr.get d c i = Tr.get d a i ∨ Tr.get d c i = some .bad) ∧ (Tr.get d c i = Tr.get d b i ∨ Tr.get d c i = some .bad) := by
  intro d
  induction d with
  | zero =>
    intro a b c i h
    cases a with
    | e => cases b <;> cases h; exact ⟨.inl rfl, .inl rfl⟩
    | l x =>
      cases b with
      | l y =>
        unfold interE at h
        split at h
        · rename_i hb; cases h; have := geq2_ok hb; subst this; exact ⟨.inl rfl, .inl rfl⟩
        · cases h; exact ⟨.inr rfl, .inr rfl⟩
      | _ => cases h
    | n x y =>
      cases b with
      | n p q =>
        unfold interE at h
        split at h
        · split at h
          · cases h; exact ⟨.inl rfl, .inl rfl⟩
          · cases h
        · cases h
      | _ => cases h
  | succ d ih =>
    intro a b c i h
    cases a with
    | e => cases b <;> cases h; exact ⟨.inl rfl, .inl rfl⟩
    | l x =>
      cases b with
      | l y =>
        unfold interE at h
        split at h
        · cases h; exact ⟨.inl rfl, .inl rfl⟩
        · cases h; exact ⟨.inl rfl, .inl rfl⟩
      | _ => cases h
    | n x y =>
      cases b with
      | n p q =>
        unfold interE at h
        split at h
        · rename_i u hu
          split at h
          · rename_i v hv
            cases h
            unfold Tr.get
            split
            · exact ih hu
            · exact ih hv
          · cases h
        · cases h
      | _ => cases h
theorem interT_get : ∀ (d : Nat) {a b : Tr AO} {i : Nat} {o : AO}, Tr.get d (interT a b) i = some o → Tr.get d a i = some o ∧ Tr.get d b i = some o := by
  intro d
  induction d with
  | zero =>
    intro a b i o h
    cases a <;> cases b <;> try (cases h; done)
    · rename_i x y
      unfold interT at h
      split at h
      · rename_i hb; have := aoeq_ok hb; subst this; exact ⟨h, h⟩
      · cases h
  | succ d ih =>
    intro a b i o h
    cases a <;> cases b <;> try (cases h; done)
    · rename_i x y
      unfold interT at h
      split at h <;> cases h
    · rename_i x y p q
      unfold interT at h
      unfold Tr.get at h ⊢
      split at h
      · exact ih h
      · exact ih h
section
variable {P : Program} {G : Glo} {B0 : Nat} {R : Lay} {H H' H1 : AH} {w w' : World} {n : Nat} {E E' E1 : Tr GV} {e : Env} {cl : Cl} {cp : Cp} {K : KE} {ht : Ht}
theorem Sim.fewer (hs : Sim G B0 R H w) (hn : H1.n = H.n) (h : ∀ i o, H1.get i = some o → H.get i = some o) : Sim G B0 R H1 w where
  obj i o hi hl := hs.obj i o (h _ _ hi) hl
  inj i j oi oj Li Lj hi hj := hs.inj i j oi oj Li Lj (h _ _ hi) (h _ _ hj)
  dom i L hi := by rw [hn]; exact hs.dom i L hi
  big := by rw [hn]; exact hs.big
  size := hs.size
  glob := hs.glob
theorem Fr.fewer {R0 : Lay} {H0 : AH} {w0 : World} (hf : Fr B0 R0 H0 w0 R H w) (h : ∀ i o, H1.get i = some o → H.get i = some o) : Fr B0 R0 H0 w0 R H1 w where
  below := hf.below
  keep := hf.keep
  fresh i o L hi hl hL := hf.fresh i o L (h _ _ hi) hl hL
/-- (E1, H1) says no more than (E, H). -/
def Less1 (E : Tr GV) (H : AH) (E1 : Tr GV) (H1 : AH) : Prop := (∀ i, getE E1 i = getE E i ∨ getE E1 i = .bad) ∧ H1.n = H.n ∧ ∀ i o, H1.get i = some o → H.get i = some o
theorem Less1.env (h : Less1 E H E1 H1) (he : EnvR R n E e) : EnvR R n E1 e :=
  ⟨he.len, he.big, fun i hi => by
    rcases h.1 i with h1 | h1
    · rw [h1]; exact he.rel i hi
    · rw [h1]; trivial⟩
theorem joinO_ok : ∀ {l : List Out} {E : Tr GV} {H : AH}, joinO l = some (E, H) → ∀ o ∈ l, o.x = .normal ∧ Less1 o.E o.H E H
  | [], _, _, h, _, _ => by cases h
  | [.nrm E0 H0], _, _, h, o, ho => by
    cases h
    cases ho with
    | head => exact ⟨rfl, fun i => .inl rfl, rfl, fun i o h => h⟩
    | tail _ ho => cases ho
  | .nrm E0 H0 :: a :: l, E, H, h, o, ho => by
    unfold joinO at h
    split at h
    · rename_i E1 H1 hj
      split at h
      · rename_i E2 hE hn
        cases h
        have hn := Nat.eq_of_beq_eq_true hn
        have hE' := fun i => interE_get 8 (i := i) hE
        have hgE : ∀ i, (getE E i = getE E0 i ∨ getE E i = .bad) ∧ (getE E i = getE E1 i ∨ getE E i = .bad) := by
          intro i
          unfold getE
          rw [Tr.get8_eq]
          obtain ⟨h1, h2⟩ := hE' i
          refine ⟨?_, ?_⟩
          · rcases h1 with h1 | h1
            · rw [h1]; exact .inl rfl
            · rw [h1]; exact .inr rfl
          · rcases h2 with h2 | h2
            · rw [h2]; exact .inl rfl
            · rw [h2]; exact .inr rfl
        have hgT : ∀ i o, (AH.mk (interT H0.t H1.t) H0.n).get i = some o → H0.get i = some o ∧ H1.get i = some o := by
          intro i o hi
          unfold AH.get at *
          rw [← hn]
          simp only at hi
          split at hi
          · rw [Tr.get13_eq] at hi ⊢; exact interT_get 13 hi
          · cases hi
        cases ho with
        | head => exact ⟨rfl, fun i => (hgE i).1, rfl, fun i o h => (hgT i o h).1⟩
        | tail _ ho =>
          obtain ⟨k1, k2, k3, k4⟩ := joinO_ok hj o ho
          refine ⟨k1, fun i => ?_, by rw [← k3]; exact hn, fun i o h => k4 i o (hgT i o h).2⟩
          rcases (hgE i).2 with h2 | h2
          · rw [h2]; exact k2 i
          · exact .inr h2
      · cases h
    · cases h
  | .ext .. :: l, _, _, h, _, _ => by cases l <;> cases h
  | .ret .. :: l, _, _, h, _, _ => by cases l <;> cases h
theorem nxtN_ok {it : GV} {iv : Value} {ty : TypeId} {outs : List (GV × AH)} {K : KV} (h : nxtN H it = some outs) (hs : Sim G B0 R H w) (hi : it.rel R iv)
    (hK : ∀ q ∈ outs, ∀ R' v w', Lay.le R R' → q.1.rel R' v → Sim G B0 R' q.2 w' → Fr B0 R H w R' q.2 w' → K v w') : nxt P iv false ty K w := by
  unfold nxtN at h
  unfold nxt
  split at h
  · rename_i b
    obtain ⟨L, hL, rfl⟩ := hi
    split at h
    · rename_i m since seen c0 hg
      obtain ⟨⟨M, hM, hget⟩, hB⟩ := hs.obj' hg rfl hL
      split at h
      · rename_i es clock hgm
        obtain ⟨⟨vs, hvs, hgetm⟩, hBm⟩ := hs.obj' hgm rfl hM
        split at h
        · rename_i hall hsc
          have hfil : All2 (EntR R) (es.filter (fun e => !seen.contains e.born)) (vs.filter (fun e => !seen.toArray.contains e.born)) := hvs.filter (fun a b hab => by rw [hab.2.2]; simp)
          have hold : ∀ x ∈ vs.toArray.toList, x.born < since := by
            have : vs.all (fun e => Nat.blt e.born since) = true := by rw [← hvs.allEq (p := fun e => Nat.blt e.born since) (fun a b hab => by rw [hab.2.2])]; exact hall
            intro x hx
            exact blt_iff.1 (List.all_eq_true.1 this x (by simpa using hx))
          rcases run_next_at (P := P) w ty L.B M.B since c0 seen.toArray vs.toArray clock hget hgetm hold (Nat.le_of_ble_eq_true hsc) with ⟨hz, hrun⟩ | ⟨e1, he1, w1, hw1, hrun⟩
          · have hemp : vs.filter (fun e => !seen.toArray.contains e.born) = [] := by
              have : leftOf vs.toArray seen.toArray = #[] := Array.eq_empty_of_size_eq_zero hz
              unfold leftOf at this
              rw [List.filter_toArray] at this
              simpa using this
            rw [hemp] at hfil
            have hl : es.filter (fun e => !seen.contains e.born) = [] := by cases hq : es.filter (fun e => !seen.contains e.born) with
              | nil => rfl
              | cons a l => rw [hq] at hfil; cases hfil
            rw [hl] at h
            cases h
            exact okV_of hrun (hK (overG, H) (.head _) R _ w (Lay.le.refl R) overG_rel hs (Fr.refl ..))
          · have hm1 : e1 ∈ vs.filter (fun e => !seen.toArray.contains e.born) := by
              unfold leftOf at he1
              rw [List.filter_toArray] at he1
              simpa using he1
            obtain ⟨i, hi, rfl⟩ := List.getElem_of_mem hm1
            have hli : i < (es.filter (fun e => !seen.contains e.born)).length := by rw [← hfil.len]; exact hi
            obtain ⟨b1, hb1, hab⟩ := hfil.get (List.getElem?_eq_getElem hli)
            rw [List.getElem?_eq_getElem hi] at hb1
            cases hb1
            generalize hea : (es.filter (fun e => !seen.contains e.born))[i] = ea at hab
            have hmem : ea ∈ es.filter (fun e => !seen.contains e.born) := by rw [← hea]; exact List.getElem_mem hli
            have hne : es.filter (fun e => !seen.contains e.born) ≠ [] := fun hh => by rw [hh] at hmem; cases hmem
            split at h
            · rename_i hl; exact absurd hl hne
            · rename_i hl
              obtain ⟨x, hx, hxm⟩ := bindL_mem h ea hmem
              split at hx
              · rename_i k hk
                cases hx
                have hq := hxm _ (.head _)
                have hkr : GV.rel R (.val k) ea.key := by have := ofV_rel (R := R) (v := ea.key); rw [hk] at this; exact this
                have hsz : (setBlock w1 L.B (.mapIter (some M.B) since (seen.toArray.push ea.born) clock)).heap.size = w.heap.size := by
                  rcases hw1 with rfl | rfl <;> simp [setBlock]
                have hoth : Oth L.B w (setBlock w1 L.B (.mapIter (some M.B) since (seen.toArray.push ea.born) clock)) := by
                  rcases hw1 with rfl | rfl <;> exact ⟨rfl, rfl, rfl, by simp [setBlock], fun j hj => by simp only [setBlock]; rw [Array.getElem?_setIfInBounds_ne (fun h => hj h.symm)]; first | done | rfl⟩
                have hnew : (setBlock w1 L.B (.mapIter (some M.B) since (seen.toArray.push ea.born) clock)).heap[L.B]? = some (.mapIter (some M.B) since (seen.toArray.push ea.born) clock) := by
                  have h1 : w1.heap[L.B]? = some (.mapIter (some M.B) since seen.toArray c0) := by rcases hw1 with rfl | rfl <;> exact hget
                  simp only [setBlock]
                  rw [Array.getElem?_setIfInBounds_self_of_lt (Array.getElem?_eq_some_iff.1 h1).1]
                rw [hab.1, hab.2.2] at hrun
                refine okV_of hrun (hK _ hq R _ _ (Lay.le.refl R) ⟨_, .cons rfl (.cons hkr (.cons hab.2.1 .nil)), rfl⟩ (hs.put hg rfl hL hoth.size hoth.other ⟨M, hM, ?_⟩) (Fr.put hs hg rfl hL hoth))
                rw [hnew]; simp
              · cases hx
        · cases h
      · cases h
    · cases h
  · cases h
theorem iNs_ok (hcl : ClOK P G B0 cl) {ops : Array Oper} {Q : Exit → Act → World → Prop} {ds : List Deferred} : ∀ {L : List Oper} {R : Lay} {E : Tr GV} {H : AH} {e : Env} {w : World} {outs : List (Tr GV × AH)},
    iNs cl P G n L E H = some outs → EnvR R n E e → Sim G B0 R H w →
    (∀ q ∈ outs, ∀ R' e' w', Lay.le R R' → EnvR R' n q.1 e' → Sim G B0 R' q.2 w' → Fr B0 R H w R' q.2 w' → Q .normal ⟨e'.toArray, ds⟩ w') → wpList P ops Q L ⟨e.toArray, ds⟩ w
  | [], R, E, H, e, w, outs, h, he, hs, hK => by
    cases h
    exact hK (E, H) (.head _) R e w (Lay.le.refl R) he hs (Fr.refl ..)
  | o :: L, R, E, H, e, w, outs, h, he, hs, hK => by
    unfold iNs at h
    split at h
    · cases h
    · rename_i hg
      split at h
      · cases h
      · refine wpList_step fun KK hKK => ?_
        rw [if_pos (by simp [Region.wanted, hg])]
        split at h
        · rename_i it hit
          split at h
          · rename_i x hx
            split at h
            · rename_i qs hq
              refine cOp_sound (K := fun v w' => KK ⟨(pt e o.dst v).toArray, ds⟩ w') ?_ (fun v w' hv => hv)
              have hop : o.op = .next it false := by
                split at hit
                · rename_i it' ho; cases hit; exact ho
                · cases hit
              unfold cOp
              rw [hop]
              refine nxtN_ok hq hs (evG_rel he hx) fun q hqm R' v w' hle hv hs' hf' => ?_
              obtain ⟨x', hx', hsub⟩ := bindL_mem h q hqm
              exact hKK _ _ (iNs_ok hcl hx' ((he.mono hle).put hv) hs' fun q2 hq2 R2 e2 w2 hle2 he2 hs2 hf2 => hK q2 (hsub q2 hq2) R2 e2 w2 (hle.trans hle2) he2 hs2 (hf'.trans hf2))
            · cases h
          · cases h
        · split at h
          · rename_i g H1 h1
            have := iOp_yls hcl h1 he hs (fun v w' => KK ⟨(pt e o.dst v).toArray, ds⟩ w') (fun R' v w' hle hv hs' hf' => hKK _ _ (iNs_ok hcl h ((he.mono hle).put hv) hs' fun q2 hq2 R2 e2 w2 hle2 he2 hs2 hf2 => hK q2 hq2 R2 e2 w2 (hle.trans hle2) he2 hs2 (hf'.trans hf2)))
            exact cOp_sound this fun v w' hv => hv
          · cases h
theorem iN_ok (hcl : ClOK P G B0 cl) (hcp : CpOK P G B0 cp) : ∀ (f : Nat) {c : Code} {E : Tr GV} {H : AH} {os : List Out}, hintB P ht c = true → iN ht cl cp P G n f c E H = some os →
    ∀ {R : Lay} {e : Env} {w : World} {Q : Exit → Act → World → Prop} {ds : List Deferred}, EnvR R n E e → Sim G B0 R H w →
    (∀ o ∈ os, ∀ R' e' w', Lay.le R R' → EnvR R' n o.E e' → Sim G B0 R' o.H w' → Fr B0 R H w R' o.H w' → Q o.x ⟨e'.toArray, ds⟩ w') → GdW P f c Q ⟨e.toArray, ds⟩ w := by
  intro f
  induction f with
  | zero => intro c E H os _ h; cases h
  | succ f ih =>
    intro c E H os hh h R e w Q ds he hs hK
    have leaf : ∀ {c : Code}, hintB P ht c = true → (match iCode ht cl cp P G n f c E H with | some o => some [o] | none => none) = some os → c.wp P Q ⟨e.toArray, ds⟩ w := by
      intro c hh h
      split at h
      · rename_i o' ho
        cases h
        exact leaf_ok hcl hcp hh ho he hs fun R' e' w' a b c d => hK o' (.head _) R' e' w' a b c d
      · cases h
    unfold iN at h
    cases c with
    | seq a b =>
      have hh := hint2 hh
      simp only at h
      refine wp_seq ?_
      split at h
      · rename_i os1 h1
        refine (ih hh.1 h1 he hs fun o ho R1 e1 w1 hle he1 hs1 hf1 => ?_).code
        obtain ⟨x, hx, hsub⟩ := bindL_mem h o ho
        cases o with
        | nrm E1 H1 => exact (ih hh.2 hx he1 hs1 fun o2 ho2 R2 e2 w2 hle2 he2 hs2 hf2 => hK o2 (hsub o2 ho2) R2 e2 w2 (hle.trans hle2) he2 hs2 (hf1.trans hf2)).code
        | ext i E1 H1 => cases hx; exact hK _ (hsub _ (.head _)) R1 e1 w1 hle he1 hs1 hf1
        | ret E1 H1 => cases hx; exact hK _ (hsub _ (.head _)) R1 e1 w1 hle he1 hs1 hf1
      · cases h
    | cond c x z =>
      have hh := hint2 hh
      simp only at h
      split at h
      · rename_i hc
        exact wp_cond (t := true) (by rw [eval_env]; exact isT_ok hc he) (ih hh.1 h he hs hK).code
      · rename_i hc
        exact wp_cond (t := false) (by rw [eval_env]; exact isT_ok hc he) (ih hh.2 h he hs hK).code
      · cases h
    | block id c =>
      have hh : hintB P ht c = true := hh
      simp only at h
      refine wp_block ?_
      split at h
      · rename_i os1 h1
        cases h
        refine (ih hh h1 he hs fun o ho R1 e1 w1 hle he1 hs1 hf1 => ?_).code
        have hm := List.mem_map_of_mem (f := unb id) ho
        cases o with
        | nrm E1 H1 => exact hK _ hm R1 e1 w1 hle he1 hs1 hf1
        | ret E1 H1 => exact hK _ hm R1 e1 w1 hle he1 hs1 hf1
        | ext i E1 H1 =>
          unfold unb at hm
          simp only at hm
          split at hm
          · rename_i hbb
            have hi := Nat.eq_of_beq_eq_true hbb
            subst hi
            simp only [Out.x, Exit.inBlock, if_true]
            exact hK _ hm R1 e1 w1 hle he1 hs1 hf1
          · rename_i hbb
            have hi : ¬ i = id := fun hh => by subst hh; simp at hbb
            simp only [Out.x, Exit.inBlock, if_neg hi]
            exact hK _ hm R1 e1 w1 hle he1 hs1 hf1
      · cases h
    | loop c =>
      have hh : hintB P ht c = true := hh
      simp only at h
      show c.wp P (Exit.then (unrW P c Q f) Q) ⟨e.toArray, ds⟩ w
      split at h
      · rename_i os1 h1
        refine (ih hh h1 he hs fun o ho R1 e1 w1 hle he1 hs1 hf1 => ?_).code
        obtain ⟨x, hx, hsub⟩ := bindL_mem h o ho
        cases o with
        | nrm E1 H1 =>
          have := ih (c := .loop c) (Q := Q) (ds := ds) hh hx he1 hs1 fun o2 ho2 R2 e2 w2 hle2 he2 hs2 hf2 => hK o2 (hsub o2 ho2) R2 e2 w2 (hle.trans hle2) he2 hs2 (hf1.trans hf2)
          exact this
        | ext i E1 H1 => cases hx; exact hK _ (hsub _ (.head _)) R1 e1 w1 hle he1 hs1 hf1
        | ret E1 H1 => cases hx; exact hK _ (hsub _ (.head _)) R1 e1 w1 hle he1 hs1 hf1
      · cases h
    | region id ops draw =>
      cases draw with
      | true => exact leaf hh h
      | false =>
        simp only at h
        split at h
        · split at h
          · rename_i l hl
            cases h
            refine wp_region_list (iNs_ok hcl hl he hs fun q hq R' e' w' a b c d => ?_)
            exact hK (Out.nrm q.1 q.2) (List.mem_map_of_mem (f := fun q => Out.nrm q.1 q.2) hq) R' e' w' a b c d
          · cases h
        · exact leaf hh h
    | _ => exact leaf hh h
/-- A block whose ways all come to the same. -/
theorem iJ_ok {f id : Nat} {b : Code} {os : List Out} {Q : Exit → Act → World → Prop} {ds : List Deferred} (hcl : ClOK P G B0 cl) (hcp : CpOK P G B0 cp) (hh : hintB P ht (.block id b) = true) (h : iN ht cl cp P G n f (.block id b) E H = some os) (hj : joinO os = some (E1, H1)) (he : EnvR R n E e) (hs : Sim G B0 R H w)
    (hK : ∀ R' e' w', Lay.le R R' → EnvR R' n E1 e' → Sim G B0 R' H1 w' → Fr B0 R H w R' H1 w' → Q .normal ⟨e'.toArray, ds⟩ w') : (Code.block id b).wp P Q ⟨e.toArray, ds⟩ w := by
  refine (iN_ok hcl hcp f hh h he hs fun o ho R' e' w' hle he' hs' hf' => ?_).code
  obtain ⟨k1, k2⟩ := joinO_ok hj o ho
  rw [k1]
  exact hK R' e' w' hle (k2.env he') (hs'.fewer k2.2.1 k2.2.2) (hf'.fewer k2.2.2)
end
end Go.Proofs.YtnmjfakibhekmaaGreatDoor
