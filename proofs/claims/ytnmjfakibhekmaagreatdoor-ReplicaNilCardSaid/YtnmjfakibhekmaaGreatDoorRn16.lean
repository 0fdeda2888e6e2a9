/- Runs in which all is known but where blocks stand: a range over a function that gives nothing. Nothing of the program is named here. -/
import Derived.Test.YtnmjfakibhekmaaGreatDoorRn15
import Derived.RangeFuncOwn
namespace Go.Proofs.YtnmjfakibhekmaaGreatDoor
set_option maxRecDepth 100000
open Go.RowKit

def Out.x : Out → Exit
  | .nrm _ _ => .normal
  | .ext i _ _ => .exit i
  | .ret _ _ => .ret
def iM (cl : Cl) (cp : Cp) (P : Program) (G : Glo) (n : Nat) : Nat → Code → Tr GV → AH → Bool → Option (Out × Bool)
  | 0, _, _, _, _ => none
  | f + 1, c, E, H, mk =>
    match c with
    | .seq a b => match iM cl cp P G n f a E H mk with
      | some (.nrm E1 H1, mk1) => iM cl cp P G n f b E1 H1 mk1
      | r => r
    | .block id b => match b with
      | .rangeFunc g _ _ _ => match mk, evG E n g with
        | false, some x => match fnOf x with
          | some (gf, [], cap) => match cl gf (.bad :: cap) H with | some (_, H') => some (.nrm E H', true) | none => none
          | _ => none
        | _, _ => none
      | b => match iCode cl cp P G n f (.block id b) E H with | some o => some (o, mk) | none => none
    | c => match iCode cl cp P G n f c E H with | some o => some (o, mk) | none => none
section
variable {P : Program} {G : Glo} {B0 : Nat} {R : Lay} {H H' : AH} {w w' : World} {n : Nat} {E E' : Tr GV} {e : Env} {cl : Cl} {cp : Cp} {K : KE}
/-- The block for the rounds' deferred calls, which stays empty. -/
structure MkAt (Bm : Nat) (R : Lay) (H : AH) (w : World) (D : Nat) : Prop where
  dl : w.heap[D]? = some (.deferred (some []))
  b0 : Bm ≤ D
  no : ∀ i o L, H.get i = some o → o.live = true → R i = some L → L.B ≠ D
def Mk (Bm : Nat) (R : Lay) (H : AH) (w : World) (mk : Bool) (ds : List Deferred) : Prop := match mk with | false => ds = [] | true => ∃ D, ds = [{ target := .collected D, args := #[] }] ∧ MkAt Bm R H w D
theorem MkAt.step {Bm : Nat} {R' : Lay} {H1 : AH} {w1 : World} {D : Nat} (h : MkAt Bm R H w D) (hf : Fr B0 R H w R' H1 w1) : MkAt Bm R' H1 w1 D := by
  have hlt := (Array.getElem?_eq_some_iff.1 h.dl).1
  refine ⟨by rw [hf.keep D hlt h.no]; exact h.dl, h.b0, fun i o L hi hl hL e => ?_⟩
  rcases hf.fresh i o L hi hl hL with ⟨j, oj, Lj, x, y, z, hz⟩ | hz
  · exact h.no j oj Lj x y z (hz.trans e)
  · omega
theorem Mk.step {Bm : Nat} {R' : Lay} {H1 : AH} {w1 : World} {mk : Bool} {ds : List Deferred} (h : Mk Bm R H w mk ds) (hf : Fr B0 R H w R' H1 w1) : Mk Bm R' H1 w1 mk ds := by
  cases mk with
  | false => exact h
  | true => obtain ⟨D, h1, h2⟩ := h; exact ⟨D, h1, h2.step hf⟩
theorem Sim.oth {l : Nat} (h : Sim G B0 R H w) (hl : B0 ≤ l) (hs : w'.heap.size = w.heap.size) (hw : ∀ k, k ≠ l → w'.heap[k]? = w.heap[k]?) (hno : ∀ i o L, H.get i = some o → o.live = true → R i = some L → L.B ≠ l) : Sim G B0 R H w' where
  obj i o hi hl := by
    obtain ⟨L, h1, h2, h3⟩ := h.obj i o hi hl
    exact ⟨L, h1, h2, h3.same (hw _ (hno i o L hi hl h1))⟩
  inj := h.inj
  dom := h.dom
  big := h.big
  size := by rw [hs]; exact h.size
  glob g e cs hg := by
    obtain ⟨h1, h2⟩ := h.glob g e cs hg
    exact ⟨h1, h2.same (hw g (by omega))⟩
theorem Fr.oth {R' : Lay} {H1 : AH} {w1 w2 : World} {l : Nat} {o2 : Obj} (h : Fr B0 R H w R' H1 w1) (hs : Sim G B0 R H w) (hl : w.heap.size ≤ l) (hw : w2 = w1.putObj l o2) : Fr B0 R H w R' H1 w2 where
  below := by
    subst hw
    have hb := h.below
    have := hs.size
    exact ⟨hb.os, hb.tape, hb.output, by rw [World.putObj_size]; exact hb.size, fun k hk => by rw [World.putObj_heap_other (by omega)]; exact hb.block k hk⟩
  keep k hk hno := by
    subst hw
    rw [World.putObj_heap_other (by omega)]
    exact h.keep k hk hno
  fresh := h.fresh
theorem rf_ok {Bm : Nat} {Q : Exit → Act → World → Prop} {g : Operand} {ps : Array Tmp} {assign body : Code} {gf : FuncId} {cap : List GV} {capv : List Value} {r : GV} (hcl : ClOK P G B0 cl) (h : cl gf (.bad :: cap) H = some (r, H')) (hg : ev e g = .func (.func gf) #[] capv.toArray) (hcap : All2 (GV.rel R) cap capv) (hs : Sim G B0 R H w) (hBm : Bm ≤ w.heap.size)
    (hK : ∀ R' w' D, Lay.le R R' → Sim G B0 R' H' w' → Fr B0 R H w R' H' w' → MkAt Bm R' H' w' D → Q .normal ⟨e.toArray, [{ target := .collected D, args := #[] }]⟩ w') : (Code.rangeFunc g ps assign body).wp P Q ⟨e.toArray, []⟩ w := by
  refine (wpIn_wide (n := 0)).1 (wpIn_rangeFunc ?_)
  intro fn _
  obtain ⟨rec, hrec⟩ : ∃ rec : Loop, rec = { state := .ready, pending := none, fn, tmps := e.toArray, params := ps, assign, body, defers := w.heap.size } := ⟨_, rfl⟩
  obtain ⟨W1, hW1⟩ : ∃ W1, (w.alloc (.deferred (some []))).alloc (.loop rec) = W1 := ⟨_, rfl⟩
  have hL1 : W1.heap[w.heap.size + 1]? = some (.loop rec) := by
    rw [← hW1]; have := World.alloc_heap_new (w.alloc (.deferred (some []))) (.loop rec); rwa [World.size_alloc] at this
  have hD1 : W1.heap[w.heap.size]? = some (.deferred (some [])) := by
    rw [← hW1]; exact (Below.heap_alloc _ _ _ (by simp)).trans (World.alloc_heap_new w _)
  have hbel : Below w.heap.size w W1 := by
    rw [← hW1]; exact ((Below.refl _ w).alloc (Nat.le_refl _) _).alloc (by simp) _
  have hs1 := hs.below hbel
  have hf1 := below_fr hs hbel
  have nob : ∀ {l}, w.heap.size ≤ l → ∀ i o L, H.get i = some o → o.live = true → R i = some L → L.B ≠ l := by
    intro l hl i o L hi hlv hL he
    obtain ⟨M, x1, _, x3⟩ := hs.obj i o hi hlv
    rw [hL] at x1; cases x1
    have := x3.lt hlv
    omega
  have hcall := hcl h hs1 (.cons (b := .func (.yield (w.heap.size + 1)) #[] #[]) (trivial : GV.rel R .bad _) hcap) (fun v w2 => rangePost Fence.wide 0 P (w.heap.size + 1) Q { tmps := e.toArray, defers := [{ target := .collected w.heap.size, args := #[] }] } (.returned v) w2) (by
    intro R' v w2 hle _ hs2 hf2
    have hbl := hs.size
    have hl2 : w2.heap[w.heap.size + 1]? = some (.loop rec) := by rw [hf2.keep _ (Array.getElem?_eq_some_iff.1 hL1).1 (nob (by omega))]; exact hL1
    have hm1 : MkAt Bm R H W1 w.heap.size := ⟨hD1, hBm, nob (Nat.le_refl _)⟩
    have hm2 := hm1.step hf2
    have hno2 : ∀ i o L, H'.get i = some o → o.live = true → R' i = some L → L.B ≠ w.heap.size + 1 := by
      intro i o L hi hlv hL he
      rcases hf2.fresh i o L hi hlv hL with ⟨j, oj, Lj, x, y, z, hz⟩ | hz
      · exact nob (l := w.heap.size + 1) (by omega) j oj Lj x y z (hz.trans he)
      · have := (Array.getElem?_eq_some_iff.1 hL1).1
        omega
    refine ⟨none, w2.putObj (w.heap.size + 1) (.loop { rec with state := .exhausted }), ?_, ?_⟩
    · have := run_endLoop (P := P) hl2 (by rw [hrec]; simp)
      rw [this]
      rw [hrec]
    · refine hK R' _ w.heap.size hle (hs2.oth (l := w.heap.size + 1) (by omega) World.putObj_size (fun k hk => World.putObj_heap_other hk) hno2) ((hf1.trans hf2).oth (l := w.heap.size + 1) hs (by omega) rfl) ?_
      exact ⟨by rw [World.putObj_heap_other (by omega)]; exact hm2.dl, hm2.b0, hm2.no⟩)
  obtain ⟨hgo, hgives⟩ := hcall
  refine ⟨w.heap.size + 1, [{ target := .collected w.heap.size, args := #[] }], W1, { target := .fn (.func gf) capv.toArray, args := #[.func (.yield (w.heap.size + 1)) #[] #[]] }, W1, gf,
    #[.func (.yield (w.heap.size + 1)) #[] #[]] ++ capv.toArray, W1, ?_, ?_, fun _ _ => trivial, ?_, (fun h => by cases h), ?_⟩
  · rw [← hW1, hrec]; exact run_enterLoop_outer _ _ _ _ _
  · have hev : Act.eval ⟨e.toArray, []⟩ g = .func (.func gf) #[] capv.toArray := by rw [eval_env]; exact hg
    simp only [resolve, hev]
    simp [go_sem]
  · simp [invoke, go_sem, run_callFunc hgo]
  · refine callsIn_wide.2 ?_
    have e1 : #[Value.func (.yield (w.heap.size + 1)) #[] #[]] ++ capv.toArray = (Value.func (.yield (w.heap.size + 1)) #[] #[] :: capv).toArray := by simp
    rw [e1]
    refine Calls.mono hgives ?_
    rintro e' w2 ⟨v, rfl, hv⟩
    exact hv
theorem leaf_ok {f : Nat} {c : Code} {o : Out} {Q : Exit → Act → World → Prop} {ds : List Deferred} (hcl : ClOK P G B0 cl) (hcp : CpOK P G B0 cp) (h : iCode cl cp P G n f c E H = some o) (he : EnvR R n E e) (hs : Sim G B0 R H w)
    (hK : ∀ R' e' w', Lay.le R R' → EnvR R' n o.E e' → Sim G B0 R' o.H w' → Fr B0 R H w R' o.H w' → Q o.x ⟨e'.toArray, ds⟩ w') : c.wp P Q ⟨e.toArray, ds⟩ w := by
  have := iCode_ok hcl hcp f h (N := fun e' w' => Q .normal ⟨e'.toArray, ds⟩ w') (X := fun i e' w' => Q (.exit i) ⟨e'.toArray, ds⟩ w') (Rt := fun e' w' => Q .ret ⟨e'.toArray, ds⟩ w') he hs (by
    intro R' e' w' a b c d
    have := hK R' e' w' a b c d
    cases o <;> exact this)
  refine wp_mono (cCode_sound (ds := ds) c _ _ _ _ _ this.code) ?_
  intro x a w hq
  cases x with
  | normal => obtain ⟨e, rfl, h⟩ := hq; exact h
  | exit i => obtain ⟨e, rfl, h⟩ := hq; exact h
  | ret => obtain ⟨e, rfl, h⟩ := hq; exact h
  | _ => exact hq.elim
theorem iM_ok (hcl : ClOK P G B0 cl) (hcp : CpOK P G B0 cp) : ∀ (f : Nat) {c : Code} {E : Tr GV} {H : AH} {o : Out} {mk mk' : Bool}, iM cl cp P G n f c E H mk = some (o, mk') → ∀ {Bm : Nat} {R : Lay} {e : Env} {w : World} {ds : List Deferred} {Q : Exit → Act → World → Prop}, EnvR R n E e → Sim G B0 R H w → Bm ≤ w.heap.size → Mk Bm R H w mk ds →
    (∀ R' e' w' ds', Lay.le R R' → EnvR R' n o.E e' → Sim G B0 R' o.H w' → Fr B0 R H w R' o.H w' → Mk Bm R' o.H w' mk' ds' → Q o.x ⟨e'.toArray, ds'⟩ w') → c.wp P Q ⟨e.toArray, ds⟩ w := by
  intro f
  induction f with
  | zero => intro c E H o mk mk' h; cases h
  | succ f ih =>
    intro c E H o mk mk' h Bm R e w ds Q he hs hBm hm hK
    have leaf : ∀ {c : Code}, (match iCode cl cp P G n f c E H with | some o => some (o, mk) | none => none) = some (o, mk') → c.wp P Q ⟨e.toArray, ds⟩ w := by
      intro c h
      split at h
      · rename_i o' ho
        cases h
        exact leaf_ok hcl hcp ho he hs fun R' e' w' a b c d => hK R' e' w' ds a b c d (hm.step d)
      · cases h
    unfold iM at h
    cases c with
    | seq a b =>
      simp only at h
      refine wp_seq ?_
      split at h
      · rename_i E1 H1 mk1 h1
        refine ih h1 he hs hBm hm fun R1 e1 w1 ds1 hle he1 hs1 hf1 hm1 => ?_
        exact ih h he1 hs1 (Nat.le_trans hBm hf1.below.size) hm1 fun R2 e2 w2 ds2 hle2 he2 hs2 hf2 hm2 => hK R2 e2 w2 ds2 (hle.trans hle2) he2 hs2 (hf1.trans hf2) hm2
      · rename_i hno
        refine ih h he hs hBm hm fun R1 e1 w1 ds1 hle he1 hs1 hf1 hm1 => ?_
        have := hK R1 e1 w1 ds1 hle he1 hs1 hf1 hm1
        cases o with
        | nrm E1 H1 => exact absurd h (hno E1 H1 mk')
        | ext i E1 H1 => exact this
        | ret E1 H1 => exact this
    | block id b =>
      cases b with
      | rangeFunc g ps assign body =>
        simp only at h
        split at h
        · rename_i x hx
          split at h
          · rename_i gf cap hfn
            split at h
            · rename_i r H1 hc
              cases h
              obtain ⟨a, b, hv, ha, hb⟩ := fnOf_ok hfn (evG_rel he hx)
              cases ha
              cases (show ds = [] from hm)
              refine wp_block (rf_ok hcl hc hv hb hs hBm fun R' w' D hle hs' hf' hm' => ?_)
              exact hK R' e w' _ hle (he.mono hle) hs' hf' ⟨D, rfl, hm'⟩
            · cases h
          · cases h
        · cases h
      | _ => exact leaf h
    | _ => exact leaf h
end
end Go.Proofs.YtnmjfakibhekmaaGreatDoor
