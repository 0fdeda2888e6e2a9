/- Runs in which all is known but where blocks stand: code with a range over a function. Nothing of the program is named here. -/
import Derived.Test.YtnmjfakibhekmaaGreatDoorRn16y
namespace Go.Proofs.YtnmjfakibhekmaaGreatDoor
set_option maxRecDepth 100000
open Go.RowKit

/-- What was reckoned ahead is so. -/
def HtsOK (P : Program) (hts : FuncId → Ht) : Prop := ∀ (f : FuncId) (fn : Func) (c : Code), P.funcs[f]? = some fn → fn.body = some c → hintB P (hts f) c = true
/-- What is done behind the loop. -/
def aftR (P : Program) (Q : Exit → Act → World → Prop) (a : Act) (w : World) : Option Code → Prop
  | none => Q .normal a w
  | some c => c.wpIn Fence.wide 0 P Q a w
section
variable {P : Program} {G : Glo} {B0 : Nat} {R : Lay} {H H' : AH} {w w' : World} {n : Nat} {E E' : Tr GV} {e : Env} {cl : Cl} {cp : Cp} {K : KE} {ht : Ht} {hts : FuncId → Ht}
theorem iRf_ok {Bm f : Nat} {Q : Exit → Act → World → Prop} {g : Operand} {ps : Array Tmp} {a bd : Code} {y : Option Code} (hgo : GoNames P) (hht : HtsOK P hts) (hcl : ClOK P G B0 cl) (hcp : CpOK P G B0 cp) (hh : hintB P ht (.rangeFunc g ps a bd) = true)
    (h : iRf hts ht cl cp P G n f g ps.toList a bd E H = some (H', y)) (he : EnvR R n E e) (hs : Sim G B0 R H w) (hBm : Bm ≤ w.heap.size)
    (hK : ∀ R' w' D, Lay.le R R' → Sim G B0 R' H' w' → Fr B0 R H w R' H' w' → BkAt Bm R' H' w' D (.deferred (some [])) → aftR P Q ⟨e.toArray, [{ target := .collected D, args := #[] }]⟩ w' y) :
    (Code.rangeFunc g ps a bd).wp P Q ⟨e.toArray, []⟩ w := by
  unfold iRf at h
  split at h
  · rename_i x hx
    split at h
    · rename_i gf cap hfn
      split at h
      · rename_i fn hf
        split at h
        · rename_i c hb hn hl hn2 hres
          have hn := blt_iff.1 hn
          obtain ⟨xa, xb, hv, hxa, hxb⟩ := fnOf_ok hfn (evG_rel he hx)
          cases hxa
          have hv : ev e g = .func (.func gf) #[] (List.toArray xb) := hv
          have hxb : All2 (GV.rel R) cap xb := hxb
          -- the end, whatever way it comes
          have key : ∀ {o : Out}, iY (iRnd ht cl cp P G n f E ps.toList a bd) H.n (hts gf) cl cp P G fn.ntmps f c (iniE fn.ntmps 0 (oneG (.yd H.n) :: cap) .e) (H.new .dead) none = some (o, y) → o.H = H' → (o.x = .normal ∨ o.x = .ret) → (Code.rangeFunc g ps a bd).wp P Q ⟨e.toArray, []⟩ w := by
            intro o hy ho hox
            refine (wpIn_wide (n := 0)).1 (wpIn_rangeFunc ?_)
            intro fnc _
            obtain ⟨W1, hW1⟩ : ∃ W1, (w.alloc (.deferred (some []))).alloc (.loop (recL fnc e ps a bd w.heap.size .ready none)) = W1 := ⟨_, rfl⟩
            have hL1 : W1.heap[w.heap.size + 1]? = some (.loop (recL fnc e ps a bd w.heap.size .ready none)) := by
              rw [← hW1]; have := World.alloc_heap_new (w.alloc (.deferred (some []))) (.loop (recL fnc e ps a bd w.heap.size .ready none)); rwa [World.size_alloc] at this
            have hD1 : W1.heap[w.heap.size]? = some (.deferred (some [])) := by
              rw [← hW1]; exact (Below.heap_alloc _ _ _ (by simp)).trans (World.alloc_heap_new w _)
            have hbel : Below w.heap.size w W1 := by
              rw [← hW1]; exact ((Below.refl _ w).alloc (Nat.le_refl _) _).alloc (by simp) _
            have hs1 : Sim G B0 (upd R H.n ⟨w.heap.size + 1, 0⟩) (H.new .dead) W1 := hs.new hbel (Nat.le_succ _) trivial hn
            have hf1 : Fr B0 R H w (upd R H.n ⟨w.heap.size + 1, 0⟩) (H.new .dead) W1 := Fr.new hs hbel (Nat.le_succ _) hn
            have hle1 : Lay.le R (upd R H.n ⟨w.heap.size + 1, 0⟩) := hs.upd_le _
            have nob : ∀ {l}, w.heap.size ≤ l → ∀ i o L, (H.new .dead).get i = some o → o.live = true → upd R H.n ⟨w.heap.size + 1, 0⟩ i = some L → L.B ≠ l := by
              intro l hl i o L hi hlv hL hE
              rw [AH.get_new hn] at hi
              split at hi
              · cases hi; cases hlv
              · rename_i hne
                unfold upd at hL
                rw [if_neg hne] at hL
                obtain ⟨M, x1, _, x3⟩ := hs.obj i o hi hlv
                rw [hL] at x1; cases x1
                have := x3.lt hlv
                omega
            have hLp : LpAt w.heap.size (upd R H.n ⟨w.heap.size + 1, 0⟩) (H.new .dead) W1 (w.heap.size + 1) w.heap.size (recL fnc e ps a bd w.heap.size .ready none) :=
              ⟨⟨hL1, Nat.le_succ _, nob (Nat.le_succ _)⟩, ⟨hD1, Nat.le_refl _, nob (Nat.le_refl _)⟩, by omega⟩
            have hr : RndOK P G B0 (upd R H.n ⟨w.heap.size + 1, 0⟩) R H w w.heap.size (w.heap.size + 1) w.heap.size fnc e ps a bd (iRnd ht cl cp P G n f E ps.toList a bd) := by
              intro as Ha Hb j hj Ra wa vs Kr hxr hsr hfr hLr har hKr
              exact rnd_ok hcl hcp hh hj (he.mono (hle1.trans hxr)) hsr hLr hs.size har hfr hs (Nat.le_succ _) hKr
            have hargs : All2 (GV.rel (upd R H.n ⟨w.heap.size + 1, 0⟩)) (oneG (.yd H.n) :: cap) (Value.func (.yield (w.heap.size + 1)) #[] #[] :: xb) :=
              .cons ⟨_, upd_self, rfl⟩ (hxb.mono fun _ _ => GV.rel.mono hle1)
            have hE := envA hargs (by simpa using hl) hn2
            have hwp : Calls P gf (Value.func (.yield (w.heap.size + 1)) #[] #[] :: xb).toArray W1 (rangePost Fence.wide 0 P (w.heap.size + 1) Q { tmps := e.toArray, defers := [{ target := .collected w.heap.size, args := #[] }] }) := by
              refine calls_of_wp hf hb ?_
              have e1 : (Value.func (.yield (w.heap.size + 1)) #[] #[] :: xb).toArray ++ Array.replicate (fn.ntmps - (Value.func (.yield (w.heap.size + 1)) #[] #[] :: xb).toArray.size) undef = ((Value.func (.yield (w.heap.size + 1)) #[] #[] :: xb) ++ List.replicate (fn.ntmps - (Value.func (.yield (w.heap.size + 1)) #[] #[] :: xb).length) undef).toArray := by simp
              rw [e1]
              refine (iY_ok hcl hcp hr f (hht gf fn c hf hb) hy hE hs1 hf1 hLp upd_self (Lay.le.refl _) fun R' e' w' hle he' hs' hf' hL' => ?_).code
              subst ho
              have hend : rangePost Fence.wide 0 P (w.heap.size + 1) Q { tmps := e.toArray, defers := [{ target := .collected w.heap.size, args := #[] }] } (.returned (.tuple #[])) w' := by
                refine ⟨_, _, run_endLoop hL'.lp.dl (by unfold recL stL; cases y <;> simp), ?_⟩
                have hs2 := hL'.sim (o := .loop { (recL fnc e ps a bd w.heap.size (stL y) y) with state := .exhausted }) hs.size hs'
                have hf2 := hf'.oth (l := w.heap.size + 1) (o2 := .loop { (recL fnc e ps a bd w.heap.size (stL y) y) with state := .exhausted }) hs (Nat.le_succ _) rfl
                have hD2 := hL'.df.oth (o' := .loop { (recL fnc e ps a bd w.heap.size (stL y) y) with state := .exhausted }) hL'.ne
                have := hK R' _ w.heap.size (hle1.trans hle) hs2 hf2 ⟨hD2.dl, hBm, hD2.no⟩
                clear hL' hs2 hf2 hD2 hy
                revert this
                unfold recL aftR
                cases y <;> exact id
              have hrk : retK P fn.results.toList (fun v w2 => rangePost Fence.wide 0 P (w.heap.size + 1) Q { tmps := e.toArray, defers := [{ target := .collected w.heap.size, args := #[] }] } (.returned v) w2) e' w' := by
                rw [hres]; exact hend
              obtain ⟨v, h1, h2⟩ := retK_sound hrk
              rcases hox with hox | hox <;> rw [hox] <;> exact ⟨rfl, v, h1, h2⟩
            refine ⟨w.heap.size + 1, [{ target := .collected w.heap.size, args := #[] }], W1, { target := .fn (.func gf) xb.toArray, args := #[.func (.yield (w.heap.size + 1)) #[] #[]] }, W1, gf,
              #[.func (.yield (w.heap.size + 1)) #[] #[]] ++ xb.toArray, W1, ?_, ?_, fun _ _ => trivial, ?_, (fun h => by cases h), ?_⟩
            · rw [← hW1]; exact run_enterLoop_outer _ _ _ _ _
            · have hev : Act.eval ⟨e.toArray, []⟩ g = .func (.func gf) #[] xb.toArray := by rw [eval_env]; exact hv
              simp only [resolve, hev]
              simp [go_sem]
            · have hgo' : isGo P gf := ⟨fn, hf, hgo gf fn hf, by rw [hb]; rfl⟩
              simp [invoke, go_sem, run_callFunc hgo']
            · refine callsIn_wide.2 ?_
              have e1 : #[Value.func (.yield (w.heap.size + 1)) #[] #[]] ++ xb.toArray = (Value.func (.yield (w.heap.size + 1)) #[] #[] :: xb).toArray := by simp
              rw [e1]
              exact hwp
          split at h
          · rename_i E1 H1 y1 h1; cases h; exact key h1 rfl (.inl rfl)
          · rename_i E1 H1 y1 h1; cases h; exact key h1 rfl (.inr rfl)
          · cases h
        · cases h
      · cases h
    · cases h
  · cases h
theorem iM_ok (hgo : GoNames P) (hht : HtsOK P hts) (hcl : ClOK P G B0 cl) (hcp : CpOK P G B0 cp) : ∀ (f : Nat) {c : Code} {E : Tr GV} {H : AH} {o : Out} {mk mk' : Bool}, hintB P ht c = true → iM hts ht cl cp P G n f c E H mk = some (o, mk') → ∀ {Bm : Nat} {R : Lay} {e : Env} {w : World} {ds : List Deferred} {Q : Exit → Act → World → Prop}, EnvR R n E e → Sim G B0 R H w → Bm ≤ w.heap.size → Mk Bm R H w mk ds →
    (∀ R' e' w' ds', Lay.le R R' → EnvR R' n o.E e' → Sim G B0 R' o.H w' → Fr B0 R H w R' o.H w' → Mk Bm R' o.H w' mk' ds' → Q o.x ⟨e'.toArray, ds'⟩ w') → c.wp P Q ⟨e.toArray, ds⟩ w := by
  intro f
  induction f with
  | zero => intro c E H o mk mk' _ h; cases h
  | succ f ih =>
    intro c E H o mk mk' hh h Bm R e w ds Q he hs hBm hm hK
    have leaf : ∀ {c : Code}, hintB P ht c = true → (match iCode ht cl cp P G n f c E H with | some o => some (o, mk) | none => none) = some (o, mk') → c.wp P Q ⟨e.toArray, ds⟩ w := by
      intro c hh h
      split at h
      · rename_i o' ho
        cases h
        exact leaf_ok hcl hcp hh ho he hs fun R' e' w' a b c d => hK R' e' w' ds a b c d (hm.step d)
      · cases h
    unfold iM at h
    cases c with
    | seq a b =>
      have hh := hint2 hh
      simp only at h
      refine wp_seq ?_
      split at h
      · rename_i E1 H1 mk1 h1
        refine ih hh.1 h1 he hs hBm hm fun R1 e1 w1 ds1 hle he1 hs1 hf1 hm1 => ?_
        exact ih hh.2 h he1 hs1 (Nat.le_trans hBm hf1.below.size) hm1 fun R2 e2 w2 ds2 hle2 he2 hs2 hf2 hm2 => hK R2 e2 w2 ds2 (hle.trans hle2) he2 hs2 (hf1.trans hf2) hm2
      · rename_i hno
        refine ih hh.1 h he hs hBm hm fun R1 e1 w1 ds1 hle he1 hs1 hf1 hm1 => ?_
        have := hK R1 e1 w1 ds1 hle he1 hs1 hf1 hm1
        cases o with
        | nrm E1 H1 => exact absurd h (hno E1 H1 mk')
        | ext i E1 H1 => exact this
        | ret E1 H1 => exact this
    | block id b =>
      cases b with
      | rangeFunc g ps a bd =>
        simp only at h
        split at h
        · cases (show ds = [] from hm)
          refine wp_block ?_
          have hh : hintB P ht (.rangeFunc g ps a bd) = true := hh
          cases hr : iRf hts ht cl cp P G n f g ps.toList a bd E H with
          | none => rw [hr] at h; cases h
          | some q =>
            obtain ⟨H1, y⟩ := q
            rw [hr] at h
            refine iRf_ok hgo hht hcl hcp hh hr he hs hBm fun R' w' D hle hs' hf' hD => ?_
            have hmk : Mk Bm R' H1 w' true [{ target := .collected D, args := #[] }] := ⟨D, rfl, hD⟩
            have hK' := fun (ho : o.E = E) (ho2 : o.H = H1) (hm2 : mk' = true) => hK R' e w' [{ target := .collected D, args := #[] }] hle (by rw [ho]; exact he.mono hle) (by rw [ho2]; exact hs') (by rw [ho2]; exact hf') (by rw [ho2, hm2]; exact hmk)
            cases y with
            | none => cases h; exact hK' rfl rfl rfl
            | some c =>
              cases c with
              | ret => cases h; exact wpIn_ret (hK' rfl rfl rfl)
              | exit i =>
                simp only [outOf] at h
                refine wpIn_exit ?_
                split at h
                · rename_i hbb
                  cases h
                  have hi := Nat.eq_of_beq_eq_true hbb
                  subst hi
                  simp only [Exit.inBlock, if_true]
                  exact hK' rfl rfl rfl
                · rename_i hbb
                  cases h
                  have hi : ¬ i = id := fun hh => by subst hh; simp at hbb
                  simp only [Exit.inBlock, if_neg hi]
                  exact hK' rfl rfl rfl
              | _ => cases h
        · cases h
      | _ => exact leaf hh h
    | _ => exact leaf hh h
end
end Go.Proofs.YtnmjfakibhekmaaGreatDoor
