/- Runs in which all is known but where blocks stand: functions. Nothing of the program is named here. -/
import Derived.Test.YtnmjfakibhekmaaGreatDoorRn16z
namespace Go.Proofs.YtnmjfakibhekmaaGreatDoor
set_option maxRecDepth 100000
open Go.RowKit

def iFn (hts : FuncId → Ht) (ic : Cl) (jc : Cp) (P : Program) (G : Glo) (F : Nat) : Nat → Cl
  | 0 => ic
  | k + 1 => fun f args H => match ic f args H with
    | some r => some r
    | none => match P.funcs[f]? with
      | some fn => match fn.body, Nat.ble args.length fn.ntmps, Nat.ble fn.ntmps 256 with
        | some c, true, true => match iM hts (hts f) (iFn hts ic jc P G F k) (iPf jc P G F k) P G fn.ntmps F c (iniE fn.ntmps 0 args .e) H false with
          | some (.nrm E H, _) => match resC P G H E fn.ntmps fn.results.toList with | some r => some (r, H) | none => none
          | some (.ret E H, _) => match resC P G H E fn.ntmps fn.results.toList with | some r => some (r, H) | none => none
          | _ => none
        | _, _, _ => none
      | none => none
section
variable {P : Program} {G : Glo} {B0 : Nat} {R : Lay} {H H' : AH} {w w' : World} {n : Nat} {E E' : Tr GV} {e : Env} {cl : Cl} {cp : Cp} {K : KV}
/-- A function's end, with its mark. -/
theorem leave_ok {fn : Func} {mk : Bool} {ds : List Deferred} {R0 : Lay} {H0 : AH} {w0 : World} {r : GV} (hm : Mk w0.heap.size R H w mk ds) (he : EnvR R n E e) (hs : Sim G B0 R H w) (hf : Fr B0 R0 H0 w0 R H w) (hs0 : Sim G B0 R0 H0 w0)
    (h : resC P G H E n fn.results.toList = some r) (hK : ∀ v w', r.rel R v → Sim G B0 R H w' → Fr B0 R0 H0 w0 R H w' → K v w') :
    LeavesInM Fence.wide 0 P fn e.toArray (fun x w' => ∃ v, x = .returned v ∧ K v w') ds .returning w := by
  have fin : ∀ w', Sim G B0 R H w' → Fr B0 R0 H0 w0 R H w' → ∃ v, (results fn e.toArray).run P w' = .ok v w' ∧ ∃ v', Ending.returned v = .returned v' ∧ K v' w' := by
    intro w' hs' hf'
    obtain ⟨v, hv, hret⟩ := resC_ok h he hs'
    obtain ⟨v', h1, h2⟩ := retK_sound (P := P) (fn := fn) (hret K (hK v w' hv hs' hf'))
    exact ⟨v', h1, v', rfl, h2⟩
  cases mk with
  | false =>
    cases (show ds = [] from hm)
    exact fin w hs hf
  | true =>
    obtain ⟨D, rfl, hD⟩ := hm
    refine ⟨by simp, .inl ⟨D, _, rfl, run_takeDeferred hD.dl, ?_⟩⟩
    refine fin _ (hs.oth (l := D) (Nat.le_trans hs0.size hD.b0) World.putObj_size (fun k hk => World.putObj_heap_other hk) hD.no) (hf.oth (l := D) hs0 hD.b0 rfl)
theorem iFn_ok {hts : FuncId → Ht} {ic : Cl} {jc : Cp} {F : Nat} (hgo : GoNames P) (hht : HtsOK P hts) (hic : ClOK P G B0 ic) (hjc : CpOK P G B0 jc) : ∀ k, ClOK P G B0 (iFn hts ic jc P G F k) := by
  intro k
  induction k with
  | zero => exact hic
  | succ k ih =>
    intro f args H r H' R w vs h hs ha
    unfold iFn at h
    split at h
    · rename_i r' hr; cases h; exact hic hr hs ha
    · split at h
      · rename_i fn hf
        split at h
        · rename_i c hb hl hn
          have he := envA ha hl hn
          have fin : ∀ {o : Out} {mk : Bool}, iM hts (hts f) (iFn hts ic jc P G F k) (iPf jc P G F k) P G fn.ntmps F c (iniE fn.ntmps 0 args .e) H false = some (o, mk) → resC P G o.H o.E fn.ntmps fn.results.toList = some r → o.H = H' → (o.x = .normal ∨ o.x = .ret) → Yls G B0 (fun K w => call P f vs.toArray K w) R H r H' w := by
            intro o mk h1 h2 h4 h3 K hK
            refine ⟨⟨fn, hf, hgo f fn hf, by rw [hb]; rfl⟩, ?_⟩
            refine callsIn_wide.1 (callsIn_of_wp_marks (n := 0) hf hb trivial ?_)
            have e1 : vs.toArray ++ Array.replicate (fn.ntmps - vs.toArray.size) undef = (vs ++ List.replicate (fn.ntmps - vs.length) undef).toArray := by simp
            rw [e1]
            refine wpIn_wide.2 (iM_ok hgo hht ih (iPf_ok hgo hjc k) F (hht f fn c hf hb) h1 he hs (Nat.le_refl _) (ds := []) rfl fun R' e' w' ds' hle he' hs' hf' hm' => ?_)
            subst h4
            have key := leave_ok (K := K) (fn := fn) hm' he' hs' hf' hs h2 fun v w2 hv hs2 hf2 => hK R' v w2 hle hv hs2 hf2
            rcases h3 with h3 | h3 <;> rw [h3] <;> exact key
          split at h
          · rename_i E H1 mk h1
            split at h
            · rename_i r1 h2; cases h; exact fin h1 h2 rfl (.inl rfl)
            · cases h
          · rename_i E H1 mk h1
            split at h
            · rename_i r1 h2; cases h; exact fin h1 h2 rfl (.inr rfl)
            · cases h
          · cases h
        · cases h
      · cases h
end
end Go.Proofs.YtnmjfakibhekmaaGreatDoor
