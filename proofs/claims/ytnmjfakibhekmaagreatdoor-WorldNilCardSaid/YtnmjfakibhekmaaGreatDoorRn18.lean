/- Runs in which all is known but where blocks stand: an example that stands in a law; a law that asks one thing first. Nothing of the program is named here. -/
import Derived.Test.YtnmjfakibhekmaaGreatDoorRn17
namespace Go.Proofs.YtnmjfakibhekmaaGreatDoor
set_option maxRecDepth 100000
open Go.RowKit

def ic0 : Cl := fun _ _ _ => none
def jc0 : Cp := fun _ _ _ => none
def isTrue : Option (GV × AH) → Bool
  | some (.val (.one (.k (.bool true))), _) => true
  | _ => false
/-- A call that is known to yield true. -/
def icW (f : FuncId) : Cl := fun g args H => match Nat.beq g f, args with | true, [] => some (kG (.bool true), H) | _, _ => none
def isNrm : Option Out → Bool
  | some (.nrm _ _) => true
  | _ => false
def oE : Option Out → Tr GV
  | some o => o.E
  | none => .e
def oH : Option Out → AH
  | some o => o.H
  | none => ⟨.e, 0⟩
def retT (P : Program) (G : Glo) (n : Nat) (rs : List ResultVar) : Option Out → Bool
  | some (.ret E H) => (match resC P G H E n rs with | some (.val (.one (.k (.bool true)))) => true | _ => false)
  | _ => false
section
variable {P : Program} {G : Glo} {B0 : Nat} {R : Lay} {H H' : AH} {w w' : World} {n : Nat} {E E' : Tr GV} {e : Env} {cl : Cl} {cp : Cp} {K : KV}
theorem ic0_ok : ClOK P G B0 ic0 := by intro f args H r H' R w vs h; cases h
theorem jc0_ok : CpOK P G B0 jc0 := by intro f args H r R w vs h; cases h
theorem sim0 (hg : ∀ g e cs, G g = some (e, cs) → gbk w g cs) : Sim G w.heap.size (fun _ => none) ⟨.e, 0⟩ w where
  obj i o hi hl := by have := AH.get_lt hi; cases this
  inj i j oi oj Li Lj hi := by have := AH.get_lt hi; cases this
  dom i L hi := by cases hi
  big := by show 0 ≤ 8192; omega
  size := Nat.le_refl _
  glob g e cs h := ⟨(hg g e cs h).lt, hg g e cs h⟩
theorem isTrue_ok {x : Option (GV × AH)} (h : isTrue x = true) : ∃ H, x = some (kG (.bool true), H) := by
  unfold isTrue at h
  split at h
  · exact ⟨_, rfl⟩
  · cases h
theorem icW_ok {hts : FuncId → Ht} {ic : Cl} {jc : Cp} {f : FuncId} {F k : Nat} (hgo : GoNames P) (hht : HtsOK P hts) (hic : ∀ B0, ClOK P G B0 ic) (hjc : ∀ B0, CpOK P G B0 jc) (hw : isTrue (iFn hts ic jc P G F k f [] ⟨.e, 0⟩) = true) : ClOK P G B0 (icW f) := by
  intro g args H r H' R w vs h hs ha K hK
  unfold icW at h
  split at h
  · rename_i hb
    have hb := Nat.eq_of_beq_eq_true hb
    subst hb
    cases h
    cases ha
    obtain ⟨H1, h1⟩ := isTrue_ok hw
    have hs0 : Sim G w.heap.size (fun _ => none) ⟨.e, 0⟩ w := sim0 fun g e cs hg => (hs.glob g e cs hg).2
    refine iFn_ok (B0 := w.heap.size) hgo hht (hic _) (hjc _) k h1 hs0 .nil K fun R' v w' _ hv hs' hf' => ?_
    have hb : Below w.heap.size w w' := hf'.below
    exact hK R v w' (Lay.le.refl R) hv (hs.below hb) (below_fr hs hb)
  · cases h
theorem hint12 {ht : Ht} {a b : Code} (h : hintB P ht a = true) (k : hintB P ht b = true) : hintB P ht (.seq a b) = true := by
  show (match hintB P ht a with | true => hintB P ht b | false => false) = true
  rw [h]; exact k
theorem law_ok {hts : FuncId → Ht} {f : FuncId} {fn : Func} {r0 r1 x y rest : Code} {c : Operand} {F : Nat} {b : Bool} {args : List GV} {vs : List Value} (hgo : GoNames P) (hht : HtsOK P hts) (hcl : ClOK P G B0 cl) (hcp : CpOK P G B0 cp)
    (hf : P.funcs[f]? = some fn) (hb : fn.body = some (.seq r0 (.seq (.seq r1 (.cond c x y)) rest))) (ha : All2 (GV.rel R) args vs) (hs : Sim G B0 R H w) (hl : (Nat.ble args.length fn.ntmps && Nat.ble fn.ntmps 256) = true)
    (h1 : isNrm (iCode (hts f) cl cp P G fn.ntmps F (.seq r0 r1) (iniE fn.ntmps 0 args .e) H) = true)
    (h2 : isT (oE (iCode (hts f) cl cp P G fn.ntmps F (.seq r0 r1) (iniE fn.ntmps 0 args .e) H)) fn.ntmps c = some b)
    (h3 : b = true → retT P G fn.ntmps fn.results.toList (iCode (hts f) cl cp P G fn.ntmps F x (oE (iCode (hts f) cl cp P G fn.ntmps F (.seq r0 r1) (iniE fn.ntmps 0 args .e) H)) (oH (iCode (hts f) cl cp P G fn.ntmps F (.seq r0 r1) (iniE fn.ntmps 0 args .e) H))) = true)
    (h4 : b = false → retT P G fn.ntmps fn.results.toList (iCode (hts f) cl cp P G fn.ntmps F (.seq y rest) (oE (iCode (hts f) cl cp P G fn.ntmps F (.seq r0 r1) (iniE fn.ntmps 0 args .e) H)) (oH (iCode (hts f) cl cp P G fn.ntmps F (.seq r0 r1) (iniE fn.ntmps 0 args .e) H))) = true)
    (hK : ∀ w', Below B0 w w' → K (.bool true) w') : call P f vs.toArray K w := by
  rw [Bool.and_eq_true] at hl
  have hbd := hht f fn _ hf hb
  have hs1 := hint2 hbd
  have hs2 := hint2 hs1.2
  have hs3 := hint2 hs2.1
  have hs4 := hint2 hs3.2
  have he := envA (R := R) ha hl.1 hl.2
  refine ⟨⟨fn, hf, hgo f fn hf, by rw [hb]; rfl⟩, enter hf hb ?_⟩
  generalize hph : iCode (hts f) cl cp P G fn.ntmps F (.seq r0 r1) (iniE fn.ntmps 0 args .e) H = ph at h1 h2 h3 h4
  unfold isNrm at h1
  split at h1
  · rename_i E1 H1
    have fin : ∀ {z : Code}, hintB P (hts f) z = true → ∀ {R1 : Lay} {e1 : Env} {w1 : World}, retT P G fn.ntmps fn.results.toList (iCode (hts f) cl cp P G fn.ntmps F z E1 H1) = true → EnvR R1 fn.ntmps E1 e1 → Sim G B0 R1 H1 w1 → Below B0 w w1 → ∀ N X, cCode P z N X (retK P fn.results.toList K) e1 w1 := by
      intro z hz R1 e1 w1 hr he1 hs1 hb1 N X
      unfold retT at hr
      split at hr
      · rename_i E2 H2 h5
        split at hr
        · rename_i h6
          refine (iCode_ok hcl hcp F hz h5 he1 hs1 fun R2 e2 w2 hle he2 hs2 hf2 => ?_).code
          obtain ⟨v, hv, hret⟩ := resC_ok h6 he2 hs2
          have hv : v = .bool true := hv
          subst hv
          exact hret K (hK w2 (hb1.trans hf2.below))
        · cases hr
      · cases hr
    have := (iCode_ok hcl hcp F (hint12 hs1.1 hs3.1) hph (N := fun e1 w1 => cCode P (.cond c x y) (cCode P rest (retK P fn.results.toList K) (fun _ _ _ => False) (retK P fn.results.toList K)) (fun _ _ _ => False) (retK P fn.results.toList K) e1 w1) (X := fun _ _ _ => False) (Rt := retK P fn.results.toList K) he hs fun R1 e1 w1 hle he1 hs1 hf1 => ?_).code
    · exact this
    · refine ⟨b, isT_ok h2 he1, fun hb => fin hs4.1 (h3 hb) he1 hs1 hf1.below _ _, fun hb => ?_⟩
      exact fin (z := .seq y rest) (hint12 hs4.2 hs2.2) (h4 hb) he1 hs1 hf1.below (retK P fn.results.toList K) (fun _ _ _ => False)
  · cases h1
end
end Go.Proofs.YtnmjfakibhekmaaGreatDoor
