/- What a region may still take, of known numbers, as an intercept of runs; intercepts side by side. -/
import Derived.Test.YtnmjfakibhekmaaGreatDoorRts
import Derived.Test.YtnmjfakibhekmaaGreatDoorRn18
namespace Go.Proofs.YtnmjfakibhekmaaGreatDoor
set_option maxRecDepth 100000
open Go.RowKit

def icOr (a b : Cl) : Cl := fun f args H => match a f args H with | some r => some r | none => b f args H
theorem icOr_ok {P : Program} {G : Glo} {B0 : Nat} {a b : Cl} (ha : ClOK P G B0 a) (hb : ClOK P G B0 b) : ClOK P G B0 (icOr a b) := by
  intro f args H r H' R w vs h
  unfold icOr at h
  split at h
  · rename_i r' hr; cases h; exact ha hr
  · exact hb h
def numC : CV → Option Int
  | .k (.int .i64 a) => some a
  | _ => none
def numsC : List CV → Option (List Int)
  | [] => some []
  | c :: r => match numC c with
    | some b => match numsC r with | some l => some (b :: l) | none => none
    | none => none
def localI : Cl := fun f args H =>
  match Nat.beq f 195 with
  | true => match args with
    | [.val (.one (.p b o)), .val (.one (.k (.int .i64 k)))] => match H.get b with
      | some (.cells _ _ _ cs) => match numsC ((cs.drop o).take 54), k with
        | some A, .ofNat k => match Nat.beq A.length 54, Nat.blt k 6 with
          | true, true => some (.tup [.one (.k (iv (locS A k).1)), .one (.k (.bool (locS A k).2))], H)
          | _, _ => none
        | _, _ => none
      | _ => none
    | _ => none
  | false => none
section
variable {G : Glo} {B0 : Nat} {R : Lay} {H : AH} {w : World}
theorem numsC_ok : ∀ {cs : List CV} {l : List Int} {vs : List Value}, numsC cs = some l → All2 (CR R) cs vs → vs = l.map iv
  | [], l, vs, h, hr => by cases h; cases hr; rfl
  | c :: r, l, vs, h, hr => by
    unfold numsC at h
    split at h
    · rename_i b hb
      split at h
      · rename_i l' hl
        cases h
        cases hr with
        | cons h1 h2 =>
          unfold numC at hb
          split at hb
          · cases hb
            have h1 := h1.1
            have h1 : _ = Value.int .i64 _ := h1
            rw [h1, numsC_ok hl h2]; rfl
          · cases hb
      · cases h
    · cases h
theorem numsC_len : ∀ {cs : List CV} {l : List Int}, numsC cs = some l → l.length = cs.length
  | [], l, h => by cases h; rfl
  | c :: r, l, h => by
    unfold numsC at h
    split at h
    · split at h
      · rename_i l' hl; cases h; simp [numsC_len hl]
      · cases h
    · cases h
theorem localI_ok : ClOK Tryz.prog G B0 localI := by
  intro f args H r H' R w vs h hs ha
  unfold localI at h
  split at h
  · rename_i hb
    have hb := Nat.eq_of_beq_eq_true hb
    subst hb
    split at h
    · rename_i b o k
      split at h
      · rename_i e z g cs hg
        split at h
        · rename_i A k' hA
          split at h
          · rename_i hlen hk
            have hlen := Nat.eq_of_beq_eq_true hlen
            have hk := blt_iff.1 hk
            cases h
            cases ha with
            | cons h0 ha =>
            cases ha with
            | cons h1 ha =>
            cases ha
            obtain ⟨L, hL, rfl⟩ := h0
            cases h1
            obtain ⟨c0, hbk, hc, _⟩ := hs.cells hg hL
            have hl := numsC_len hA
            have hcut := numsC_ok hA (take_cells hc.rel (by rw [← hl, hlen]))
            intro K hK
            refine local_c (A := A) ⟨hbk, hcut, hlen⟩ hk fun w' hb => ?_
            exact hK R _ w' (Lay.le.refl R) ⟨_, .cons rfl (.cons rfl .nil), rfl⟩ (hs.below hb) (below_fr hs hb)
          · cases h
        · cases h
      · cases h
    · cases h
  · cases h
end
end Go.Proofs.YtnmjfakibhekmaaGreatDoor
