/- The sum over known bytes, as an intercept of runs. -/
import Derived.Test.YtnmjfakibhekmaaGreatDoorCrcR
import Derived.Test.YtnmjfakibhekmaaGreatDoorRn18
namespace Go.Proofs.YtnmjfakibhekmaaGreatDoor
set_option maxRecDepth 100000
open Go.RowKit

def byteC : CV → Option UInt8
  | .k (.int .u8 a) => match decide ((((UInt8.ofNat a.toNat).toNat : Nat) : Int) = a) with | true => some (UInt8.ofNat a.toNat) | false => none
  | _ => none
def bytesC : List CV → Option (List UInt8)
  | [] => some []
  | c :: r => match byteC c, bytesC r with | some b, some l => some (b :: l) | _, _ => none
def rowB (H : AH) : GV → Option (List UInt8)
  | .val (.one (.k (.slice none 0 0))) => some []
  | .val (.one (.s b o _ n _)) => match H.get b with
    | some (.cells _ _ _ cs) => match Nat.beq ((cs.drop o).take n).length n with | true => bytesC ((cs.drop o).take n) | false => none
    | _ => none
  | _ => none
def crcJ : Cp := fun f args H =>
  match Nat.beq f 283, args with
  | true, [.val (.one (.k (.int .u32 s))), y] => match rowB H y, decide ((((BitVec.ofNat 32 s.toNat).toNat : Nat) : Int) = s) with
    | some l, true => match Nat.ble l.length 9223372036854775807 with | true => some (kG (bv32 (crcS (BitVec.ofNat 32 s.toNat) l))) | false => none
    | _, _ => none
  | _, _ => none
section
variable {G : Glo} {B0 : Nat} {R : Lay} {H : AH} {w : World}
theorem byteC_ok {c : CV} {b : UInt8} {v : Value} (h : byteC c = some b) (hr : CR R c v) : v = u8v b := by
  unfold byteC at h
  split at h
  · rename_i a
    split at h
    · rename_i hd
      cases h
      have hd := of_decide_eq_true hd
      have : v = .int .u8 a := hr.1
      rw [this]
      unfold u8v
      rw [hd]
    · cases h
  · cases h
theorem bytesC_ok : ∀ {cs : List CV} {l : List UInt8} {vs : List Value}, bytesC cs = some l → All2 (CR R) cs vs → vs = l.map u8v
  | [], l, vs, h, hr => by cases h; cases hr; rfl
  | c :: r, l, vs, h, hr => by
    unfold bytesC at h
    split at h
    · rename_i b l' hb hl
      cases h
      cases hr with
      | cons h1 h2 => rw [byteC_ok hb h1, bytesC_ok hl h2]; rfl
    · cases h
theorem rowB_ok {y : GV} {l : List UInt8} {v : Value} (h : rowB H y = some l) (hs : Sim G B0 R H w) (hr : y.rel R v) : ∃ a n c, v = .slice a n c ∧ RB w a n c l := by
  unfold rowB at h
  split at h
  · cases h; cases hr
    exact ⟨none, 0, 0, rfl, rfl, Nat.le_refl _, fun h => absurd h (by omega), fun _ => ⟨rfl, rfl⟩, fun i v hv => by simp at hv⟩
  · rename_i b o lo n c
    split at h
    · rename_i e z g cs hg
      split at h
      · rename_i hb
        have hlen := Nat.eq_of_beq_eq_true hb
        obtain ⟨L, hL, hn, rfl⟩ := hr
        obtain ⟨c0, hbk, hc, _⟩ := hs.cells hg hL
        have ha := take_cells hc.rel hlen
        have hv := bytesC_ok h ha
        refine ⟨_, _, _, rfl, ?_⟩
        refine ⟨by rw [← hv, ha.len, hlen], hn, fun _ => ⟨L.B, o, rfl⟩, (fun hh => by cases hh), fun i v hi => ?_⟩
        rw [← hv] at hi
        show w.cell? _ = some v
        have hlt : i < n := by
          have := (List.getElem?_eq_some_iff.1 hi).1
          rw [ha.len, hlen] at this; exact this
        rw [List.getElem?_take_of_lt hlt, List.getElem?_drop] at hi
        have : slotA (some ⟨L.B, o, none⟩) i = ⟨L.B, o + i, none⟩ := rfl
        rw [this, hbk.cell]; exact hi
      · cases h
    · cases h
  · cases h
theorem crcJ_ok : CpOK Tryz.prog G B0 crcJ := by
  intro f args H r R w vs h hs ha
  unfold crcJ at h
  split at h
  · rename_i s y hb
    have hb := Nat.eq_of_beq_eq_true hb
    subst hb
    split at h
    · rename_i l hl hd
      split at h
      · rename_i hn
        cases h
        have hd := of_decide_eq_true hd
        have hn := Nat.le_of_ble_eq_true hn
        obtain ⟨v0, m, rfl, h0, ha⟩ : ∃ v0 m, vs = v0 :: m ∧ GV.rel R (.val (.one (.k (.int .u32 s)))) v0 ∧ All2 (GV.rel R) [y] m := by
          cases ha with
          | cons h1 h2 => exact ⟨_, _, rfl, h1, h2⟩
        cases ha with
        | cons h1 h2 =>
          cases h2
          obtain ⟨a, n, c, rfl, hrb⟩ := rowB_ok hl hs h1
          have h0 : v0 = .int .u32 s := h0
          refine ⟨_, rfl, fun K hK => ?_⟩
          have e0 : v0 = bv32 (BitVec.ofNat 32 s.toNat) := by rw [h0]; unfold bv32; rw [hd]
          rw [e0]
          exact more_c (s := BitVec.ofNat 32 s.toNat) hrb (by rw [← hrb.len]; exact hn) hK
      · cases h
    · cases h
  · cases h
/-- As an intercept of functions that may write. -/
def crcI : Cl := fun f args H => match crcJ f args H with | some r => some (r, H) | none => none
theorem crcI_ok : ClOK Tryz.prog G B0 crcI := by
  intro f args H r H' R w vs h hs ha
  unfold crcI at h
  split at h
  · rename_i r' hr
    cases h
    exact (crcJ_ok hr hs ha).yls hs
  · cases h
end
end Go.Proofs.YtnmjfakibhekmaaGreatDoor
