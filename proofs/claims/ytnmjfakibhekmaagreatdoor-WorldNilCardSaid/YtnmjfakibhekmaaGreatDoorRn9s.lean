/- Runs in which all is known but where blocks stand: make of a row. Nothing of the program is named here. -/
import Derived.Test.YtnmjfakibhekmaaGreatDoorRn9
namespace Go.Proofs.YtnmjfakibhekmaaGreatDoor
set_option maxRecDepth 100000
open Go.RowKit

section
variable {P : Program} {G : Glo} {B0 : Nat} {R : Lay} {H H' : AH} {w w' : World} {t : TypeId} {x y r : GV} {u v : Value}
def mkSG (P : Program) (H : AH) (t : TypeId) (l c : GV) : Option (GV × AH) :=
  match l, c, P.underlying t with
  | .val (.one (.k (.int _ L))), .val (.one (.k (.int _ C))), some (.slice e) => match P.info? e, zeroCs P e with
    | some i, some [z] => match Nat.beq i.size 1, decide (0 ≤ L), decide (L ≤ C), Nat.ble (i.bytes * C.toNat) 281474976710656, Nat.ble C.toNat maxLen, Nat.blt H.n 8192 with
      | true, true, true, true, true, true => some (oneG (.s H.n 0 0 L.toNat (some C.toNat)), H.new (.cells e 1 false (List.replicate C.toNat z)))
      | _, _, _, _, _, _ => none
    | _, _ => none
  | _, _, _ => none
theorem mkSX {e : TypeId} {i : TypeInfo} {z v : Value} {bytes : Nat} {K : KV} (ht : P.underlying t = some (.slice e)) (hi : P.info? e = some i) (hz : i.zero = some z) (hsize : i.size = 1) (hby : i.bytes = bytes) (hzs : z.cells = #[v])
    {kl kc : IntKind} {L C : Int} {l n : Nat} (hL : L = (l : Int)) (hC : C = (n : Int)) (hln : l ≤ n) (b2 : bytes * n ≤ 281474976710656) (b3 : n ≤ 9223372036854775807)
    (h : ∀ w', blk w' w.heap.size e (List.replicate n v) → Below w.heap.size w w' → K (.slice (some ⟨w.heap.size, 0, none⟩) l n) w') : mkS P t (.int kl L) (.int kc C) K w := by
  subst hC
  subst hL
  have hrun := run_make (P := P) w t e i z ht hi hz kl kc l n (by omega) (by omega) (by rw [hby]; omega) (by omega)
  rw [hsize, hzs] at hrun
  have hm : madeCells #[v] (((n : Int)).toNat * 1) = (List.replicate n v).toArray := by
    have := toList_madeCells_one v n
    rw [← this]; simp
  rw [hm] at hrun
  unfold mkS
  exact okV_of hrun (h _ (heap_alloc_new w _) (below_of_grown (World.grownBy_alloc _ _ none) (Nat.le_refl _) (fun k hk => by cases hk)))
theorem All2.rep {α β : Type} {q : α → β → Prop} {a : α} {b : β} (h : q a b) : ∀ n, All2 q (List.replicate n a) (List.replicate n b)
  | 0 => .nil
  | n + 1 => .cons h (All2.rep h n)
theorem mkS_yls (h : mkSG P H t x y = some (r, H')) (hs : Sim G B0 R H w) (hx : x.rel R u) (hy : y.rel R v) : Yls G B0 (mkS P t u v) R H r H' w := by
  intro K hK
  unfold mkSG at h
  split at h
  · rename_i kl L kc C e ht
    cases hx; cases hy
    split at h
    · rename_i i z hi hz
      obtain ⟨zv, hz1, hz2⟩ := zeroCs_ok (R := R) hz
      split at h
      · rename_i h1 h2 h3 h4 h5 h6
        cases h
        have h1 := Nat.eq_of_beq_eq_true h1
        have h2 := of_decide_eq_true h2
        have h3 := of_decide_eq_true h3
        have h4 := Nat.le_of_ble_eq_true h4
        have h5 := Nat.le_of_ble_eq_true h5
        obtain ⟨v, hv, hcr⟩ : ∃ v, zv.cells = #[v] ∧ CR R z v := by
          generalize hl : zv.cells.toList = l at hz2
          cases hz2 with
          | @cons _ b _ m g1 g2 =>
            cases g2
            exact ⟨b, by rw [← Array.toArray_toList (xs := zv.cells), hl], g1⟩
        have hz0 : i.zero = some zv := by simpa [hi] using hz1
        refine mkSX (l := L.toNat) (n := C.toNat) ht hi hz0 h1 rfl hv (by omega) (by omega) (by omega) h4 h5 fun w' hb hbl => ?_
        have hle := hs.upd_le ⟨w.heap.size, 0⟩
        refine hK _ _ w' hle ⟨_, upd_self, ?_, rfl⟩ (hs.new (o := .cells e 1 false (List.replicate C.toNat z)) (L := ⟨w.heap.size, 0⟩) hbl (Nat.le_refl _) ⟨_, hb, ?_⟩ (blt_iff.1 h6)) (Fr.new hs hbl (Nat.le_refl _) (blt_iff.1 h6))
        · show L.toNat ≤ C.toNat
          omega
        · have ha := All2.rep (q := CR (upd R H.n ⟨w.heap.size, 0⟩)) (hcr.mono hle) C.toNat
          have hl := ha.len
          refine ⟨?_, by omega, fun _ => hl, (fun hg => by cases hg)⟩
          rw [← hl, List.take_length]
          exact ha
      · cases h
    · cases h
  · cases h
end
end Go.Proofs.YtnmjfakibhekmaaGreatDoor
