/- Runs in which all is known but where blocks stand: clear of a row. Nothing of the program is named here. -/
import Derived.Test.YtnmjfakibhekmaaGreatDoorRn9s
namespace Go.Proofs.YtnmjfakibhekmaaGreatDoor
set_option maxRecDepth 100000
open Go.RowKit

section
variable {P : Program} {G : Glo} {B0 : Nat} {R : Lay} {H H' : AH} {w w' : World} {t : TypeId} {x y r : GV} {u v : Value}
def clrG (P : Program) (H : AH) (t : TypeId) (x : GV) : Option (GV × AH) :=
  match x, P.underlying t with
  | .val (.one (.se ..)), some (.slice _) => some (kG (.tuple #[]), H)
  | .val (.one (.s b o _ n _)), some (.slice e) => match n with
    | 0 => some (kG (.tuple #[]), H)
    | n + 1 => match H.get b, (P.info? e).bind (·.zero) with
      | some (.cells e' z g cs), some zv => match (Builtin.zeroCells zv.cells (n + 1)).toList.all (·.oneCell'), Nat.ble (o + (Builtin.zeroCells zv.cells (n + 1)).toList.length) cs.length with
        | true, true => some (kG (.tuple #[]), H.put b (.cells e' z g (cs.take o ++ (Builtin.zeroCells zv.cells (n + 1)).toList.map .k ++ cs.drop (o + (Builtin.zeroCells zv.cells (n + 1)).toList.length))))
        | _, _ => none
      | _, _ => none
  | _, _ => none
theorem run_clear0 {e ty : TypeId} {a : Option Addr} {c : Nat} (ht : P.underlying t = some (.slice e)) : (Builtin.clear_ #[t] ty #[.slice a 0 c]).run P w = .ok (.tuple #[]) w := by
  cases a <;> simp [Builtin.clear_, run_underlying ht]
theorem clr_yls {cs : Array Bool} {ty : TypeId} (h : clrG P H t x = some (r, H')) (hs : Sim G B0 R H w) (hx : x.rel R u) : Yls G B0 (blt P .clear #[t] ty cs #[u]) R H r H' w := by
  intro K hK
  have none_ : ∀ {a c e}, P.underlying t = some (.slice e) → u = .slice a 0 c → r = kG (.tuple #[]) → H' = H → blt P .clear #[t] ty cs #[u] K w := by
    rintro a c e ht rfl rfl rfl
    exact blt_of (by rw [BigFrame.builtin_clear]; simp only [Sem.run_bind, run_clear0 ht, Result.andThen_ok, Sem.run_pure]) (hK R _ w (Lay.le.refl R) rfl hs (Fr.refl ..))
  unfold clrG at h
  split at h
  · rename_i ht
    cases h
    obtain ⟨L, _, rfl⟩ := hx
    exact none_ ht rfl rfl rfl
  · rename_i b o lo n c e ht
    split at h
    · cases h
      obtain ⟨L, _, _, rfl⟩ := hx
      exact none_ ht rfl rfl rfl
    · rename_i n
      split at h
      · rename_i e' z g cs0 zv hg hz
        split at h
        · rename_i h1 h2
          cases h
          have h2 := Nat.le_of_ble_eq_true h2
          obtain ⟨L, hL, _, rfl⟩ := hx
          obtain ⟨c0, hb, hc, hB⟩ := hs.cells hg hL
          generalize hzs : (Builtin.zeroCells zv.cells (n + 1)).toList = zs at *
          have hle := hc.le
          have hall : ∀ v ∈ zs, v.oneCell' = true := fun v hv => List.all_eq_true.1 h1 v hv
          obtain ⟨i, hi, hz0⟩ := Option.bind_eq_some_iff.1 hz
          have hrun : (Builtin.clear_ #[t] ty #[.slice (some ⟨L.B, o, none⟩) (n + 1) (capOf L lo c)]).run P w = .ok (.tuple #[]) (w.setCells L.B o zs) := by
            have hst := run_storeCells_cells (P := P) L.B o zs 0 w (fun j hj => by rw [hb.cell, List.getElem?_eq_getElem (by omega)]; rfl) (fun j hj => hb.frozen _) hall
            simp only [Nat.add_zero] at hst
            simp [Builtin.clear_, run_underlying ht, Sem.run_bind, zeroValue, typeInfo, hi, hz0, hzs, hst]
          refine blt_of (v := .tuple #[]) (w' := w.setCells L.B o zs) (by rw [BigFrame.builtin_clear]; simp only [Sem.run_bind, hrun, Result.andThen_ok, Sem.run_pure]) ?_
          have hb' := setCells_blk zs o w c0 hb (by omega)
          have ho := setCells_other L.B zs o w
          refine hK R _ _ (Lay.le.refl R) rfl (hs.put hg rfl hL ho.size ho.other ⟨_, hb', ?_⟩) (Fr.put hs hg rfl hL ho)
          have hlen : (cs0.take o ++ zs.map CV.k ++ cs0.drop (o + zs.length)).length = cs0.length := by simp; omega
          have hlen2 : (c0.take o ++ zs ++ c0.drop (o + zs.length)).length = c0.length := by simp; omega
          refine ⟨?_, by rw [hlen, hlen2]; exact hc.le, fun hh => by rw [hlen, hlen2]; exact hc.eq hh, fun hh => by rw [hlen2]; exact hc.room hh⟩
          rw [hlen, splice_take (by omega) hle]
          exact ((hc.rel.take o).append (kL_rel h1)).append (hc.rel.drop _)
        · cases h
      · cases h
  · cases h
/-- A row that surely has room is appended to in its place. -/
def appIn (P : Program) (H : AH) (t : TypeId) (x y : GV) : Option (GV × AH) :=
  match P.underlying t, x with
  | some (.slice e), .val (.one (.s b o lo n c)) => match P.info? e, H.get b with
    | some i, some (.cells e' z g cs) => match appSrc H i.size y with
      | some (ys, m) => match (match c, g with | some C, _ => Nat.ble (n + m) C | none, true => Nat.beq z i.size && Nat.beq o (lo * z) | none, false => false), Nat.ble (o + (n + m) * i.size) cs.length with
        | true, true => some (oneG (.s b o lo (n + m) c), H.put b (.cells e' z g (cs.take (o + n * i.size) ++ ys ++ cs.drop (o + n * i.size + ys.length))))
        | _, _ => none
      | none => none
    | _, _ => none
  | _, _ => none
theorem appIn_yls {cs : Array Bool} {ty : TypeId} (h : appIn P H t x y = some (r, H')) (hs : Sim G B0 R H w) (hx : x.rel R u) (hy : y.rel R v) : Yls G B0 (blt P .append #[t, t] ty cs #[u, v]) R H r H' w := by
  intro K hK
  unfold appIn at h
  split at h
  · rename_i e b o lo n c ht
    split at h
    · rename_i i e' z g cs0 hi hg
      split at h
      · rename_i ys m hy1
        split at h
        · rename_i h1 h2
          cases h
          have h2 := Nat.le_of_ble_eq_true h2
          obtain ⟨L2, o2, c2, vs2, rfl, hc2, ha2, hl2⟩ := appSrc_ok hy1 hs hy
          obtain ⟨L, hL, hn, rfl⟩ := hx
          obtain ⟨c0, hb, hc, hB⟩ := hs.cells hg hL
          have hle := hc.le
          have hvl := ha2.len
          have e1 : (n + m) * i.size = n * i.size + m * i.size := Nat.add_mul ..
          have hroom : n + m ≤ capOf L lo c := by
            cases c with
            | some C => exact Nat.le_of_ble_eq_true h1
            | none =>
              cases g with
              | false => cases h1
              | true =>
                simp only [Bool.and_eq_true] at h1
                have hz := Nat.eq_of_beq_eq_true h1.1
                have ho := Nat.eq_of_beq_eq_true h1.2
                obtain ⟨r1, r2, r3⟩ := hc.room rfl
                have h4 : (lo + (n + m)) * z ≤ L.cap * z := by
                  rw [← r3, Nat.add_mul, ← ho]
                  rw [← hz] at h2
                  omega
                have h5 := Nat.le_of_mul_le_mul_right h4 r1
                show n + m ≤ L.cap - lo
                omega
          have hrun := run_append_room_cells (P := P) w t ty e i ht hi L.B o n (capOf L lo c) ⟨L2, o2, none⟩ m c2 vs2 (by omega) hc2 (fun u hu => (ha2.all (q := fun u => u.oneCell' = true) (fun _ _ h => h.2) u hu)) hroom
            (fun j hj => by rw [hb.cell, List.getElem?_eq_getElem (by omega)]; rfl) (fun j hj => hb.frozen _)
          refine blt_of (v := .slice (some ⟨L.B, o, none⟩) (n + m) (capOf L lo c)) (w' := w.setCells L.B (o + n * i.size) vs2) (by rw [BigFrame.builtin_append]; simp only [Sem.run_bind, hrun, Result.andThen_ok, Sem.run_pure]) ?_
          have hb' := setCells_blk vs2 (o + n * i.size) w c0 hb (by omega)
          have ho := setCells_other L.B vs2 (o + n * i.size) w
          refine hK R _ _ (Lay.le.refl R) ⟨L, hL, hroom, rfl⟩ (hs.put hg rfl hL ho.size ho.other ⟨_, hb', ?_⟩) (Fr.put hs hg rfl hL ho)
          have hlen : (cs0.take (o + n * i.size) ++ ys ++ cs0.drop (o + n * i.size + ys.length)).length = cs0.length := by simp; omega
          have hlen2 : (c0.take (o + n * i.size) ++ vs2 ++ c0.drop (o + n * i.size + vs2.length)).length = c0.length := by simp; omega
          refine ⟨?_, by rw [hlen, hlen2]; exact hc.le, fun hh => by rw [hlen, hlen2]; exact hc.eq hh, fun hh => by rw [hlen2]; exact hc.room hh⟩
          rw [hlen, ← hvl, splice_take (by omega) hle]
          exact ((hc.rel.take _).append ha2).append (hc.rel.drop _)
        · cases h
      · cases h
    · cases h
  · cases h
def appG2 (P : Program) (H : AH) (t : TypeId) (x y : GV) : Option (GV × AH) := match appIn P H t x y with | some r => some r | none => match appG P H t x y with | some r => some r | none => appGr P H t x y
theorem app2_yls {cs : Array Bool} {ty : TypeId} (h : appG2 P H t x y = some (r, H')) (hs : Sim G B0 R H w) (hx : x.rel R u) (hy : y.rel R v) : Yls G B0 (blt P .append #[t, t] ty cs #[u, v]) R H r H' w := by
  unfold appG2 at h
  split at h
  · rename_i q hq; cases h; exact appIn_yls hq hs hx hy
  · split at h
    · rename_i q hq; cases h; exact app_yls hq hs hx hy
    · exact appGr_yls h hs hx hy
end
end Go.Proofs.YtnmjfakibhekmaaGreatDoor
