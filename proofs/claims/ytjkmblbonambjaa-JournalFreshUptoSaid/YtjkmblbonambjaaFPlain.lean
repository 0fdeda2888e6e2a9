/- Plain: what stands in bytes as frames; what stands in frames that were cut, or of which a byte was turned. -/
import Derived.Test.YtjkmblbonambjaaFrm3
namespace Go.Proofs.Ytjkmblbonambjaa
set_option maxRecDepth 100000
open Go.RowKit

theorem drop_split (b : List UInt8) (q N : Nat) : (b.drop q).take (8 + N) = (b.drop q).take 4 ++ (b.drop (q + 4)).take 4 ++ (b.drop (q + 8)).take N := by
  rw [show 8 + N = 4 + (4 + N) by omega, List.take_add, List.take_add, List.drop_drop, List.drop_drop, List.append_assoc]

theorem frame_eq {b : List UInt8} {q N : Nat} (hq : q + 8 + N ≤ b.length) (hN : beNat ((b.drop q).take 4) = N) :
    frameB ((b.drop (q + 8)).take N) = (b.drop q).take (8 + N) ↔ (crcS 0 (beBytes N 4 ++ (b.drop (q + 8)).take N)).toNat = beNat ((b.drop (q + 4)).take 4) := by
  have hl : ((b.drop (q + 8)).take N).length = N := by rw [List.length_take, List.length_drop]; omega
  have h4 : ((b.drop q).take 4).length = 4 := by rw [List.length_take, List.length_drop]; omega
  have h4' : ((b.drop (q + 4)).take 4).length = 4 := by rw [List.length_take, List.length_drop]; omega
  have hA : beBytes N 4 = (b.drop q).take 4 := by
    have := be_beNat ((b.drop q).take 4)
    rw [h4, hN] at this; exact this
  have hM := be_beNat ((b.drop (q + 4)).take 4)
  rw [h4'] at hM
  rw [drop_split]
  unfold frameB sumB
  rw [hl, ← hA, List.append_left_inj, List.append_right_inj]
  constructor
  · intro h
    have h2 := congrArg beNat h
    rw [beNat_be] at h2
    have := (crcS 0 (beBytes N 4 ++ (b.drop (q + 8)).take N)).isLt
    rw [Nat.mod_eq_of_lt (by omega)] at h2
    exact h2
  · intro h
    rw [h, hM]

theorem allF_spec (b : List UInt8) : ∀ (f q : Nat), q ≤ b.length → b.length < q + f →
    q ≤ (allF b f q).2 ∧ (allF b f q).2 ≤ b.length ∧ framesB (allF b f q).1 = (b.drop q).take ((allF b f q).2 - q) ∧ (∀ s ∈ (allF b f q).1, s.length ≤ 4096) ∧ recF b (allF b f q).2 = none := by
  intro f
  induction f with
  | zero => intro q h1 h2; omega
  | succ f ih =>
    intro q h1 h2
    simp only [allF]
    cases hrec : recF b q with
    | none => exact ⟨Nat.le_refl _, h1, by simp [framesB], by simp, hrec⟩
    | some sq =>
      obtain ⟨s, q2⟩ := sq
      obtain ⟨e1, e2, e3, e4, e5, e6⟩ := recF_some hrec
      obtain ⟨i1, i2, i3, i4, i5⟩ := ih q2 e2 (by omega)
      dsimp only
      refine ⟨by omega, i2, ?_, ?_, i5⟩
      · show frameB s ++ framesB (allF b f q2).1 = _
        have hfr := (frame_eq (b := b) (q := q) (N := s.length) (by omega) e5.symm).2 (by rw [← e4]; exact e6)
        rw [← e4] at hfr
        have eM : q2 = q + (8 + s.length) := by omega
        rw [i3, hfr]
        generalize 8 + s.length = M at eM
        rw [show (allF b f q2).2 - q = M + ((allF b f q2).2 - q2) by omega, List.take_add, List.drop_drop, ← eM]
      · intro t ht
        rcases List.mem_cons.1 ht with rfl | ht
        · exact e3
        · exact i4 t ht
theorem allB_spec (b : List UInt8) : (allB b).2 ≤ b.length ∧ framesB (allB b).1 = b.take (allB b).2 ∧ (∀ s ∈ (allB b).1, s.length ≤ 4096) ∧ recF b (allB b).2 = none := by
  obtain ⟨_, h2, h3, h4, h5⟩ := allF_spec b (b.length + 1) 0 (by omega) (by omega)
  exact ⟨h2, by unfold allB; simpa using h3, h4, h5⟩
theorem vast_frames (L : List (List UInt8)) : vast L ≤ (framesB L).length := by rw [framesB_len]; omega

/-- A frame that stands at a place is read. -/
theorem recF_frame {b s : List UInt8} {q : Nat} (hs : s.length ≤ 4096) (hq : q + 8 + s.length ≤ b.length) (h : (b.drop q).take (8 + s.length) = frameB s) : recF b q = some (s, q + 8 + s.length) := by
  have hsp := drop_split b q s.length
  rw [h] at hsp
  unfold frameB sumB at hsp
  have h4 : ((b.drop q).take 4).length = 4 := by rw [List.length_take, List.length_drop]; omega
  have h4' : ((b.drop (q + 4)).take 4).length = 4 := by rw [List.length_take, List.length_drop]; omega
  obtain ⟨e1, e3⟩ := List.append_inj hsp (by simp [beBytes_len, h4, h4'])
  obtain ⟨e1, e2⟩ := List.append_inj e1 (by simp [beBytes_len, h4])
  have hN : beNat ((b.drop q).take 4) = s.length := by rw [← e1, beNat_be, Nat.mod_eq_of_lt (by omega)]
  have hsum := (frame_eq hq hN).1 (by rw [← e3, h])
  unfold recF
  rw [hN, if_pos ⟨by omega, hs, hq, hsum⟩, ← e3]

/-- Frames that stand at a place are read. -/
theorem allF_pre (b : List UInt8) : ∀ (L : List (List UInt8)) (f q : Nat), (∀ s ∈ L, s.length ≤ 4096) → (b.drop q).take (framesB L).length = framesB L → q + (framesB L).length ≤ b.length → b.length < q + f →
    ∃ f', b.length < q + (framesB L).length + f' ∧ allF b f q = (L ++ (allF b f' (q + (framesB L).length)).1, (allF b f' (q + (framesB L).length)).2)
  | [], f, q, _, _, _, h3 => ⟨f, by simpa [framesB] using h3, by simp [framesB]⟩
  | s :: L, f, q, h0, h1, h2, h3 => by
    have hl : (framesB (s :: L)).length = 8 + s.length + (framesB L).length := by simp [framesB, frameB_len]
    rw [hl] at h1 h2 ⊢
    rw [List.take_add, List.drop_drop] at h1
    obtain ⟨e1, e2⟩ := List.append_inj (show _ = frameB s ++ framesB L from h1) (by rw [frameB_len, List.length_take, List.length_drop]; omega)
    obtain ⟨f, rfl⟩ : ∃ g, f = g + 1 := ⟨f - 1, by omega⟩
    have hrec := recF_frame (h0 s (by simp)) (by omega) e1
    obtain ⟨f', g1, g2⟩ := allF_pre b L f (q + (8 + s.length)) (fun t ht => h0 t (by simp [ht])) e2 (by omega) (by omega)
    refine ⟨f', by omega, ?_⟩
    simp only [allF, hrec]
    rw [show q + 8 + s.length = q + (8 + s.length) by omega, g2, show q + (8 + s.length + (framesB L).length) = q + (8 + s.length) + (framesB L).length by omega]
    simp

theorem allB_pre {b : List UInt8} {L : List (List UInt8)} (h0 : ∀ s ∈ L, s.length ≤ 4096) (h1 : b.take (framesB L).length = framesB L) (h2 : (framesB L).length ≤ b.length) :
    (allB b).1.take L.length = L ∧ L.length ≤ (allB b).1.length ∧ (framesB L).length ≤ (allB b).2 ∧ (recF b (framesB L).length = none → allB b = (L, (framesB L).length)) := by
  obtain ⟨f', g1, g2⟩ := allF_pre b L (b.length + 1) 0 h0 (by simpa using h1) (by omega) (by omega)
  rw [Nat.zero_add] at g1 g2
  have g3 := (allF_spec b f' (framesB L).length h2 g1).1
  unfold allB
  rw [g2]
  refine ⟨by simp, by simp, g3, fun hno => ?_⟩
  obtain ⟨f', rfl⟩ : ∃ g, f' = g + 1 := ⟨f' - 1, by omega⟩
  simp [allF, hno]

theorem framesB_split (L : List (List UInt8)) (n : Nat) : framesB L = framesB (L.take n) ++ framesB (L.drop n) := by rw [← framesB_app, List.take_append_drop]
theorem framesB_takeLe (L : List (List UInt8)) (n : Nat) : (framesB (L.take n)).length ≤ (framesB L).length := by rw [framesB_split L n]; simp
theorem framesB_at (L : List (List UInt8)) (n : Nat) (hn : n < L.length) : ((framesB L).drop (framesB (L.take n)).length).take (8 + L[n].length) = frameB L[n] := by
  rw [framesB_split L n, List.drop_left, List.drop_eq_getElem_cons hn]
  show (frameB L[n] ++ framesB (L.drop (n + 1))).take _ = _
  rw [← frameB_len L[n], List.take_left]
theorem framesB_lt (L : List (List UInt8)) (n : Nat) (hn : n < L.length) : (framesB (L.take n)).length + 8 + L[n].length ≤ (framesB L).length ∧ (framesB (L.take (n + 1))).length = (framesB (L.take n)).length + 8 + L[n].length := by
  have h := framesB_snoc L n L[n] (List.getElem?_eq_getElem hn)
  have h2 := congrArg List.length h
  rw [List.length_append, frameB_len] at h2
  have := framesB_takeLe L (n + 1)
  omega

/-- The length at a place says more than there is: no frame. -/
theorem recF_short {b s : List UInt8} {q : Nat} (hs : s.length < 4294967296) (h : ∀ i, i < 4 → q + i < b.length → b[q + i]? = (frameB s)[i]?) (hlen : b.length < q + 8 + s.length) : recF b q = none := by
  unfold recF
  by_cases h8 : q + 8 ≤ b.length
  · have e : (b.drop q).take 4 = beBytes s.length 4 := by
      apply List.ext_getElem?
      intro i
      by_cases hi : i < 4
      · rw [List.getElem?_take_of_lt hi, List.getElem?_drop, h i hi (by omega)]
        unfold frameB
        rw [List.append_assoc, List.getElem?_append_left (by rw [beBytes_len]; exact hi)]
      · rw [List.getElem?_eq_none (by simp; omega), List.getElem?_eq_none (by rw [beBytes_len]; omega)]
    rw [if_neg]
    rintro ⟨_, _, h3, _⟩
    rw [e, beNat_be, Nat.mod_eq_of_lt (by omega)] at h3
    omega
  · rw [if_neg (fun hh => h8 hh.1)]

/-- Frames that were cut: just the whole ones. -/
theorem all_cut (L : List (List UInt8)) (h0 : ∀ s ∈ L, s.length ≤ 4096) (n k : Nat) (hn : n ≤ L.length) (hk : k ≤ (framesB L).length) (h1 : (framesB (L.take n)).length ≤ k) (h2 : ∀ h : n < L.length, k < (framesB (L.take n)).length + 8 + L[n].length) :
    allB ((framesB L).take k) = (L.take n, (framesB (L.take n)).length) := by
  have hlen : ((framesB L).take k).length = k := by rw [List.length_take]; omega
  refine (allB_pre (fun s hs => h0 s (List.mem_of_mem_take hs)) ?_ (by omega)).2.2.2 ?_
  · rw [List.take_take, Nat.min_eq_left h1, framesB_split L n, List.take_left]
  · by_cases hlt : n < L.length
    · refine recF_short (s := L[n]) (by have := h0 L[n] (List.getElem_mem _); omega) ?_ (by have := h2 hlt; omega)
      intro i hi hb
      rw [List.getElem?_take_of_lt (by omega), ← framesB_at L n hlt, List.getElem?_take_of_lt (by omega), List.getElem?_drop]
    · unfold recF
      rw [if_neg]
      have : L.take n = L := List.take_of_length_le (by omega)
      rw [this] at h1 ⊢
      rintro ⟨h, _⟩
      omega

theorem beBytes_inj {x y k : Nat} (hx : x < 256 ^ k) (hy : y < 256 ^ k) (h : beBytes x k = beBytes y k) : x = y := by
  have := congrArg beNat h
  rwa [beNat_be, beNat_be, Nat.mod_eq_of_lt hx, Nat.mod_eq_of_lt hy] at this

theorem frameB_drop8 (s : List UInt8) : (frameB s).drop 8 = s := by
  unfold frameB
  have e8 : (beBytes s.length 4 ++ sumB (beBytes s.length 4 ++ s)).length = 8 := by simp [sumB, beBytes_len]
  exact List.drop_left' e8
theorem frameB_sum (s : List UInt8) : ((frameB s).take 8).drop 4 = sumB (beBytes s.length 4 ++ s) := by
  unfold frameB
  have e8 : (beBytes s.length 4 ++ sumB (beBytes s.length 4 ++ s)).length = 8 := by simp [sumB, beBytes_len]
  rw [List.take_left' e8, List.drop_left' (beBytes_len _ _)]

/-- A frame of which a byte of the record, or of its sum, was turned is none. -/
theorem frame_turned {s t : List UInt8} {i : Nat} {c : UInt8} (hi : 4 ≤ i) (hi2 : i < 8 + s.length) (hst : t.length = s.length) (h : frameB t = (frameB s).set i c) : (frameB s)[i]? = some c := by
  have hlen := frameB_len s
  have hc : (frameB t)[i]? = some c := by rw [h, List.getElem?_set_self (by omega)]
  rcases Nat.lt_or_ge i 8 with h8 | h8
  · have e : t = s := by
      have := congrArg (List.drop 8) h
      rwa [List.drop_set, if_pos (by omega), frameB_drop8, frameB_drop8] at this
    rw [e] at hc; exact hc
  · have e4 : sumB (beBytes t.length 4 ++ t) = sumB (beBytes s.length 4 ++ s) := by
      have : ((frameB t).take 8).drop 4 = (((frameB s).set i c).take 8).drop 4 := by rw [h]
      rwa [List.take_set_of_le (by omega), frameB_sum, frameB_sum] at this
    have e8 : t = s.set (i - 8) c := by
      have := congrArg (List.drop 8) h
      rwa [List.drop_set, if_neg (by omega), frameB_drop8, frameB_drop8] at this
    have hlt : i - 8 < s.length := by omega
    have hcrc := BitVec.eq_of_toNat_eq (beBytes_inj (k := 4) (BitVec.isLt _) (BitVec.isLt _) e4)
    have es : s = s.take (i - 8) ++ s[i - 8] :: s.drop (i - 8 + 1) := by rw [List.getElem_cons_drop, List.take_append_drop]
    have et : t = s.take (i - 8) ++ c :: s.drop (i - 8 + 1) := by rw [e8, List.set_eq_take_append_cons_drop, if_pos hlt]
    have := crc_turned 0 (beBytes s.length 4 ++ s.take (i - 8)) (s.drop (i - 8 + 1)) c s[i - 8] (by
      rw [List.append_assoc, List.append_assoc, ← es, ← et, ← hst, hcrc, hst])
    unfold frameB
    rw [List.getElem?_append_right (by simp [sumB, beBytes_len]; omega), this]
    simp only [List.length_append, sumB, beBytes_len]
    exact List.getElem?_eq_getElem hlt

/-- With a byte turned: all ahead of it are read; with one of the record or of its sum, just these. -/
theorem all_turned (L : List (List UInt8)) (h0 : ∀ s ∈ L, s.length ≤ 4096) (n p : Nat) (c : UInt8) (hn : n < L.length) (h1 : (framesB (L.take n)).length ≤ p) (h2 : p < (framesB (L.take n)).length + 8 + L[n].length) :
    (allB ((framesB L).set p c)).1.take n = L.take n ∧ n ≤ (allB ((framesB L).set p c)).1.length ∧ (framesB (L.take n)).length ≤ (allB ((framesB L).set p c)).2 ∧
    ((framesB (L.take n)).length + 4 ≤ p → (framesB L)[p]? ≠ some c → allB ((framesB L).set p c) = (L.take n, (framesB (L.take n)).length)) := by
  have hlt := (framesB_lt L n hn).1
  have hln : (L.take n).length = n := by rw [List.length_take]; omega
  obtain ⟨a1, a2, a3, a4⟩ := allB_pre (b := (framesB L).set p c) (L := L.take n) (fun s hs => h0 s (List.mem_of_mem_take hs)) (by
    rw [List.take_set_of_le h1, framesB_split L n, List.take_left]) (by rw [List.length_set]; omega)
  rw [hln] at a1 a2
  refine ⟨a1, a2, a3, fun h4 hne => a4 ?_⟩
  generalize hq : (framesB (L.take n)).length = q at *
  have hfr := framesB_at L n hn
  rw [hq] at hfr
  have hset : (((framesB L).set p c).drop q).take (8 + L[n].length) = (frameB L[n]).set (p - q) c := by
    rw [List.drop_set, if_neg (by omega), List.take_set, hfr]
  cases hrec : recF ((framesB L).set p c) q with
  | none => rfl
  | some sq =>
    exfalso
    obtain ⟨t, q2⟩ := sq
    obtain ⟨e1, e2, e3, e4, e5, e6⟩ := recF_some hrec
    have hN : beNat ((((framesB L).set p c).drop q).take 4) = L[n].length := by
      have : (((framesB L).set p c).drop q).take 4 = beBytes L[n].length 4 := by
        have h5 := congrArg (List.take 4) hset
        rw [List.take_take, Nat.min_eq_left (by omega), List.take_set_of_le (by omega)] at h5
        rw [h5]
        unfold frameB
        rw [List.append_assoc, List.take_append_of_le_length (by rw [beBytes_len]; omega), List.take_of_length_le (by rw [beBytes_len]; omega)]
      rw [this, beNat_be, Nat.mod_eq_of_lt]
      have := h0 L[n] (List.getElem_mem _)
      omega
    rw [hN] at e5
    have hfr2 := (frame_eq (b := (framesB L).set p c) (q := q) (N := t.length) (by omega) (by rw [hN]; exact e5.symm)).2 (by rw [← e4]; exact e6)
    rw [← e4, e5, hset] at hfr2
    have := frame_turned (by omega) (by omega) e5 hfr2
    rw [← hfr, List.getElem?_take_of_lt (by omega), List.getElem?_drop, show q + (p - q) = p by omega] at this
    exact hne this
theorem vast_le {M : Nat} : ∀ {L : List (List UInt8)}, (∀ s ∈ L, s.length ≤ M) → vast L ≤ M * L.length
  | [], _ => Nat.zero_le _
  | s :: r, h => by
    have h1 := h s (by simp)
    have h2 := vast_le (L := r) fun t ht => h t (by simp [ht])
    simp only [vast, List.length_cons, Nat.mul_add, Nat.mul_one]
    omega
theorem framesB_bound {L : List (List UInt8)} {q : Nat} (h : ∀ s ∈ L.take q, s.length ≤ 1000) : (framesB (L.take q)).length ≤ 1008 * q := by
  have h1 := vast_le h
  have h2 : (L.take q).length ≤ q := by rw [List.length_take]; omega
  rw [framesB_len]
  have : 1000 * (L.take q).length ≤ 1000 * q := Nat.mul_le_mul_left _ h2
  omega
theorem all_whole (L : List (List UInt8)) (h0 : ∀ s ∈ L, s.length ≤ 4096) : allB (framesB L) = (L, (framesB L).length) := by
  have h := all_cut L h0 L.length (framesB L).length (Nat.le_refl _) (Nat.le_refl _) (by simp) (fun hh => absurd hh (Nat.lt_irrefl _))
  simpa using h
end Go.Proofs.Ytjkmblbonambjaa
