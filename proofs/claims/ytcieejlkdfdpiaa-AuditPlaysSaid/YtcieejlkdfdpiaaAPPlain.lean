/- AuditPlays, plain: the program's audit and the document's say the same. -/
import Derived.Test.YtcieejlkdfdpiaaARef4
import Derived.Test.YtcieejlkdfdpiaaAll
namespace Go.Proofs.Ytcieejlkdfdpiaa
set_option maxRecDepth 100000
open Go.RowKit Go.ChangeMaps
theorem mget_app {κ ν : Type} [DecidableEq κ] : ∀ (A B : List (κ × ν)) (q : κ), mget (A ++ B) q = (mget A q).or (mget B q)
  | [], B, q => by simp [mget]
  | p :: A, B, q => by
    simp only [List.cons_append, mget]
    by_cases h : p.1 = q
    · simp [h]
    · rw [if_neg h, if_neg h]; exact mget_app A B q
theorem mput_end {κ ν : Type} [DecidableEq κ] : ∀ {m : List (κ × ν)} {x : κ} {v : ν}, mget m x = none → mput m x v = m ++ [(x, v)]
  | [], x, v, _ => rfl
  | p :: m, x, v, h => by
    unfold mget at h
    by_cases e : p.1 = x
    · rw [if_pos e] at h; cases h
    · rw [if_neg e] at h
      unfold mput
      rw [if_neg e, mput_end h]; rfl
theorem belS_ext {m m' : List (Int × (Int × Int))} (h : ∀ id, mget m id = mget m' id) (of : Int) : ∀ n id, belS m of n id = belS m' of n id
  | 0, id => rfl
  | n + 1, id => by
    unfold belS
    rw [h id]
    by_cases e : id = of
    · rw [if_pos e, if_pos e]
    · rw [if_neg e, if_neg e]
      cases mget m' id with
      | none => rfl
      | some v => exact belS_ext h of n v.1
structure SIM (n : Nat) (S : AS) (R : RS) : Prop where
  nodes : ∀ id, mget S.nodes id = mget R.N id
  perm : (S.nodes.map (·.1)).Perm (R.N.map (·.1))
  srt : (R.N.map (·.1)).Pairwise (· < ·)
  snd : (S.nodes.map (·.1)).Nodup
  rnd : (S.raises.map (·.1)).Nodup
  raises : ∀ id, (mget S.raises id).getD 0 = rlim R.R id
  takes : S.takes = R.T.map (fun t => (t.1, t.2.1))
  tnd : (R.T.map (·.1)).Nodup
  tback : ∀ t ∈ R.T, t.2.2 = (mget S.back t.1).getD false
  back : ∀ q, (mget S.back q).getD false = R.B.any (fun x => decide (x = q))
  bS : ∀ p ∈ S.nodes, 0 ≤ p.2.2 ∧ p.2.2 ≤ 1125899906842624
  bN : ∀ p ∈ R.N, 0 ≤ p.2.2 ∧ p.2.2 ≤ 1125899906842624
  bR : ∀ p ∈ R.R, 0 ≤ p.2 ∧ p.2 ≤ 1125899906842624
  bT : ∀ t ∈ R.T, 0 ≤ t.2.1.2 ∧ t.2.1.2 ≤ 1125899906842624
  nl : R.N.length ≤ n
  rl : R.R.length ≤ n
  tl : R.T.length ≤ n
  bl : R.B.length ≤ n
section
variable {n : Nat} {S : AS} {R : RS}
theorem SIM.start : SIM 0 ⟨[], [], [], []⟩ ⟨[], [], [], []⟩ := by
  refine ⟨fun _ => rfl, List.Perm.refl _, by simp, by simp, by simp, fun _ => rfl, rfl, by simp, by simp, fun _ => rfl, by simp, by simp, by simp, by simp, by simp, by simp, by simp, by simp⟩
theorem SIM.mono {m : Nat} (h : SIM n S R) (hm : n ≤ m) : SIM m S R := { h with nl := Nat.le_trans h.nl hm, rl := Nat.le_trans h.rl hm, tl := Nat.le_trans h.tl hm, bl := Nat.le_trans h.bl hm }
theorem SIM.rb0 (h : SIM n S R) (hn : n ≤ 1000) : RB0 R := by
  have := h.nl; have := h.rl; have := h.tl; have := h.bl
  exact ⟨h.bN, h.bR, h.bT, by omega, by omega, by omega, by omega⟩
theorem SIM.len (h : SIM n S R) : S.nodes.length = R.N.length := by have := h.perm.length_eq; simpa using this
theorem SIM.ab (h : SIM n S R) (hn : n ≤ 1000) : AB S := by
  have h1 := h.rl
  have h2 := h.tl
  refine ⟨h.bS, fun p hp => ?_, fun p hp => ?_, ?_⟩
  · have hg := mget_of_mem h.rnd (show (p.1, p.2) ∈ S.raises from hp)
    have hr := h.raises p.1
    rw [hg] at hr
    have hb := rlim_bnd h.bR p.1
    simp only [Option.getD_some] at hr
    omega
  · rw [h.takes] at hp
    obtain ⟨t, ht, e⟩ := List.mem_map.1 hp
    rw [← e]; exact h.bT t ht
  · rw [h.takes]; simp; omega
theorem SIM.sums (h : SIM n S R) (id : Int) : sumsS S id = rsum R id := by
  unfold sumsS rsum
  rw [h.nodes id]
  cases mget R.N id with
  | none => rfl
  | some v =>
    simp only [h.raises id]
    congr 2
    have hu : ∀ T : List ((Int × Int) × (Int × Int) × Bool), (∀ t ∈ T, t ∈ R.T) → usedL S id (T.map (·.1)) = ruse R id T := by
      intro T
      induction T with
      | nil => intro _; simp [usedL, ruse]
      | cons t T ih =>
        intro hT
        have e1 : usedL S id ((t :: T).map (·.1)) = usedX S id t.1 + usedL S id (T.map (·.1)) := by simp [usedL]
        have e2 : ruse R id (t :: T) = (if t.2.2 = false ∧ belS R.N id 32 t.2.1.1 = true then t.2.1.2 else 0) + ruse R id T := by simp [ruse]
        rw [e1, e2, ih (fun x hx => hT x (List.mem_cons_of_mem _ hx))]
        congr 1
        have ht := hT t (by simp)
        have hg : mget S.takes t.1 = some t.2.1 := by
          refine mget_of_mem ?_ ?_
          · rw [h.takes, List.map_map]; exact h.tnd
          · rw [h.takes]; exact List.mem_map.2 ⟨t, ht, rfl⟩
        unfold usedX
        rw [hg, ← h.tback t ht]
        dsimp only
        rw [belS_ext h.nodes]
        cases t.2.2 with
        | true => simp
        | false => simp
    rw [← hu R.T (fun t ht => ht), h.takes, List.map_map]
    rfl
theorem SIM.bnd (h : SIM n S R) : bndS S = rbnd R := by
  have e1 : bndS S = (S.nodes.map (·.1)).all (fun i => decide ((sumsS S i).2.1 ≤ (sumsS S i).1)) := by unfold bndS; rw [List.all_map]; rfl
  have e2 : rbnd R = (R.N.map (·.1)).all (fun i => decide ((sumsS S i).2.1 ≤ (sumsS S i).1)) := by unfold rbnd; rw [List.all_map]; simp only [h.sums]; rfl
  rw [e1, e2, Bool.eq_iff_iff, List.all_eq_true, List.all_eq_true]
  exact ⟨fun hh x hx => hh x (h.perm.symm.subset hx), fun hh x hx => hh x (h.perm.subset hx)⟩
theorem Srt.pair {ys : List Int} (h : Srt ys 0 ys.length) : ys.Pairwise (· ≤ ·) := by
  have up : ∀ d i, i + d < ys.length → G ys i ≤ G ys (i + d) := by
    intro d
    induction d with
    | zero => intro i _; exact Int.le_refl _
    | succ d ih =>
      intro i hi
      have h1 := ih i (by omega)
      have h2 := h (i + d) (by omega) (by omega)
      exact Int.le_trans h1 h2
  rw [List.pairwise_iff_getElem]
  intro i j hi hj hij
  have := up (j - i) i (by omega)
  rw [show i + (j - i) = j by omega] at this
  simpa [G, List.getD, hi, hj] using this
theorem SIM.list (h : SIM n S R) {ys : List Int} (hp : ys.Perm (S.nodes.map (·.1))) (hs : Srt ys 0 S.nodes.length) : ys = R.N.map (·.1) := by
  have hl : ys.length = S.nodes.length := by have := hp.length_eq; simpa using this
  rw [← hl] at hs
  refine List.Perm.eq_of_pairwise (le := fun a b : Int => a ≤ b) (fun a b _ _ h1 h2 => Int.le_antisymm h1 h2) hs.pair (h.srt.imp (fun h => Int.le_of_lt h)) (hp.trans h.perm)
theorem within_bnd (x : Int) : 0 ≤ withinS x ∧ withinS x ≤ 1125899906842624 := by unfold withinS; split <;> (try split) <;> omega
theorem am_is (x : Int) : (if x ≠ withinS x then 0 else x) = amS x := by
  unfold withinS amS
  by_cases h1 : x < 0
  · rw [if_pos h1, if_pos (show x ≠ 0 by omega), if_pos (show x < 0 ∨ _ from .inl h1)]
  · rw [if_neg h1]
    by_cases h2 : 1125899906842624 < x
    · rw [if_pos h2, if_pos (show x ≠ 1125899906842624 by omega), if_pos (show _ ∨ 1125899906842624 < x from .inr h2)]
    · rw [if_neg h2, if_neg (show ¬ x ≠ x from fun hh => hh rfl), if_neg (by omega)]
theorem am_bnd (x : Int) : 0 ≤ amS x ∧ amS x ≤ 1125899906842624 := by unfold amS; split <;> omega
theorem SIM.key (h : SIM n S R) (q : Int × Int) : mget S.takes q = none ↔ ∀ y ∈ R.T, y.1 ≠ q := by
  rw [mget_none, h.takes, List.map_map]
  simp only [List.mem_map, Function.comp]
  exact ⟨fun hh y hy e => hh ⟨y, hy, e⟩, fun hh ⟨y, hy, e⟩ => hh y hy e⟩
set_option maxHeartbeats 1000000 in
theorem SIM.step {R' : RS} {who o s e : Int} {a : Ak} (h : SIM n S R) (hn : n ≤ 1000) (hs : RSay R who a o s e R') : SIM (n + 1) (sayS S who a o s e) R' := by
  have up := h.mono (Nat.le_succ n)
  unfold RSay at hs
  unfold sayS
  by_cases he : e ≠ 0 ∧ e ≠ 8
  · rw [if_pos he] at hs ⊢
    rw [hs]; exact up
  rw [if_neg he] at hs ⊢
  by_cases h1 : a.kind = 1
  · rw [if_pos h1] at hs ⊢
    rw [h.nodes]
    by_cases hc : treeIdS o s ≠ 0 ∧ mget R.N (treeIdS o s) = none
    rotate_left
    · rw [if_neg hc] at hs ⊢
      rw [hs]; exact up
    rw [if_pos hc] at hs ⊢
    obtain ⟨L', ⟨k, hk, hL, hu, hlo⟩, rfl⟩ := hs
    obtain ⟨id, hid⟩ : ∃ id, treeIdS o s = id := ⟨_, rfl⟩
    rw [hid] at hc hL hu hlo ⊢
    dsimp only at hu hlo
    have hnone : mget S.nodes id = none := by rw [h.nodes]; exact hc.2
    have hnot := mget_none.1 hc.2
    have hput := mput_end (v := (a.node, withinS a.amount)) hnone
    have hkeys : (L'.map (·.1)) = (R.N.take k).map (·.1) ++ id :: (R.N.drop k).map (·.1) := by rw [hL]; simp
    have hw := within_bnd a.amount
    have hnn : ∀ A : List (Int × (Int × Int)), (∀ x ∈ A, x ∈ R.N) → mget A id = none := by
      intro A hA
      rw [mget_none]
      intro hm
      obtain ⟨y, hy, e⟩ := List.mem_map.1 hm
      exact hnot (List.mem_map.2 ⟨y, hA y hy, e⟩)
    refine { up with nodes := fun q => ?_, perm := ?_, srt := ?_, snd := mput_nodup h.snd, bS := ?_, bN := ?_, nl := ?_ }
    · show mget (mput S.nodes id _) q = mget L' q
      rw [mget_put, hL, mget_app]
      by_cases e : q = id
      · subst e
        rw [if_pos rfl, hnn _ (fun x hx => List.mem_of_mem_take hx)]
        simp [mget]
      · rw [if_neg e, h.nodes]
        have e2 : ¬ id = q := fun hh => e hh.symm
        have : mget ((id, (a.node, withinS a.amount)) :: R.N.drop k) q = mget (R.N.drop k) q := by simp [mget, e2]
        rw [this, ← mget_app, List.take_append_drop]
    · show ((mput S.nodes id _).map (·.1)).Perm (L'.map (·.1))
      rw [hput, hkeys]
      simp only [List.map_append, List.map_cons, List.map_nil]
      have p1 : (S.nodes.map (·.1) ++ [id]).Perm (id :: S.nodes.map (·.1)) := List.perm_append_comm
      have p2 : ((R.N.take k).map (·.1) ++ id :: (R.N.drop k).map (·.1)).Perm (id :: ((R.N.take k).map (·.1) ++ (R.N.drop k).map (·.1))) := List.perm_middle
      refine p1.trans (List.Perm.trans ?_ p2.symm)
      rw [← List.map_append, List.take_append_drop]
      exact h.perm.cons id
    · show (L'.map (·.1)).Pairwise (· < ·)
      rw [hkeys, List.pairwise_append]
      have hs2 := h.srt
      rw [← List.take_append_drop k R.N, List.map_append, List.pairwise_append] at hs2
      obtain ⟨s1, s2, s3⟩ := hs2
      have hlow : ∀ x ∈ (R.N.take k).map (·.1), x < id := by
        intro x hx
        rcases hlo with rfl | ⟨y, hy, hle⟩
        · simp at hx
        by_cases hk0 : k = 0
        · subst hk0; simp at hx
        have hne : y.1 ≠ id := fun e => hnot (List.mem_map.2 ⟨y, List.mem_of_getElem? hy, e⟩)
        obtain ⟨z, hz, rfl⟩ := List.mem_map.1 hx
        obtain ⟨i, hi, hzi⟩ := List.getElem_of_mem hz
        have hi' : i < k := by simp at hi; omega
        have hki : k - 1 < R.N.length := (List.getElem?_eq_some_iff.1 hy).1
        have hzi' : z = R.N[i]'(by omega) := by rw [← hzi]; simp
        have hyk : y = R.N[k - 1] := by have := (List.getElem?_eq_some_iff.1 hy).2; exact this.symm
        by_cases hik : i = k - 1
        · have : z = y := by rw [hzi', hyk]; congr 1
          rw [this]; omega
        · have hp := List.pairwise_iff_getElem.1 h.srt i (k - 1) (by simp; omega) (by simp; omega) (by omega)
          simp only [List.getElem_map] at hp
          rw [hzi']
          rw [hyk] at hle hne
          omega
      refine ⟨s1, ?_, fun x hx y hy => ?_⟩
      · rw [List.pairwise_cons]
        exact ⟨fun y hy => by obtain ⟨z, hz, rfl⟩ := List.mem_map.1 hy; exact hu z hz, s2⟩
      · rcases List.mem_cons.1 hy with rfl | hy
        · exact hlow x hx
        · exact s3 x hx y hy
    · show ∀ p ∈ mput S.nodes id _, _
      rw [hput]
      intro p hp
      rcases List.mem_append.1 hp with hp | hp
      · exact h.bS p hp
      · simp only [List.mem_singleton] at hp; subst hp; exact hw
    · show ∀ p ∈ L', _
      rw [hL]
      intro p hp
      rcases List.mem_append.1 hp with hp | hp
      · exact h.bN p (List.mem_of_mem_take hp)
      · rcases List.mem_cons.1 hp with rfl | hp
        · exact hw
        · exact h.bN p (List.mem_of_mem_drop hp)
    · show L'.length ≤ n + 1
      have := h.nl
      rw [hL]; simp only [List.length_append, List.length_take, List.length_cons, List.length_drop]; omega
  rw [if_neg h1] at hs ⊢
  by_cases h2 : a.kind = 2
  · rw [if_pos h2] at hs ⊢
    subst hs
    have hw := within_bnd a.amount
    have hrl := h.rl
    refine { up with rnd := mput_nodup h.rnd, raises := fun id => ?_, bR := fun p hp => ?_, rl := ?_ }
    · show (mget (mput S.raises a.node _) id).getD 0 = rlim (R.R ++ [_]) id
      rw [mget_put, rlim_snoc]
      have hb := rlim_bnd h.bR a.node
      by_cases e : id = a.node
      · rw [if_pos e, if_pos e.symm, Option.getD_some, h.raises, e, wrap_i64 (by omega) (by omega)]
      · rw [if_neg e, if_neg (fun hh => e hh.symm), h.raises]; omega
    · rcases List.mem_append.1 hp with hp | hp
      · exact h.bR p hp
      · simp only [List.mem_singleton] at hp; subst hp; exact hw
    · show (R.R ++ [_]).length ≤ n + 1
      simp; omega
  rw [if_neg h2] at hs ⊢
  by_cases h3 : a.kind = 3
  · rw [if_pos h3] at hs ⊢
    rw [am_is]
    have hkey := h.key (who, a.req)
    by_cases hc : e = 0 ∧ ∀ y ∈ R.T, y.1 ≠ (who, a.req)
    rotate_left
    · rw [if_neg hc] at hs
      have : (mget S.takes (who, a.req)).isSome ∨ e ≠ 0 := by
        by_cases e0 : e = 0
        · left
          cases hg : mget S.takes (who, a.req) with
          | none => exact absurd ⟨e0, hkey.1 hg⟩ hc
          | some v => rfl
        · exact .inr e0
      rw [if_pos this, hs]; exact up
    rw [if_pos hc] at hs
    have hg := hkey.2 hc.2
    rw [if_neg (by rw [hg]; simp [hc.1])]
    subst hs
    have htl := h.tl
    have hw := am_bnd a.amount
    refine { up with takes := ?_, tnd := ?_, tback := fun t ht => ?_, bT := fun t ht => ?_, tl := ?_ }
    · show mput S.takes _ _ = (R.T ++ [_]).map _
      rw [mput_end hg, h.takes]; simp
    · show (List.map (fun t : (Int × Int) × (Int × Int) × Bool => t.1) (R.T ++ [_])).Nodup
      rw [List.map_append, List.nodup_append]
      refine ⟨h.tnd, by simp, fun x hx y hy => ?_⟩
      simp only [List.map_cons, List.map_nil, List.mem_singleton] at hy
      subst hy
      obtain ⟨z, hz, rfl⟩ := List.mem_map.1 hx
      exact hc.2 z hz
    · rcases List.mem_append.1 ht with ht | ht
      · exact h.tback t ht
      · simp only [List.mem_singleton] at ht
        subst ht
        exact (h.back _).symm
    · rcases List.mem_append.1 ht with ht | ht
      · exact h.bT t ht
      · simp only [List.mem_singleton] at ht; subst ht; exact hw
    · show (R.T ++ [_]).length ≤ n + 1
      simp; omega
  rw [if_neg h3] at hs ⊢
  by_cases h4 : a.kind = 4
  rotate_left
  · rw [if_neg h4] at hs ⊢
    rw [hs]; exact up
  rw [if_pos h4] at hs ⊢
  have hbl := h.bl
  have hback : ∀ q, (mget (mput S.back (who, a.of) true) q).getD false = (R.B ++ [(who, a.of)]).any (fun x => decide (x = q)) := by
    intro q
    rw [mget_put, List.any_append, ← h.back]
    by_cases e : q = (who, a.of)
    · rw [if_pos e]; simp [e]
    · rw [if_neg e]
      have : ¬ (who, a.of) = q := fun hh => e hh.symm
      simp [this]
  rcases hs with ⟨hno, rfl⟩ | ⟨k, x, hx, hxk, hj, rfl⟩
  · refine { up with tback := fun t ht => ?_, back := hback, bl := ?_ }
    · show t.2.2 = (mget (mput S.back (who, a.of) true) t.1).getD false
      rw [mget_put, if_neg (hno t ht)]; exact h.tback t ht
    · show (R.B ++ [_]).length ≤ n + 1
      simp; omega
  · have hkl : k < R.T.length := (List.getElem?_eq_some_iff.1 hx).1
    have hxe : R.T[k] = x := (List.getElem?_eq_some_iff.1 hx).2
    have hkeys : (R.T.set k (x.1, x.2.1, true)).map (·.1) = R.T.map (·.1) := by
      rw [List.map_set]
      apply List.ext_getElem?
      intro i
      rw [List.getElem?_set]
      by_cases e : k = i
      · subst e
        rw [if_pos rfl, if_pos (by simpa using hkl), List.getElem?_map, hx]; rfl
      · rw [if_neg e]
    have hvals : (R.T.set k (x.1, x.2.1, true)).map (fun t => (t.1, t.2.1)) = R.T.map (fun t => (t.1, t.2.1)) := by
      rw [List.map_set]
      apply List.ext_getElem?
      intro i
      rw [List.getElem?_set]
      by_cases e : k = i
      · subst e
        rw [if_pos rfl, if_pos (by simpa using hkl), List.getElem?_map, hx]; rfl
      · rw [if_neg e]
    refine { up with takes := ?_, tnd := ?_, tback := fun t ht => ?_, back := hback, bT := fun t ht => ?_, tl := ?_, bl := ?_ }
    · show S.takes = (R.T.set k (x.1, x.2.1, true)).map _
      rw [hvals]; exact h.takes
    · show ((R.T.set k (x.1, x.2.1, true)).map (·.1)).Nodup
      rw [hkeys]; exact h.tnd
    · show t.2.2 = (mget (mput S.back (who, a.of) true) t.1).getD false
      obtain ⟨i, hi, hti⟩ := List.getElem_of_mem ht
      have hi' : i < R.T.length := by simpa using hi
      rw [List.getElem_set] at hti
      by_cases e : k = i
      · rw [if_pos e] at hti
        rw [← hti, mget_put, if_pos hxk]; rfl
      · rw [if_neg e] at hti
        have hne : t.1 ≠ (who, a.of) := by
          intro ht1
          have hp := List.pairwise_iff_getElem.1 h.tnd
          have e1 : (R.T.map (·.1))[i]'(by simpa using hi') = (who, a.of) := by rw [List.getElem_map, hti]; exact ht1
          have e2 : (R.T.map (·.1))[k]'(by simpa using hkl) = (who, a.of) := by rw [List.getElem_map, hxe]; exact hxk
          rcases Nat.lt_or_gt_of_ne e with h5 | h5
          · exact hp k i _ _ h5 (e2.trans e1.symm)
          · exact hp i k _ _ h5 (e1.trans e2.symm)
        rw [mget_put, if_neg hne]
        exact h.tback t (by rw [← hti]; exact List.getElem_mem _)
    · rcases List.mem_or_eq_of_mem_set ht with ht | rfl
      · exact h.bT t ht
      · exact h.bT x (List.mem_of_getElem? hx)
    · show (R.T.set k _).length ≤ n + 1
      have := h.tl
      simp; omega
    · show (R.B ++ [_]).length ≤ n + 1
      simp; omega
end
end Go.Proofs.Ytcieejlkdfdpiaa
