/- Plain: what the journal's calls do, with and without a fuse, and what is there when the power is on again. -/
import Derived.Test.YtjkmblbonambjaaFPlain
import Derived.Test.YtjkmblbonambjaaJrn3
namespace Go.Proofs.Ytjkmblbonambjaa
set_option maxRecDepth 100000

def okR (L : List (List UInt8)) : Prop := ∀ s ∈ L, s.length ≤ 4096
def dec (fu : Int) : Int := if fu < 0 then fu else fu - 1

theorem dec_val {x k : Int} (h : dec x = k) (hk : 0 ≤ k) : x = k + 1 := by unfold dec at h; split at h <;> omega
theorem doS_go {F : Fls} {l : List Chg} {fu : Int} {c : Chg} (h : fu ≠ 0) : doS ⟨F, l, false, fu⟩ c = (⟨F, l ++ [c], false, dec fu⟩, 0) := by
  unfold doS burn dec
  by_cases h1 : fu < 0 <;> simp [h, h1]
theorem doS_burn {F : Fls} {l : List Chg} {c : Chg} : doS ⟨F, l, false, 0⟩ c = (⟨F, l ++ [c], true, -1⟩, 8) := by
  unfold doS burn; simp
theorem syncS_go {F : Fls} {l : List Chg} {fu : Int} (h : fu ≠ 0) : syncS ⟨F, l, false, fu⟩ = (⟨runs l F, [], false, dec fu⟩, 0) := by
  unfold syncS burn dec DS.now
  by_cases h1 : fu < 0 <;> simp [h, h1]
theorem syncS_burn {F : Fls} {l : List Chg} : syncS ⟨F, l, false, 0⟩ = (⟨F, l, true, -1⟩, 8) := by
  unfold syncS burn; simp
theorem appendS_0 {F : Fls} {l : List Chg} {fu : Int} {b : List UInt8} (h : tot (runs l F) + b.length ≤ 4194304) : appendS ⟨F, l, false, fu⟩ 0 b = doS ⟨F, l, false, fu⟩ (.app false b) := by
  unfold appendS DS.now
  rw [if_neg (by simp), if_neg (by simp), if_neg (by dsimp only; omega)]; rfl
theorem appendS_1 {F : Fls} {l : List Chg} {fu : Int} {b : List UInt8} (h : tot (runs l F) + b.length ≤ 4194304) : appendS ⟨F, l, false, fu⟩ 1 b = doS ⟨F, l, false, fu⟩ (.app true b) := by
  unfold appendS DS.now
  rw [if_neg (by simp), if_neg (by simp), if_neg (by dsimp only; omega)]; rfl
theorem appendS_full {F : Fls} {l : List Chg} {fu : Int} {b : List UInt8} {f : Int} (hf : f = 0 ∨ f = 1) (h : 4194304 < tot (runs l F) + b.length) : appendS ⟨F, l, false, fu⟩ f b = (⟨F, l, false, fu⟩, 7) := by
  unfold appendS DS.now
  rw [if_neg (by simp), if_neg (fun hh => hh hf), if_pos (by dsimp only; omega)]

theorem seq_add {F : Fls} {b : List UInt8} {fu : Int} (ht : tot F + b.length ≤ 4194304) :
    seqS (jaddL b) ⟨F, [], false, fu⟩ = if fu = 0 ∨ fu = 1 then (⟨F, [.app false b], true, -1⟩, 8) else (⟨(F.1 ++ b, F.2), [], false, dec (dec fu)⟩, 0) := by
  simp only [jaddL, seqS, appendS_0 (l := []) (F := F) ht]
  by_cases h0 : fu = 0
  · subst h0
    simp [doS_burn]
  rw [doS_go h0]
  by_cases h1 : fu = 1
  · subst h1
    simp [dec, syncS_burn]
  · have hd : dec fu ≠ 0 := by unfold dec; split <;> omega
    simp [syncS_go hd, h0, h1, runs, Chg.on, fset, fget]

theorem jempty_none {f0 : List UInt8} {fu : Int} : jemptyS ⟨(f0, []), [], false, fu⟩ = (⟨(f0, []), [], false, fu⟩, 0) := by
  unfold jemptyS readS DS.now runs fget
  simp

theorem seq_comp {f0 b : List UInt8} {fu : Int} (ht : f0.length + b.length ≤ 4194304) :
    seqS (jcompL b) ⟨(f0, []), [], false, fu⟩ = if fu = 0 ∨ fu = 1 then (⟨(f0, []), [.app true b], true, -1⟩, 8) else if fu = 2 ∨ fu = 3 then (⟨(f0, b), [.ren], true, -1⟩, 8) else (⟨(b, []), [], false, dec (dec (dec (dec fu)))⟩, 0) := by
  simp only [jcompL, seqS, jempty_none, if_true]
  rw [appendS_1 (l := []) (F := (f0, [])) (by simpa [tot, runs] using ht)]
  by_cases h0 : fu = 0
  · subst h0
    simp [doS_burn]
  rw [doS_go h0]
  by_cases h1 : fu = 1
  · subst h1
    simp [dec, syncS_burn]
  have hd : dec fu ≠ 0 := by unfold dec; split <;> omega
  have e1 : runs ([] ++ [Chg.app true b]) (f0, []) = (f0, b) := by simp [runs, Chg.on, fset, fget]
  simp only [if_true, syncS_go hd, e1]
  unfold renS
  simp only [Bool.false_eq_true, if_false]
  by_cases h2 : fu = 2
  · subst h2
    simp [dec, doS_burn]
  have hd2 : dec (dec fu) ≠ 0 := fun h => h2 (by have := dec_val (dec_val h (by omega)) (by omega); omega)
  rw [doS_go hd2]
  by_cases h3 : fu = 3
  · subst h3
    simp [dec, syncS_burn]
  have hd3 : dec (dec (dec fu)) ≠ 0 := fun h => h3 (by have := dec_val (dec_val (dec_val h (by omega)) (by omega)) (by omega); omega)
  have e2 : runs ([] ++ [Chg.ren]) (f0, b) = (b, []) := by simp [runs, Chg.on]
  simp only [if_true, syncS_go hd3, e2, h0, h1, h2, h3, or_self, if_false]

theorem putF_ok {L : List (List UInt8)} (h : okR L) : putF [] L = (framesB L, 0) := by
  unfold putF
  rw [if_pos (List.all_eq_true.2 fun s hs => by simpa using h s hs)]; rfl
theorem putF_many {L : List (List UInt8)} (h : ¬ okR L) : putF [] L = ([], 6) := by
  unfold putF
  rw [if_neg (fun hh => h fun s hs => by simpa using List.all_eq_true.1 hh s hs)]

theorem jadd_many {J : JD} {L : List (List UInt8)} (hb : J.br = false) (h : ¬ okR L) : jaddS J L = (J, 6) := by
  have e : jbytesS J.br L = ([], 6) := by unfold jbytesS; rw [hb]; simpa using putF_many h
  unfold jaddS
  rw [e, if_pos (.inl (by simp))]
theorem jadd_nil {J : JD} (hb : J.br = false) : jaddS J [] = (J, 0) := by
  have e : jbytesS J.br [] = ([], 0) := by unfold jbytesS; rw [hb]; simpa [framesB] using putF_ok (L := []) (by intro s hs; cases hs)
  unfold jaddS
  rw [e, if_pos (.inr rfl)]
theorem jadd_go {F : Fls} {fu size : Int} {L : List (List UInt8)} (h : okR L) (hL : L ≠ []) (ht : tot F + (framesB L).length ≤ 4194304) :
    jaddS ⟨⟨F, [], false, fu⟩, size, false⟩ L = if fu = 0 ∨ fu = 1 then (⟨⟨F, [.app false (framesB L)], true, -1⟩, size, true⟩, 8) else (⟨⟨(F.1 ++ framesB L, F.2), [], false, dec (dec fu)⟩, size + (framesB L).length, false⟩, 0) := by
  have e : jbytesS false L = (framesB L, 0) := by unfold jbytesS; simpa using putF_ok h
  unfold jaddS
  rw [e, if_neg (by simp [hL]), seq_add ht]
  by_cases hf : fu = 0 ∨ fu = 1
  · simp [hf, jdoneS]
  · simp [hf, jdoneS]
theorem jadd_full {F : Fls} {fu size : Int} {L : List (List UInt8)} (h : okR L) (hL : L ≠ []) (ht : 4194304 < tot F + (framesB L).length) :
    jaddS ⟨⟨F, [], false, fu⟩, size, false⟩ L = (⟨⟨F, [], false, fu⟩, size, false⟩, 7) := by
  have e : jbytesS false L = (framesB L, 0) := by unfold jbytesS; simpa using putF_ok h
  unfold jaddS
  rw [e, if_neg (by simp [hL])]
  simp only [jaddL, seqS, appendS_full (l := []) (F := F) (.inl rfl) ht]
  simp [jdoneS]
theorem jcomp_many {J : JD} {L : List (List UInt8)} (hb : J.br = false) (h : ¬ okR L) : jcompS J L = (J, 6) := by
  have e : jbytesS J.br L = ([], 6) := by unfold jbytesS; rw [hb]; simpa using putF_many h
  unfold jcompS
  rw [e, if_pos (by simp)]
theorem jcomp_go {f0 : List UInt8} {fu size : Int} {L : List (List UInt8)} (h : okR L) (ht : f0.length + (framesB L).length ≤ 4194304) :
    jcompS ⟨⟨(f0, []), [], false, fu⟩, size, false⟩ L = if fu = 0 ∨ fu = 1 then (⟨⟨(f0, []), [.app true (framesB L)], true, -1⟩, size, true⟩, 8) else if fu = 2 ∨ fu = 3 then (⟨⟨(f0, framesB L), [.ren], true, -1⟩, size, true⟩, 8) else
      (⟨⟨(framesB L, []), [], false, dec (dec (dec (dec fu)))⟩, (framesB L).length, false⟩, 0) := by
  have e : jbytesS false L = (framesB L, 0) := by unfold jbytesS; simpa using putF_ok h
  unfold jcompS
  rw [e, if_neg (by simp), seq_comp ht]
  by_cases hf : fu = 0 ∨ fu = 1
  · simp [hf, jdoneS]
  · by_cases hf2 : fu = 2 ∨ fu = 3
    · simp [hf, hf2, jdoneS]
    · simp [hf, hf2, jdoneS]
theorem jcomp_full {f0 : List UInt8} {fu size : Int} {L : List (List UInt8)} (h : okR L) (ht : 4194304 < f0.length + (framesB L).length) :
    jcompS ⟨⟨(f0, []), [], false, fu⟩, size, false⟩ L = (⟨⟨(f0, []), [], false, fu⟩, size, false⟩, 7) := by
  have e : jbytesS false L = (framesB L, 0) := by unfold jbytesS; simpa using putF_ok h
  unfold jcompS
  rw [e, if_neg (by simp)]
  simp only [jcompL, seqS, jempty_none, if_true, appendS_full (l := []) (F := (f0, [])) (.inr rfl) (by simpa [tot, runs] using ht)]
  simp [jdoneS]

/-! ## Opening -/
theorem jcut_on {g0 g1 : List UInt8} {k : Nat} (hk : k ≤ g0.length) : jcutS k g0.length ⟨(g0, g1), [], false, -1⟩ = (⟨(g0, g1), if k = g0.length then [] else [.cut false k], false, -1⟩, 0) := by
  unfold jcutS
  split
  · rfl
  · unfold cutS DS.now
    rw [if_neg (by simp), if_neg (by simp [runs, fget]; omega), doS_go (by decide)]
    simp [dec]
theorem jsync_nil {F : Fls} {fu : Int} : jsyncS ⟨F, [], false, fu⟩ = (⟨F, [], false, fu⟩, 0) := by unfold jsyncS; simp
theorem jsync_one {F : Fls} {l : List Chg} (h : l ≠ []) : jsyncS ⟨F, l, false, -1⟩ = (⟨runs l F, [], false, -1⟩, 0) := by
  unfold jsyncS
  rw [if_neg (by simpa using h), syncS_go (by decide)]; simp [dec]
theorem open_on {g0 g1 : List UInt8} (ht : g0.length + g1.length ≤ 4194304) : jopenS ⟨(g0, g1), [], false, -1⟩ = ⟨⟨(g0.take (allB g0).2, []), [], false, -1⟩, 0, (allB g0).1, (allB g0).2⟩ := by
  have hk := (allB_spec g0).1
  have hr : readS ⟨(g0, g1), [], false, -1⟩ 0 = (g0, 0) := by unfold readS DS.now runs fget; simp
  have key : seqS (jopenL g0) ⟨(g0, g1), [], false, -1⟩ = (⟨(g0.take (allB g0).2, []), [], false, -1⟩, 0) := by
    unfold jopenL
    simp only [seqS, jcut_on hk, if_true]
    generalize hl : (if (allB g0).2 = g0.length then [] else [Chg.cut false (allB g0).2]) = l
    have hrl : runs l (g0, g1) = (g0.take (allB g0).2, g1) := by
      subst hl
      split
      · rename_i he; rw [he]; simp [runs]
      · simp [runs, Chg.on, fset, fget]
    have hll : l = [] → (allB g0).2 = g0.length := by
      intro h0; subst hl; by_cases he : (allB g0).2 = g0.length
      · exact he
      · rw [if_neg he] at h0; cases h0
    by_cases h1 : g1 = []
    · subst h1
      have e : jemptyS ⟨(g0, []), l, false, -1⟩ = (⟨(g0, []), l, false, -1⟩, 0) := by
        unfold jemptyS readS DS.now
        simp [hrl, fget]
      simp only [e, if_true]
      by_cases h0 : l = []
      · simp only [h0, jsync_nil, if_true]
        rw [hll h0]; simp
      · simp only [jsync_one h0, if_true, hrl]
    · have e : jemptyS ⟨(g0, g1), l, false, -1⟩ = (⟨(g0, g1), l ++ [.cut true 0], false, -1⟩, 0) := by
        unfold jemptyS readS DS.now
        rw [if_neg (by simp [hrl, fget, h1])]
        unfold cutS DS.now
        rw [if_neg (by simp), if_neg (by simp [hrl, fget]), doS_go (by decide)]
        simp [dec]
      simp only [e, if_true]
      simp only [jsync_one (l := l ++ [Chg.cut true 0]) (by simp), if_true, runs_snoc, hrl]
      simp [Chg.on, fset, fget]
  unfold jopenS
  rw [hr, if_neg (by simp), key, if_neg (by simp)]
theorem open_clean {f0 : List UInt8} {fu : Int} (h : (allB f0).2 = f0.length) : jopenS ⟨(f0, []), [], false, fu⟩ = ⟨⟨(f0, []), [], false, fu⟩, 0, (allB f0).1, f0.length⟩ := by
  have hr : readS ⟨(f0, []), [], false, fu⟩ 0 = (f0, 0) := by unfold readS DS.now runs fget; simp
  have key : seqS (jopenL f0) ⟨(f0, []), [], false, fu⟩ = (⟨(f0, []), [], false, fu⟩, 0) := by
    unfold jopenL
    simp [seqS, jcutS, h, jempty_none, jsyncS]
  unfold jopenS
  rw [hr, if_neg (by simp), key, if_neg (by simp), h]

theorem cut_at (L : List (List UInt8)) (k : Nat) : ∀ j, j ≤ L.length → ∃ n, n ≤ j ∧ (framesB (L.take n)).length ≤ k ∧ ∀ h : n < j, ∀ h2 : n < L.length, k < (framesB (L.take n)).length + 8 + L[n].length := by
  intro j
  induction j with
  | zero => intro _; exact ⟨0, by omega, by simp [framesB], fun h => by omega⟩
  | succ j ih =>
    intro hj
    obtain ⟨n, h1, h2, h3⟩ := ih (by omega)
    by_cases hn : n < j
    · exact ⟨n, by omega, h2, fun _ => h3 hn⟩
    · have : n = j := by omega
      subst this
      have hl := (framesB_lt L n (by omega)).2
      by_cases hk : (framesB (L.take n)).length + 8 + L[n].length ≤ k
      · exact ⟨n + 1, by omega, by omega, fun h => by omega⟩
      · exact ⟨n, by omega, h2, fun _ _ => by omega⟩
theorem allB_frames {L : List (List UInt8)} (h : okR L) : allB (framesB L) = (L, (framesB L).length) := by
  have := all_cut L h L.length (framesB L).length (Nat.le_refl _) (Nat.le_refl _) (by simp) (fun hh => by omega)
  simpa using this
/-- Records, and of others a beginning of their frames. -/
theorem allB_torn {A L : List (List UInt8)} (hA : okR A) (hL : okR L) {m : Nat} (hm : m ≤ (framesB L).length) :
    ∃ j, j ≤ L.length ∧ allB (framesB A ++ (framesB L).take m) = (A ++ L.take j, (framesB (A ++ L.take j)).length) ∧ (framesB A ++ (framesB L).take m).take (framesB (A ++ L.take j)).length = framesB (A ++ L.take j) := by
  have ok : okR (A ++ L) := fun s hs => (List.mem_append.1 hs).elim (hA s) (hL s)
  have hfr : framesB A ++ (framesB L).take m = (framesB (A ++ L)).take ((framesB A).length + m) := by rw [framesB_app, List.take_length_add_append]
  obtain ⟨n, h1, h2, h3⟩ := cut_at L m L.length (Nat.le_refl _)
  have e : (A ++ L).take (A.length + n) = A ++ L.take n := List.take_length_add_append n
  have hlen : (framesB (A ++ L)).length = (framesB A).length + (framesB L).length := by rw [framesB_app, List.length_append]
  have hlen2 : (framesB (A ++ L.take n)).length = (framesB A).length + (framesB (L.take n)).length := by rw [framesB_app, List.length_append]
  have := all_cut (A ++ L) ok (A.length + n) ((framesB A).length + m) (by simp; omega) (by omega) (by rw [e, hlen2]; omega) (fun h => by
    rw [e, hlen2]
    have hn : n < L.length := by simp at h; omega
    have := h3 hn hn
    have eg : (A ++ L)[A.length + n] = L[n] := by rw [List.getElem_append_right (by omega)]; simp
    rw [eg]; omega)
  rw [e, ← hfr] at this
  refine ⟨n, h1, this, ?_⟩
  have hs := (allB_spec (framesB A ++ (framesB L).take m)).2.1
  rw [this] at hs
  exact hs.symm

/-! ## The power again -/
theorem on_none {F : Fls} {q : List Int} {fu : Int} : onS ⟨F, [], true, fu⟩ q = (⟨F, [], false, -1⟩, 0) := by
  unfold onS
  simp [runs]
theorem pick_le (q : List Int) (i : Nat) (n : Nat) : (pickS q i ((n : Int) + 1)).toNat ≤ n := by
  have := pickS_lt q i (among := (n : Int) + 1) (by omega)
  omega
theorem on_app {F : Fls} {f : Bool} {b : List UInt8} {q : List Int} {fu : Int} : ∃ m, m ≤ b.length ∧ onS ⟨F, [.app f b], true, fu⟩ q = (⟨(Chg.app f (b.take m)).on F, [], false, -1⟩, 0) := by
  unfold onS
  have hk := pick_le q 0 1
  simp only [Bool.true_eq_false, if_false, List.length_cons, List.length_nil, Nat.zero_add]
  generalize hkk : (pickS q 0 ((1 : Nat) + 1)).toNat = k at *
  match k, hk with
  | 0, _ => exact ⟨_, pick_le q 1 b.length, by simp [runs]⟩
  | 1, _ => exact ⟨b.length, Nat.le_refl _, by simp [runs]⟩
theorem on_ren {F : Fls} {q : List Int} {fu : Int} : onS ⟨F, [.ren], true, fu⟩ q = (⟨F, [], false, -1⟩, 0) ∨ onS ⟨F, [.ren], true, fu⟩ q = (⟨(F.2, []), [], false, -1⟩, 0) := by
  unfold onS
  have hk := pick_le q 0 1
  simp only [Bool.true_eq_false, if_false, List.length_cons, List.length_nil, Nat.zero_add]
  generalize hkk : (pickS q 0 ((1 : Nat) + 1)).toNat = k at *
  match k, hk with
  | 0, _ => exact .inl (by simp [runs])
  | 1, _ => exact .inr (by simp [runs, Chg.on])
end Go.Proofs.Ytjkmblbonambjaa
