/- The statement of JournalFull: where the disk has no room nothing is changed, and the journal goes on: where what it reads is of bulk at most 1048576: true, and the input reads as it did. -/
import Derived.Test.YtjkmblbonambjaaSJFull
import Derived.Test.YtjkmblbonambjaaJKeeps
namespace Go.Proofs.Ytjkmblbonambjaa
set_option maxRecDepth 100000
open Go.ChangeShapes Go.WideShapes Go.ChangeAt Go.RowKit

/-- A block of byte slices, each in a block of bytes. -/
def BK (w : World) (g : Nat) (vs : List (Option Addr × Nat × Nat)) (L : List (List UInt8)) (k : Nat) : Prop :=
  blk w g 29 (vs.map slv ++ List.replicate k (.slice none 0 0)) ∧ vs.length = L.length ∧ ∀ (i : Nat) (v : Option Addr × Nat × Nat) (l : List UInt8), vs[i]? = some v → L[i]? = some l → TB (fun _ => True) w v l
section
variable {w w' : World} {g k : Nat} {vs : List (Option Addr × Nat × Nat)} {L : List (List UInt8)}
theorem BK.keep {T : List TypeId} {B : Nat} (h : BK w g vs L k) (hk : Keep T B w w') (h1 : 5 ∉ T) (h2 : 29 ∉ T) : BK w' g vs L k :=
  ⟨hk.blk h.1 (.inr h2), h.2.1, fun i v l hv hl => (h.2.2 i v l hv hl).keep hk h1⟩
theorem BK.below (h : BK w g vs L k) (hb : Below w.heap.size w w') : BK w' g vs L k := h.keep (T := []) (B := 0) (Keep.of hb) (by simp) (by simp)
theorem BK.rbb (h : BK w g vs L 0) : RBB w (some ⟨g, 0, none⟩) L.length L.length vs L := by
  have hb := h.1
  rw [List.replicate_zero, List.append_nil] at hb
  refine ⟨⟨by simp [h.2.1], Nat.le_refl _, fun _ => ⟨g, 0, rfl⟩, (fun hh => by cases hh), fun i u hu => ?_⟩, h.2.1, fun i v l hv hl => (h.2.2 i v l hv hl).rb⟩
  rw [slotA_some, hb.cell, Nat.zero_add]; exact hu
end
theorem vast_rep (n : Nat) (s : List UInt8) : vast (List.replicate n s) = n * s.length := by
  induction n with
  | zero => simp [vast]
  | succ n ih => rw [List.replicate_succ]; simp only [vast, ih]; rw [Nat.add_mul]; omega
abbrev zeros : List UInt8 := List.replicate 4096 0
theorem okBig (k : Nat) : okR (List.replicate k zeros) := by
  intro s hs
  rw [(List.mem_replicate.1 hs).2, List.length_replicate]; omega
theorem lenBig (k : Nat) : (framesB (List.replicate k zeros)).length = k * 4104 := by
  rw [framesB_len, vast_rep, List.length_replicate, List.length_replicate]; omega

section
attribute [local irreducible] bin un conv call callV blt slc fldA fld idxA idx lkp mUpd mEnt eSt rng nxt ent ext alc box bld bldS ld sto nilC mkMap mkS ifc pick rdy wts gsel sti cond retM Gives cCode cGrp cSeq cOp
theorem cvUI8i {a : Int} {w : World} {K : KV} (h0 : 0 ≤ a ∧ a ≤ 255) (h : K (.int .i64 a) w) : conv Try.prog 5 3 (.int .u8 a) K w :=
  conv_int Try.underlying5 Try.underlying3 (by rw [wrap_i64 (by omega) (by omega)]; exact h)

set_option maxHeartbeats 4000000 in
theorem full5_law {a0 : Option Addr} {n0 c0 : Nat} {vs : List (Option Addr × Nat × Nat)} {L : List (List UInt8)} {left : Int} {w : World} {K : KV} (r0 : RBB w a0 n0 c0 vs L) (hn : n0 ≤ 1000000000000) (hv : vast L ≤ 1000000000000) (hx : 0 ≤ left ∧ left ≤ 255)
    (h : ∀ w', Below w.heap.size w w' → K (.bool true) w') : call Try.prog 5 #[.slice a0 n0 c0, .int .u8 left] K w := by
  have hl0 := r0.lenL
  refine call_of leatlaw05_JournalFull_go (leatlaw05_JournalFull_in ?_)
  have wk : ∀ {K' : KV} {w' : World}, Below w.heap.size w w' → (∀ w'', Below w.heap.size w w'' → K' (.bool true) w'') → call Try.prog 20 #[] K' w' := fun hb hK => works5_c fun w'' hb2 => hK w'' (hb.trans (hb2.mono hb.size))
  refine vast_c r0 hn hv ?_
  by_cases hbig : (4096 : Int) < n0 + vast L
  · (repeat (first | refine cond_t (by omega) ?_))
    exact wk (Below.refl _ _) h
  have okL : okR L := by
    intro s hs
    obtain ⟨i, hi, rfl⟩ := List.getElem_of_mem hs
    have := vast_take L i L[i] (List.getElem?_eq_getElem hi)
    omega
  (repeat (first | refine cond_f (by omega) ?_))
  refine new_c ?_
  intro w1 p hd1 b1 hp
  refine open_c hd1 (by simp) ?_ (fun hh => absurd (by rw [open_zero]) hh)
  intro _ w2 q a2 n2 c2 vs2 hd2 k2 L2 hj2 hq2
  rw [open_zero] at hd2 L2 hj2
  have S1 := b1.size
  have W2 : Below w.heap.size w w2 := b1.trans ((k2.below S1).mono (Nat.le_refl _))
  have f1 := sz_frames L
  have hszL : sz L ≤ 4096 := by unfold sz; omega
  (repeat (first | refine eqJ_nil ?_ | refine bin_neq ?_ | refine ext3_a ?_ | refine ext3_b ?_ | refine ext3_c ?_ | refine pick_F ?_ | refine gsel_Fn ?_))
  refine add_c (J := ⟨⟨([], []), [], false, -1⟩, 0, false⟩) hd2 hj2 (r0.below W2 (Nat.le_refl _)) (by omega) hv (by simp) ⟨by simp, by simp⟩ (by omega) ?_
  have e3 : jaddS ⟨⟨([], []), [], false, -1⟩, 0, false⟩ L = (⟨⟨(framesB L, []), [], false, -1⟩, (framesB L).length, false⟩, 0) := by
    by_cases hne : L = []
    · rw [hne, jadd_nil rfl]; simp [framesB]
    · rw [jadd_go okL hne (by simp [tot]; omega), if_neg (by decide)]; simp [dec]
  rw [e3]
  intro w3 hd3 hj3 k3
  have W3 := W2.trans (k3.below W2.size)
  (repeat (first | refine bin_neq ?_ | refine pick_F ?_ | refine cond_F ?_))
  refine jsize_c (size := ((framesB L).length : Int)) hj3 ?_
  refine leatlaw05_JournalFull_A1_r ?_
  obtain ⟨ii, hi, hz, hsz, hby⟩ := info_parts info_sl
  refine mkSN (n := 1021) Try.underlying50 hi hz hsz hby rfl rfl rfl (by decide) (by decide) ?_
  intro w4 hb4 b4 S4
  have W4 := W3.trans (b4.mono W3.size)
  refine leatlaw05_JournalFull_L1_r (Inv := fun i wr => ∃ (j : Nat) (vs' : List (Option Addr × Nat × Nat)), j ≤ 1021 ∧ i = .int .i64 (j : Nat) ∧ BK wr w3.heap.size vs' (List.replicate j zeros) (1021 - j) ∧ Below w3.heap.size w3 wr)
    (μ := fun i _ => 1021 - (intOf i).toNat) ⟨0, [], by omega, rfl, ⟨hb4, rfl, fun i v l hv => by simp at hv⟩, b4⟩ ?_
  rintro _ _ w5 m ⟨j, vs', hj, rfl, hk5, b5⟩ hm
  by_cases hjn : j < 1021
  · (repeat (first | refine len26 ?_ | refine bin_lss ?_ | refine cond_t (by omega) ?_))
    obtain ⟨i8, hi8, hz8, hsz8, hby8⟩ := info_parts info_u8
    refine mkSN (n := 4096) Try.underlying29 hi8 hz8 hsz8 hby8 rfl rfl rfl (by decide) (by decide) ?_
    intro w6 hb6 b6 S6
    have hk6 := hk5.below b6
    have hv6 : vs'.length = j := by have := hk5.2.1; simpa using this
    refine idxRow (s := 1) Try.underlying50 size_sl (by omega) (by omega) ?_
    refine sto1 size_sl hk6.1 (by simp; omega) rfl ?_
    intro w7 hb7 o7
    have e7 : (vs'.map slv ++ List.replicate (1021 - j) (Value.slice none 0 0)).set (0 + ((j : Nat) : Int).toNat * 1) (Value.slice (some (⟨w5.heap.size, 0, none⟩ : Addr)) 4096 4096) = (vs' ++ [(some (⟨w5.heap.size, 0, none⟩ : Addr), 4096, 4096)]).map slv ++ List.replicate (1021 - (j + 1)) (Value.slice none 0 0) := by
      rw [show 1021 - j = (1021 - (j + 1)) + 1 by omega, List.replicate_succ, Int.toNat_natCast, Nat.zero_add, Nat.mul_one, List.set_append_right _ _ (by simp; omega)]
      simp [hv6, slv]
    rw [e7] at hb7
    have K7 : Keep [29] 0 w6 w7 := o7.keep hk6.1 (by simp) (by omega)
    (repeat (first | refine add64 (by omega) (by omega) ?_))
    refine ⟨⟨j + 1, vs' ++ [(some ⟨w5.heap.size, 0, none⟩, 4096, 4096)], by omega, by simp, ⟨hb7, by simp [hv6], fun i v l hv hl => ?_⟩, (b5.trans (b6.mono b5.size)).trans o7.below⟩, by rw [hm]; simp only [intOf]; omega⟩
    have hlr : l = zeros := by
      rw [List.getElem?_replicate] at hl
      split at hl
      · cases hl; rfl
      · cases hl
    subst hlr
    by_cases hi : i < j
    · rw [List.getElem?_append_left (by omega)] at hv
      exact (hk6.2.2 i v zeros hv (by rw [List.getElem?_replicate, if_pos hi])).keep K7 (by decide)
    · rw [List.getElem?_append_right (by omega)] at hv
      have h0 : i - vs'.length = 0 := by
        have := (List.getElem?_eq_some_iff.1 hv).1
        simpa using this
      rw [h0] at hv
      simp at hv
      subst hv
      exact (TB.of_blk (Z := fun _ => True) hb6 (by simp [u8v]) (by simp) (Nat.le_refl _) trivial).keep K7 (by decide)
  have : j = 1021 := by omega
  subst this
  clear hm
  have W5 := W3.trans (b5.mono W3.size)
  have hd5 := hd3.below b5
  have hj5 := hj3.below b5
  have rb5 := hk5.rbb
  rw [List.length_replicate] at rb5
  have hfl : (framesB (List.replicate 1021 zeros)).length = 4190184 := by rw [lenBig]
  have hvb : vast (List.replicate 1021 zeros) = 4182016 := by rw [vast_rep, List.length_replicate]
  have hq1 : w.heap.size ≤ q := by omega
  obtain ⟨k, hk⟩ : ∃ k : Nat, 1 + left % 200 = (k : Int) := ⟨(1 + left % 200).toNat, by omega⟩
  have hk1 : 1 ≤ k ∧ k ≤ 200 := by omega
  have okK := okBig k
  have lenK := lenBig k
  have hvk : vast (List.replicate k zeros) = k * 4096 := by rw [vast_rep, List.length_replicate]
  -- what a Compact that is answered OK leads to
  by_cases hfit : (framesB L).length ≤ 4120
  · have okB : okR (L ++ List.replicate 1021 zeros) := fun s hs => (List.mem_append.1 hs).elim (okL s) (okBig 1021 s)
    (repeat (first | refine len26 ?_ | refine leatlaw05_JournalFull_P1_r ?_ | refine bin_lss ?_ | refine bin_gtr ?_ | refine cond_F ?_ | refine cond_f (by omega) ?_))
    refine add_c (J := ⟨⟨(framesB L, []), [], false, -1⟩, (framesB L).length, false⟩) hd5 hj5 rb5 (by omega) (by omega) (by simp) ⟨by dsimp only; omega, by dsimp only; omega⟩ hq1 ?_
    rw [jadd_go (okBig 1021) (by simp) (by have : tot (framesB L, []) = (framesB L).length := rfl; omega), if_neg (by decide)]
    intro w6 hd6 hj6 k6
    have W6 := W5.trans (k6.below W5.size)
    have hk6 := hk5.keep k6 (by decide) (by decide)
    have hd6 : DK (fun _ => True) w6 w.heap.size p ⟨(framesB (L ++ List.replicate 1021 zeros), []), [], false, -1⟩ := by rw [framesB_app]; exact hd6
    have hj6 : JR w6 p q (framesB (L ++ List.replicate 1021 zeros)).length false := by rw [framesB_app, List.length_append]; simpa using hj6
    have hfl6 : (framesB (L ++ List.replicate 1021 zeros)).length = (framesB L).length + 4190184 := by rw [framesB_app, List.length_append, hfl]
    refine add64 (by omega) (by omega) ?_
    refine bin_leq ?_
    refine bin_eql ?_
    refine bin_neqBF Try.underlying4 (iff_of_true (by omega) rfl) ?_
    have hp : ((framesB L).length : Int) + 4190184 ≤ 4194304 := by omega
    refine gsel_Fn ?_
    refine un_notD ?_
    refine gsel_pf (fun hh => hh hp) ?_
    refine gsel_Fn ?_
    refine pick_f (fun hh => hh hp) ?_
    refine pick_F ?_
    refine cond_F ?_
    refine cvUI8i hx ?_
    refine rem_nn hx.1 (by decide) ?_
    refine add64 (by omega) (by omega) ?_
    rw [hk]
    have rb6 := hk6.rbb
    rw [List.length_replicate] at rb6
    refine slcBB0 rb6 (by omega) ?_
    intro rk6
    rw [List.take_replicate, Nat.min_eq_left (by omega)] at rk6
    refine compact_c (J := ⟨⟨(framesB (L ++ List.replicate 1021 zeros), []), [], false, -1⟩, (framesB (L ++ List.replicate 1021 zeros)).length, false⟩) hd6 hj6 rk6 (by omega) (by omega) (by simp) hq1 ?_
    by_cases hroom : (framesB L).length + 4190184 + k * 4104 ≤ 4194304
    · rw [jcomp_go okK (by omega), if_neg (by decide), if_neg (by decide)]
      intro w7 hd7 hj7 k7
      have W7 := W6.trans (k7.below W6.size)
      refine leatlaw05_JournalFull_A2_r ?_
      refine gsel_pt hp ?_
      refine add64 (by omega) (by omega) ?_
      refine cvUI8i hx ?_
      refine rem_nn hx.1 (by decide) ?_
      refine add64 (by omega) (by omega) ?_
      refine mul64 (by omega) (by omega) ?_
      refine add64 (by omega) (by omega) ?_
      refine bin_gtr ?_
      refine pick_t hp ?_
      refine leatlaw05_JournalFull_A3_r ?_
      refine cond_f (by omega) ?_
      refine leatlaw05_JournalFull_P2_r ?_
      refine bin_neq ?_
      refine gsel_nf (fun hh => hh rfl) ?_
      refine jwhole_c (br := false) hj7 ?_
      refine un_not ?_
      refine pick_f (fun hh => hh rfl) ?_
      refine cond_F ?_
      have eo : jopenS ⟨(framesB (List.replicate k zeros), []), [], false, -1⟩ = ⟨⟨(framesB (List.replicate k zeros), []), [], false, -1⟩, 0, List.replicate k zeros, (framesB (List.replicate k zeros)).length⟩ := by
        rw [open_clean (by rw [allB_frames okK]), allB_frames okK]
      refine open_c (D := ⟨(framesB (List.replicate k zeros), []), [], false, -1⟩) hd7 (by simp) ?_ (fun hh => absurd (by rw [eo]) hh)
      intro _ w8 q8 a8 n8 c8 vs8 hd8 k8 L8 hj8 hq8
      rw [eo] at L8
      have L8 : OBB w8 w7.heap.size a8 n8 c8 vs8 (List.replicate k zeros) := L8
      have h8 := obb_len L8
      rw [List.length_replicate] at h8
      have W8 := W7.trans (k8.below W7.size)
      refine ext3_a ?_
      refine ext3_b ?_
      refine ext3_c ?_
      refine bin_neq ?_
      refine cond_f (fun hh => hh rfl) ?_
      refine bin_eql ?_
      refine cond_t rfl ?_
      refine len26 ?_
      refine cvUI8i hx ?_
      refine rem_nn hx.1 (by decide) ?_
      refine add64 (by omega) (by omega) ?_
      refine bin_eql ?_
      have hke : (n8 : Int) = 1 + left % 200 := by omega
      refine gsel_pt hke ?_
      refine wk W8 ?_
      intro w9 b9
      refine pick_t hke ?_
      exact h w9 b9
    · rw [jcomp_full okK (by omega)]
      intro w7 hd7 hj7 k7
      have W7 := W6.trans (k7.below W6.size)
      refine leatlaw05_JournalFull_A2_r ?_
      refine gsel_pt hp ?_
      refine add64 (by omega) (by omega) ?_
      refine cvUI8i hx ?_
      refine rem_nn hx.1 (by decide) ?_
      refine add64 (by omega) (by omega) ?_
      refine mul64 (by omega) (by omega) ?_
      refine add64 (by omega) (by omega) ?_
      refine bin_gtr ?_
      refine pick_t hp ?_
      refine leatlaw05_JournalFull_A3_r ?_
      refine cond_t (by omega) ?_
      refine leatlaw05_JournalFull_P2_r ?_
      refine bin_neq ?_
      refine gsel_nf (fun hh => hh rfl) ?_
      refine jwhole_c (br := false) hj7 ?_
      refine un_not ?_
      refine pick_f (fun hh => hh rfl) ?_
      refine cond_F ?_
      have eo : jopenS ⟨(framesB (L ++ List.replicate 1021 zeros), []), [], false, -1⟩ = ⟨⟨(framesB (L ++ List.replicate 1021 zeros), []), [], false, -1⟩, 0, L ++ List.replicate 1021 zeros, (framesB (L ++ List.replicate 1021 zeros)).length⟩ := by
        rw [open_clean (by rw [allB_frames okB]), allB_frames okB]
      refine open_c (D := ⟨(framesB (L ++ List.replicate 1021 zeros), []), [], false, -1⟩) hd7 (by simp) ?_ (fun hh => absurd (by rw [eo]) hh)
      intro _ w8 q8 a8 n8 c8 vs8 hd8 k8 L8 hj8 hq8
      rw [eo] at L8
      have L8 : OBB w8 w7.heap.size a8 n8 c8 vs8 (L ++ List.replicate 1021 zeros) := L8
      have h8 := obb_len L8
      rw [List.length_append, List.length_replicate] at h8
      have W8 := W7.trans (k8.below W7.size)
      refine ext3_a ?_
      refine ext3_b ?_
      refine ext3_c ?_
      refine bin_neq ?_
      refine cond_f (fun hh => hh rfl) ?_
      refine bin_eql ?_
      refine cond_f (fun hh => absurd (show (7 : Int) = 0 from hh) (by decide)) ?_
      refine len26 ?_
      refine len26 ?_
      refine add64 (by omega) (by omega) ?_
      refine bin_eql ?_
      have hke : (n8 : Int) = (n0 : Int) + 1021 := by omega
      refine gsel_pt hke ?_
      refine begins5_c (r0.below W8 (Nat.le_refl _)) L8.rbb (by omega) (List.prefix_append _ _) ?_
      intro w9 b9
      have W9 := W8.trans (b9.mono W8.size)
      refine pick_t hke ?_
      refine gsel_T ?_
      refine wk W9 ?_
      intro w10 b10
      refine pick_T ?_
      exact h w10 b10
  · (repeat (first | refine len26 ?_ | refine leatlaw05_JournalFull_P1_r ?_ | refine bin_lss ?_ | refine bin_gtr ?_ | refine cond_F ?_ | refine cond_f (by omega) ?_))
    refine add_c (J := ⟨⟨(framesB L, []), [], false, -1⟩, (framesB L).length, false⟩) hd5 hj5 rb5 (by omega) (by omega) (by simp) ⟨by dsimp only; omega, by dsimp only; omega⟩ hq1 ?_
    rw [jadd_full (okBig 1021) (by simp) (by have : tot (framesB L, []) = (framesB L).length := rfl; omega)]
    intro w6 hd6 hj6 k6
    have W6 := W5.trans (k6.below W5.size)
    have hk6 := hk5.keep k6 (by decide) (by decide)
    refine add64 (by omega) (by omega) ?_
    refine bin_leq ?_
    refine bin_eql ?_
    refine bin_neqBF Try.underlying4 (iff_of_false (by omega) (fun hh => absurd (show (7 : Int) = 0 from hh) (by decide))) ?_
    have hp : ¬ ((framesB L).length : Int) + 4190184 ≤ 4194304 := by omega
    refine gsel_Fn ?_
    refine un_notD ?_
    refine gsel_pt hp ?_
    refine bin_neq ?_
    refine gsel_Fn ?_
    refine pick_t hp ?_
    refine pick_F ?_
    refine cond_f (fun hh => hh rfl) ?_
    refine cvUI8i hx ?_
    refine rem_nn hx.1 (by decide) ?_
    refine add64 (by omega) (by omega) ?_
    rw [hk]
    have rb6 := hk6.rbb
    rw [List.length_replicate] at rb6
    refine slcBB0 rb6 (by omega) ?_
    intro rk6
    rw [List.take_replicate, Nat.min_eq_left (by omega)] at rk6
    refine compact_c (J := ⟨⟨(framesB L, []), [], false, -1⟩, (framesB L).length, false⟩) hd6 hj6 rk6 (by omega) (by omega) (by simp) hq1 ?_
    rw [jcomp_go okK (by omega), if_neg (by decide), if_neg (by decide)]
    intro w7 hd7 hj7 k7
    have W7 := W6.trans (k7.below W6.size)
    refine leatlaw05_JournalFull_A2_r ?_
    refine gsel_pf hp ?_
    refine pick_f hp ?_
    refine leatlaw05_JournalFull_A3_r ?_
    refine cond_F ?_
    refine leatlaw05_JournalFull_P2_r ?_
    refine bin_neq ?_
    refine gsel_nf (fun hh => hh rfl) ?_
    refine jwhole_c (br := false) hj7 ?_
    refine un_not ?_
    refine pick_f (fun hh => hh rfl) ?_
    refine cond_F ?_
    have eo : jopenS ⟨(framesB (List.replicate k zeros), []), [], false, -1⟩ = ⟨⟨(framesB (List.replicate k zeros), []), [], false, -1⟩, 0, List.replicate k zeros, (framesB (List.replicate k zeros)).length⟩ := by
      rw [open_clean (by rw [allB_frames okK]), allB_frames okK]
    refine open_c (D := ⟨(framesB (List.replicate k zeros), []), [], false, -1⟩) hd7 (by simp) ?_ (fun hh => absurd (by rw [eo]) hh)
    intro _ w8 q8 a8 n8 c8 vs8 hd8 k8 L8 hj8 hq8
    rw [eo] at L8
    have L8 : OBB w8 w7.heap.size a8 n8 c8 vs8 (List.replicate k zeros) := L8
    have h8 := obb_len L8
    rw [List.length_replicate] at h8
    have W8 := W7.trans (k8.below W7.size)
    refine ext3_a ?_
    refine ext3_b ?_
    refine ext3_c ?_
    refine bin_neq ?_
    refine cond_f (fun hh => hh rfl) ?_
    refine bin_eql ?_
    refine cond_t rfl ?_
    refine len26 ?_
    refine cvUI8i hx ?_
    refine rem_nn hx.1 (by decide) ?_
    refine add64 (by omega) (by omega) ?_
    refine bin_eql ?_
    have hke : (n8 : Int) = 1 + left % 200 := by omega
    refine gsel_pt hke ?_
    refine wk W8 ?_
    intro w9 b9
    refine pick_t hke ?_
    exact h w9 b9
end

set_option maxRecDepth 100000 in
theorem journalFull_contract (H : Type) (enc : TypeId × Value → H) (W : World) (base : Nat) (args : Array Value) (ds gs : List (DataW H)) (before : List MemPlace)
    (hval0 : ∀ (j : Nat) t v, Try.f5.params[j]? = some t → args[j]? = some v → Value.okWide Try.prog W .any base t v)
    (hW : DataW.Whole enc Try.prog Try.f5.params.toList Rows.journalFullSpec.vars false W args.toList ds gs before) (hk : Rows.uptoSmall H (ds ++ gs) = true) :
    Calls Try.prog 5 args W fun e W' => ∃ v, e = .returned v ∧ Rows.journalFullSpec.post enc Try.prog Try.f5 false true false false W args v W' := by
  have hval := hval0
  have hW' := hW
  obtain ⟨p, q, hA0, hV, rfl, hfz, hnd⟩ := hW
  have hA : DataW.TrodAll enc Try.prog W 0 (fun _ => true) true Try.f5.params.toList args.toList ds p := hA0
  rw [Try.params5] at hA hval
  obtain ⟨v0, vs0, d0, ds0, p0, q0, hargs, rfl, rfl, h0, r0⟩ := trodAll_cons hA
  obtain ⟨v1, vs1, d1, ds1, p1, q1, rfl, rfl, rfl, h1, r1⟩ := trodAll_cons r0
  obtain ⟨rfl, rfl, rfl⟩ := trodAll_nil r1
  obtain rfl : args = #[v0, v1] := by cases args; simp_all
  obtain ⟨rfl, rfl⟩ := trodVars_none hV
  obtain ⟨a0, n0, c0, rfl⟩ := okWide_slice Try.underlying50 (hval 0 50 v0 rfl rfl)
  have k0 := h0
  have lt0 : ∀ x ∈ p0, x.block < W.heap.size := by obtain ⟨m, hm⟩ := k0; exact DataW.trod_lt m _ _ _ hm
  obtain ⟨⟨vs_0, L0, rb0, hbk0⟩, hle0, hmx0⟩ : (∃ vs L, RBB W a0 n0 c0 vs L ∧ n0 + vast L + 1 ≤ Rows.uptoBulk d0) ∧ n0 ≤ c0 ∧ c0 ≤ 9223372036854775807 := by
    obtain ⟨fuel, hf⟩ := h0
    exact rbb_of_trodU (by rfl) hf
  obtain ⟨a1, rfl, rfl, rfl, w1⟩ := open_int Try.underlying5 (hval 1 5 v1 rfl rfl) h1
  have hx1 : 0 ≤ a1 ∧ a1 ≤ 255 := by simpa [Lit.wf, IntKind.min, IntKind.max, IntKind.signed, IntKind.bits] using w1
  have hsm : Rows.uptoBulkAll ([d0, (.lit (.int .u8 a1))] ++ []) ≤ 1048576 := of_decide_eq_true hk
  simp only [List.append_nil, List.nil_append, List.cons_append, Rows.uptoBulkAll] at hsm
  clear hA0 hval0 hval
  have hcalls : Calls Try.prog 5 #[.slice a0 n0 c0, .int .u8 a1] W fun e w' => e = .returned (.bool true) ∧ Below W.heap.size W w' := by
    exact calls_of (full5_law rb0 (by omega) (by omega) hx1 (fun w' hb' => ⟨rfl, hb'⟩))
  refine hcalls.mono fun e W' ⟨he, bel⟩ => ?_
  subst he
  exact ⟨_, rfl, _, _, _, [], _, [], hW', trodAll_mk1 (shut_bool Try.underlying4 _), (trodAll_cons_mk (Below.trod frame_laid (by kernel_rfl) (of_decide_eq_true (by kernel_rfl)) k0 bel lt0) (trodAll_cons_mk (shut_int Try.underlying5 w1) trodAll_mk0)), rfl, bel.frame _, fun h => by cases h⟩

set_option maxRecDepth 100000 in
theorem journalFull_lifted (os : Os) (started : os.Started) (H : Type) (enc : TypeId × Value → H) (F : Stop.Interp) :
    ReturnsInHanded {} Try.checked os 5 .any ((Rows.OpenSpec.upto Rows.journalFullSpec).pre6 enc Try.prog Try.f5 Rows.journalFullUptoRow.domain false) (((Rows.OpenSpec.upto Rows.journalFullSpec).at F).post enc Try.prog Try.f5 false true false false) := by
  refine returnsInHanded_of_cond (C := Try.checked) (s := Rows.OpenSpec.upto Rows.journalFullSpec) (k := Rows.uptoSmall) rfl frame_own started (by kernel_rfl) Try.func5
    (OpenSpec.witness (enc := enc) (C := Try.checked) (s := Rows.OpenSpec.upto Rows.journalFullSpec) (k := Rows.uptoSmall) rfl false ⟨#[], #[.slice none 0 0, .int .u8 0], []⟩ 8 (by kernel_rfl) (by kernel_rfl) (by kernel_rfl)
      (x := ([.nil, (.lit (.int .u8 0))], [], [])) (by kernel_rfl) rfl (by kernel_rfl)) ?_
  intro W base args ds gs before hval hW _ hk _
  exact journalFull_contract H enc W base args ds gs before hval hW hk

theorem journalFull_proved : Rows.JournalFullUptoSaid :=
  OpenClaim.holds_of_cond 5 Try.f5 rfl rfl rfl rfl rfl rfl rfl ⟨rfl, rfl, rfl, rfl, rfl⟩ rfl rfl rfl rfl rfl (by kernel_rfl) Try.func5 (by kernel_rfl)
    (of_decide_eq_true (by kernel_rfl)) (by unfold Func.isWrapper; first | (rw [if_pos (by decide +kernel)]; kernel_rfl) | (rw [if_neg (by decide +kernel)]; exact ⟨rfl, rfl⟩))
    (fun os started H enc _ F => journalFull_lifted os started H enc F)

end Go.Proofs.Ytjkmblbonambjaa
