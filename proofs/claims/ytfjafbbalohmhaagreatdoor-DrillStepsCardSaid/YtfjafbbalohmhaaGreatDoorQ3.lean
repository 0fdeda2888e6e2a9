/- Laid together: EqA R29e SLDst LDst Frame TArg EArg Rn1 Rn2 Rn3 Rn4 Rn5 Rn6 Rn7. -/
import Derived.Test.YtfjafbbalohmhaaGreatDoorQ1
import Derived.DeepKeys
import Derived.Test.YtfjafbbalohmhaaGreatDoorQ2
import Derived.Test.YtfjafbbalohmhaaGreatDoorSh
import Derived.Test.YtfjafbbalohmhaaGreatDoorChecked
import Derived.Test.YtfjafbbalohmhaaGreatDoorRows
import Derived.WalkKit
import Derived.ProofKit
import Derived.OpenShut
import Derived.ShutString
import Derived.ChangeOld
import Derived.Below
import Derived.JoinedCond
import Derived.Deep.Matrix
import Derived.Maps.AppendAt
namespace Go.Proofs.YtfjafbbalohmhaaGreatDoor
set_option maxRecDepth 100000
open Go.RowKit

def contig (P : Program) : List Field → Nat → Nat → Bool
  | [], o, n => Nat.beq o n
  | f :: fs, o, n => Nat.beq f.offset o && contig P fs (o + P.cellsOf f.type) n
def fitsB (P : Program) : Nat → TypeId → List Value → Bool
  | 0, _, _ => false
  | d + 1, t, cs => match P.underlying t with
    | some .bool => (match cs with | [.bool _] => true | _ => false)
    | some (.int q) => (match cs with | [.int q' _] => decide (q' = q) | _ => false)
    | some (.array n e) => (P.info? e).isSome && (Nat.beq cs.length (n * P.cellsOf e) && (List.range n).all fun i => fitsB P d e ((cs.drop (i * P.cellsOf e)).take (P.cellsOf e)))
    | some (.struct fs) => !P.stoodInHeld t && (contig P fs.toList 0 cs.length && fs.toList.all fun f => f.name != "_" && fitsB P d f.type ((cs.drop f.offset).take (P.cellsOf f.type)))
    | _ => false
def valC (P : Program) (t : TypeId) (cs : List Value) : Value := match P.underlying t with
  | some (.array _ _) => .agg cs.toArray
  | some (.struct _) => .agg cs.toArray
  | _ => cs.headD undef
theorem contig_same {P : Program} : ∀ (fs : List Field) (o n m : Nat), contig P fs o n = true → contig P fs o m = true → n = m
  | [], o, n, m, h1, h2 => by
    have := Nat.eq_of_beq_eq_true h1
    have := Nat.eq_of_beq_eq_true h2
    omega
  | f :: fs, o, n, m, h1, h2 => by
    unfold contig at h1 h2
    rw [Bool.and_eq_true] at h1 h2
    exact contig_same fs _ n m h1.2 h2.2
theorem fits_bool {P : Program} {d : Nat} {t : TypeId} {cs : List Value} (hu : P.underlying t = some .bool) (h : fitsB P (d + 1) t cs = true) : ∃ b, cs = [.bool b] := by
  unfold fitsB at h
  simp only [hu] at h
  split at h
  · exact ⟨_, rfl⟩
  · cases h
theorem fits_int {P : Program} {d : Nat} {t : TypeId} {q : IntKind} {cs : List Value} (hu : P.underlying t = some (.int q)) (h : fitsB P (d + 1) t cs = true) : ∃ n, cs = [.int q n] := by
  unfold fitsB at h
  simp only [hu] at h
  split at h
  · have := of_decide_eq_true h; subst this; exact ⟨_, rfl⟩
  · cases h
section
variable {P : Program}
theorem chunk_head {xs : List Value} {off n : Nat} {v : Value} (h : (xs.drop off).take n = [v]) : xs.toArray[off]? = some v := by
  have h1 : ((xs.drop off).take n)[0]? = some v := by rw [h]; rfl
  rw [List.getElem?_take] at h1
  split at h1
  · rw [List.getElem?_drop] at h1
    simpa using h1
  · cases h1
theorem part_fit {e : TypeId} {off d : Nat} {xs : List Value} (w : World) (h : fitsB P d e ((xs.drop off).take (P.cellsOf e)) = true) : (part e xs.toArray off).run P w = .ok (valC P e ((xs.drop off).take (P.cellsOf e))) w := by
  cases d with
  | zero => simp [fitsB] at h
  | succ d =>
    cases hu : P.underlying e with
    | none => simp [fitsB, hu] at h
    | some kd =>
      have hl : (xs.toArray.extract off (off + P.cellsOf e)) = ((xs.drop off).take (P.cellsOf e)).toArray := by
        apply Array.toList_inj.1
        rw [Array.toList_extract]
        simp [List.extract]
      cases kd
      case bool =>
        obtain ⟨b, hb⟩ := fits_bool hu h
        rw [run_part_plain w (by simp [Program.plainKey, hu]) (chunk_head hb), hb]
        simp [valC, hu]
      case int q =>
        obtain ⟨b, hb⟩ := fits_int hu h
        rw [run_part_plain w (by simp [Program.plainKey, hu]) (chunk_head hb), hb]
        simp [valC, hu]
      case array n e' =>
        obtain ⟨i, hi⟩ := info_of_underlying hu
        simp only [part, isAgg, Sem.run_bind, run_underlying hu, run_sizeOf w hi, Result.andThen_ok, Sem.run_pure, if_true, valC, hu, hl]
      case struct fs =>
        obtain ⟨i, hi⟩ := info_of_underlying hu
        simp only [part, isAgg, Sem.run_bind, run_underlying hu, run_sizeOf w hi, Result.andThen_ok, Sem.run_pure, if_true, valC, hu, hl]
      all_goals (simp [fitsB, hu] at h; done)
theorem split_iff {xs ys : List Value} {o c : Nat} (hl : xs.length = ys.length) : (xs.drop o).take c = (ys.drop o).take c ∧ xs.drop (o + c) = ys.drop (o + c) ↔ xs.drop o = ys.drop o := by
  have e : ∀ zs : List Value, zs.drop o = (zs.drop o).take c ++ zs.drop (o + c) := fun zs => by rw [← List.drop_drop]; exact (List.take_append_drop c (zs.drop o)).symm
  constructor
  · rintro ⟨h1, h2⟩
    rw [e xs, e ys, h1, h2]
  · intro h
    refine ⟨by rw [h], ?_⟩
    rw [← List.drop_drop, ← List.drop_drop, h]
def EqB (P : Program) (D d : Nat) : Prop := ∀ (t : TypeId) (w : World) (xs ys : List Value), fitsB P d t xs = true → fitsB P d t ys = true → ∃ r : Bool, (Op.equalIn D t (valC P t xs) (valC P t ys)).run P w = .ok r w ∧ (r = true ↔ xs = ys)
theorem eqF_run {D d : Nat} (IH : EqB P D d) {xs ys : List Value} (hl : xs.length = ys.length) (w : World) : ∀ (fs : List Field) (o : Nat), contig P fs o xs.length = true →
    (∀ f ∈ fs, f.name ≠ "_" ∧ fitsB P d f.type ((xs.drop f.offset).take (P.cellsOf f.type)) = true ∧ fitsB P d f.type ((ys.drop f.offset).take (P.cellsOf f.type)) = true) →
    ∃ r : Bool, (Op.eqFields D xs.toArray ys.toArray fs).run P w = .ok r w ∧ (r = true ↔ xs.drop o = ys.drop o)
  | [], o, hc, _ => by
    have := Nat.eq_of_beq_eq_true hc
    subst this
    exact ⟨true, by simp [Op.eqFields], by rw [List.drop_length, hl, List.drop_length]; simp⟩
  | f :: fs, o, hc, hall => by
    unfold contig at hc
    rw [Bool.and_eq_true] at hc
    have ho := Nat.eq_of_beq_eq_true hc.1
    obtain ⟨hn, hx, hy⟩ := hall f (by simp)
    obtain ⟨r, hr, hiff⟩ := IH f.type w _ _ hx hy
    obtain ⟨r', hr', hiff'⟩ := eqF_run IH hl w fs (o + P.cellsOf f.type) hc.2 (fun g hg => hall g (by simp [hg]))
    simp only [Op.eqFields, hn, ne_eq, not_false_eq_true, if_true, Sem.run_bind, part_fit w hx, part_fit w hy, hr, Result.andThen_ok]
    rw [← split_iff hl (c := P.cellsOf f.type), ← hiff', ← ho, ← hiff]
    cases r
    · exact ⟨false, by simp, by simp⟩
    · exact ⟨r', by simpa using hr', by simp⟩
theorem eqI_run {D d : Nat} (IH : EqB P D d) {xs ys : List Value} {e : TypeId} {n : Nat} (hl : xs.length = ys.length) (hn : xs.length = n * P.cellsOf e) (w : World)
    (hall : ∀ i, i < n → fitsB P d e ((xs.drop (i * P.cellsOf e)).take (P.cellsOf e)) = true ∧ fitsB P d e ((ys.drop (i * P.cellsOf e)).take (P.cellsOf e)) = true) : ∀ (m i : Nat), i + m = n →
    ∃ r : Bool, (Op.eqItems D e (P.cellsOf e) xs.toArray ys.toArray (List.range' i m)).run P w = .ok r w ∧ (r = true ↔ xs.drop (i * P.cellsOf e) = ys.drop (i * P.cellsOf e))
  | 0, i, hi => by
    obtain rfl : i = n := by omega
    exact ⟨true, by simp [Op.eqItems], by rw [← hn, List.drop_length, hl, List.drop_length]; simp⟩
  | m + 1, i, hi => by
    obtain ⟨hx, hy⟩ := hall i (by omega)
    obtain ⟨r, hr, hiff⟩ := IH e w _ _ hx hy
    obtain ⟨r', hr', hiff'⟩ := eqI_run IH hl hn w hall m (i + 1) (by omega)
    simp only [List.range'_succ, Op.eqItems, Sem.run_bind, part_fit w hx, part_fit w hy, hr, Result.andThen_ok]
    rw [← split_iff hl (c := P.cellsOf e), ← hiff]
    rw [show (i + 1) * P.cellsOf e = i * P.cellsOf e + P.cellsOf e by rw [Nat.add_mul, Nat.one_mul]] at hiff'
    rw [← hiff']
    cases r
    · exact ⟨false, by simp, by simp⟩
    · exact ⟨r', by simpa using hr', by simp⟩
theorem eqB_all (D : Nat) : ∀ d : Nat, EqB P (D + d) d
  | 0 => fun t w xs ys hx _ => by simp [fitsB] at hx
  | d + 1 => fun t w xs ys hx hy => by
    have IH := eqB_all D d
    cases hu : P.underlying t with
    | none => simp [fitsB, hu] at hx
    | some kd =>
      cases kd
      case bool =>
        obtain ⟨a, rfl⟩ := fits_bool hu hx
        obtain ⟨b, rfl⟩ := fits_bool hu hy
        refine ⟨a == b, ?_, by simp⟩
        simp only [valC, hu, List.headD_cons]
        exact run_equalIn_bool' w (D + d) t a b hu
      case int q =>
        obtain ⟨a, rfl⟩ := fits_int hu hx
        obtain ⟨b, rfl⟩ := fits_int hu hy
        refine ⟨a == b, ?_, by simp⟩
        simp only [valC, hu, List.headD_cons]
        exact run_equalIn_int w (D + d) t q q a b hu
      case array n e =>
        unfold fitsB at hx hy
        simp only [hu, Bool.and_eq_true, List.all_eq_true, List.mem_range] at hx hy
        have lx := Nat.eq_of_beq_eq_true hx.2.1
        have ly := Nat.eq_of_beq_eq_true hy.2.1
        obtain ⟨i, hi⟩ := Option.isSome_iff_exists.1 hx.1
        obtain ⟨r, hr, hiff⟩ := eqI_run IH (lx.trans ly.symm) lx w (fun i hi => ⟨hx.2.2 i hi, hy.2.2 i hi⟩) n 0 (by omega)
        refine ⟨r, ?_, by simpa using hiff⟩
        simp only [valC, hu]
        rw [show D + (d + 1) = (D + d) + 1 from rfl, run_equalIn_array w (D + d) _ _ hu hi, List.range_eq_range']
        exact hr
      case struct fs =>
        unfold fitsB at hx hy
        simp only [hu, Bool.and_eq_true, List.all_eq_true, Bool.not_eq_true', bne_iff_ne, ne_eq] at hx hy
        have hl := contig_same fs.toList 0 _ _ hx.2.1 hy.2.1
        have hfs : P.fieldsOf t = fs := by simp [Program.fieldsOf, hu]
        obtain ⟨r, hr, hiff⟩ := eqF_run IH hl w fs.toList 0 hx.2.1 (fun f hf => ⟨(hx.2.2 f hf).1, (hx.2.2 f hf).2, (hy.2.2 f hf).2⟩)
        refine ⟨r, ?_, by simpa using hiff⟩
        simp only [valC, hu]
        rw [show D + (d + 1) = (D + d) + 1 from rfl, run_equalIn_struct w (D + d) t _ _ (by rw [hfs]; exact hu) hx.1, hfs]
        exact hr
      all_goals (simp [fitsB, hu] at hx; done)
variable {K : KV} {w : World} {t : TypeId} {cx cy : Bool}
theorem wide_val {cs : List Value} (hw : (match P.underlying t with | some (.array _ _) | some (.struct _) => true | _ => false) = true) : valC P t cs = .agg cs.toArray := by
  unfold valC
  cases hu : P.underlying t with
  | none => simp [hu] at hw
  | some kd => cases kd <;> simp_all
theorem eqA_of {xs ys : List Value} (d : Nat) (hd : d ≤ 10000) (hw : (match P.underlying t with | some (.array _ _) | some (.struct _) => true | _ => false) = true) (hx : fitsB P d t xs = true) (hy : fitsB P d t ys = true) :
    ∃ r : Bool, (Op.equalIn 10000 t (.agg xs.toArray) (.agg ys.toArray)).run P w = .ok r w ∧ (r = true ↔ xs = ys) := by
  have := eqB_all (P := P) (10000 - d) d t w xs ys hx hy
  rw [show 10000 - d + d = 10000 by omega, wide_val hw, wide_val hw] at this
  exact this
theorem bin_eqA {xs ys : List Value} (d : Nat) (hd : d ≤ 10000) (hw : (match P.underlying t with | some (.array _ _) | some (.struct _) => true | _ => false) = true) (hg : P.eqGuardType P.depth t = false)
    (hx : fitsB P d t xs = true) (hy : fitsB P d t ys = true) (h : ∀ r : Bool, (r = true ↔ xs = ys) → K (.bool r) w) : bin P .eql t cx cy (.agg xs.toArray) (.agg ys.toArray) K w := by
  obtain ⟨r, hr, hiff⟩ := eqA_of (w := w) d hd hw hx hy
  exact bin_of (v := .bool r) (by unfold eqG; exact run_eqGuard_agg w _ _ _ _ _ _ hg) (by rw [run_eql_struct w, hr]; rfl) (h r hiff)
end
end Go.Proofs.YtfjafbbalohmhaaGreatDoor
namespace Go.Proofs.YtfjafbbalohmhaaGreatDoor
set_option maxRecDepth 100000
open Go.RowKit
def askC (s : STP) : List Value := [.int .u8 s.kind, .int .u64 s.node, i6 s.to, i6 s.am, .int .u64 s.req, .int .u64 s.of_]
theorem stp_ext {s t : STP} (h1 : s.d = t.d) (h2 : s.who = t.who) (h3 : askC s = askC t) (h4 : s.k = t.k) (h5 : s.j = t.j) (h6 : s.n = t.n) (h7 : s.picks = t.picks) : s = t := by
  obtain ⟨a1, a2, a3, a4, a5, a6, a7, a8, a9, a10, a11, a12⟩ := s
  obtain ⟨b1, b2, b3, b4, b5, b6, b7, b8, b9, b10, b11, b12⟩ := t
  simp only [askC, i6, List.cons.injEq, Value.int.injEq, true_and, and_true] at h1 h2 h3 h4 h5 h6 h7
  obtain ⟨rfl, rfl, rfl, rfl, rfl, rfl⟩ := h3
  subst h1 h2 h4 h5 h6 h7
  rfl
attribute [local irreducible] bin un conv call callV blt slc fldA fld idxA idx lkp mUpd mEnt eSt rng nxt ent ext alc box bld bldS ld sto nilC mkMap mkS ifc pick rdy wts gsel sti cond retM Gives cCode cGrp cSeq cOp
section
variable {w : World} {K : KV}
set_option maxHeartbeats 4000000 in
theorem rsame29_c {s t : STP} {a a' : Option Addr} {c c' : Nat} (hr : RN w a s.picks.length c s.picks) (hr' : RN w a' t.picks.length c' t.picks) (hn : s.picks.length ≤ 4611686018427387904) (hn' : t.picks.length ≤ 4611686018427387904)
    (h : ∀ w' r, (r = true ↔ s = t) → Below w.heap.size w w' → K (.bool r) w') : call Tryz.prog 14 #[.agg (stC s (.slice a s.picks.length c)).toArray, .agg (stC t (.slice a' t.picks.length c')).toArray] K w := by
  refine call_of leatref29_Same_go (leatref29_Same_in ?_)
  refine box_of fun w1 hb b1 s1 => ?_
  have hb : blk w1 w.heap.size 27 (stC s (.slice a s.picks.length c)) := hb
  refine box_of fun w2 hb2 b2 s2 => ?_
  have hb2 : blk w2 w1.heap.size 27 (stC t (.slice a' t.picks.length c')) := hb2
  have hb1 := below_blk b2 hb hb.lt
  have b12 : Below w.heap.size w w2 := b1.trans (b2.mono (by omega))
  have hr2 := RV.below hr b12 (Nat.le_refl _)
  have hr2' := RV.below hr' b12 (Nat.le_refl _)
  generalize w1.heap.size = q2 at *
  generalize hq : w.heap.size = q1 at *
  clear b1 b2 s1 s2 hb hr hr'
  have no : ∀ w', Below q1 w w' → ¬ s = t → K (.bool false) w' := fun w' hb hs => h w' false (by simp [hs]) hb
  (repeat (first | refine fA_Stp_6 ?_ | (refine ld_TL_4 ?_ (by assumption) ?_ ?_; rotate_left; exact rfl) | refine lenN ?_ | refine bin_neq ?_))
  by_cases hl : s.picks.length = t.picks.length
  · refine cond_f (by omega) ?_
    refine leatref29_Same_L1_r (Inv := fun i wr => ∃ j : Nat, i = .int .i64 (j : Nat) ∧ j ≤ s.picks.length ∧ blk wr q1 27 (stC s (.slice a s.picks.length c)) ∧ blk wr q2 27 (stC t (.slice a' t.picks.length c')) ∧
        RN wr a s.picks.length c s.picks ∧ RN wr a' t.picks.length c' t.picks ∧ Below q1 w wr ∧ s.picks.take j = t.picks.take j)
      (μ := fun i _ => s.picks.length - (intOf i).toNat) ⟨0, rfl, by omega, hb1, hb2, hr2, hr2', b12, by simp⟩ ?_
    rintro _ dd wr m ⟨j, rfl, hj, g1, g2, r1, r2, bw, hall⟩ hm
    (repeat (first | refine fA_Stp_6 ?_ | (refine ld_TL_4 ?_ (by assumption) ?_ ?_; rotate_left; exact rfl) | refine lenN ?_ | refine bin_lss ?_))
    by_cases hjn : j < s.picks.length
    · refine cond_t (by omega) ?_
      refine sti_of (fun K hK => fA_Stp_6 hK) ?_
      refine sti_of (fun K hK => ld1 (v := .slice a s.picks.length c) (fun _ => by kernel_rfl) g1.drew rfl hK) ?_
      have hx : (s.picks.map i6)[j]? = some (i6 (s.picks.getD j 0)) := by simp [List.getD, List.getElem?_eq_getElem hjn]
      have hy : (t.picks.map i6)[j]? = some (i6 (t.picks.getD j 0)) := by simp [List.getD, List.getElem?_eq_getElem (show j < t.picks.length by omega)]
      refine sti_of (fun K hK => idx_slc Tryz.underlying25 (fun _ => by kernel_rfl) (by omega) (by omega) r1.some_ hK) ?_
      rw [Int.toNat_natCast]
      refine sti_of (fun K hK => ld_cell (fun _ => by kernel_rfl) (r1.cell _ _ hx) hK) ?_
      refine sti_of (fun K hK => fA_Stp_6 hK) ?_
      refine sti_of (fun K hK => ld1 (v := .slice a' t.picks.length c') (fun _ => by kernel_rfl) g2.drew rfl hK) ?_
      refine sti_of (fun K hK => idx_slc Tryz.underlying25 (fun _ => by kernel_rfl) (by omega) (by omega) r2.some_ hK) ?_
      rw [Int.toNat_natCast]
      refine sti_of (fun K hK => ld_cell (fun _ => by kernel_rfl) (r2.cell _ _ hy) hK) ?_
      unfold i6
      refine sti_of (fun K hK => bin_neq hK) ?_
      have e1 : s.picks.getD j 0 = s.picks[j] := by simp [List.getD, hjn]
      have e2 : t.picks.getD j 0 = t.picks[j] := by simp [List.getD, show j < t.picks.length by omega]
      by_cases he : s.picks.getD j 0 = t.picks.getD j 0
      · refine cond_f (fun hh => hh he) ?_
        refine add64 (by omega) (by omega) ?_
        refine ⟨⟨j + 1, by simp, by omega, g1.drew, g2.drew, RV.drew r1, RV.drew r2, bw.drew, ?_⟩, by rw [hm]; simp [intOf]; omega⟩
        rw [← List.take_append_getElem hjn, ← List.take_append_getElem (show j < t.picks.length by omega), hall, ← e1, ← e2, he]
      · refine cond_t he ?_
        exact no _ bw.drew (fun hh => he (by rw [hh]))
    · obtain rfl : j = s.picks.length := by omega
      refine cond_f (by omega) ?_
      have hpk : s.picks = t.picks := by rwa [List.take_length, hl, List.take_length] at hall
      refine leatref29_Same_P1_r ?_
      have no := no wr bw
      by_cases k1 : s.d = t.d
      · by_cases k2 : s.who = t.who
        · (repeat (first | refine fA_Stp_0 ?_ | refine fA_Stp_1 ?_ | refine fA_Stp_2 ?_ | (refine ld_TL_0 ?_ (by assumption) ?_ ?_; rotate_left; exact rfl) | (refine ld_TL_1 ?_ (by assumption) ?_ ?_; rotate_left; exact rfl) | refine bin_eql ?_ | refine gsel_pt (by omega) ?_ | refine pick_t (by omega) ?_))
          refine ldA (n := 6) (vs := askC s) Tryz.underlying24 rfl (by kernel_rfl) g1 rfl rfl ?_
          refine fA_Stp_2 ?_
          refine ldA (n := 6) (vs := askC t) Tryz.underlying24 rfl (by kernel_rfl) g2 rfl rfl ?_
          refine bin_eqA 3 (by omega) (by kernel_rfl) (by kernel_rfl) (by kernel_rfl) (by kernel_rfl) fun r hrr => ?_
          cases r with
          | true =>
            have k3 := hrr.1 rfl
            by_cases k4 : s.k = t.k
            · by_cases k5 : s.j = t.j
              · have hf := h wr (decide (s.n = t.n)) (by rw [decide_eq_true_eq]; exact ⟨fun hh => stp_ext k1 k2 k3 k4 k5 hh hpk, fun hh => by rw [hh]⟩) bw
                (repeat (first | refine fA_Stp_3 ?_ | refine fA_Stp_4 ?_ | refine fA_Stp_5 ?_ | (refine ld_TL_1 ?_ (by assumption) ?_ ?_; rotate_left; exact rfl) | refine bin_eql ?_ | refine pick_T ?_ | refine gsel_T ?_ | refine gsel_pt (by omega) ?_ | refine pick_t (by omega) ?_))
                exact hf
              · (repeat (first | refine fA_Stp_3 ?_ | refine fA_Stp_4 ?_ | (refine ld_TL_1 ?_ (by assumption) ?_ ?_; rotate_left; exact rfl) | refine bin_eql ?_ | refine pick_T ?_ | refine gsel_T ?_ | refine gsel_pt (by omega) ?_ | refine gsel_pf (by omega) ?_ | refine pick_t (by omega) ?_ | refine pick_f (by omega) ?_))
                exact no (fun hh => k5 (by rw [hh]))
            · (repeat (first | refine fA_Stp_3 ?_ | (refine ld_TL_1 ?_ (by assumption) ?_ ?_; rotate_left; exact rfl) | refine bin_eql ?_ | refine pick_T ?_ | refine pick_F ?_ | refine gsel_T ?_ | refine gsel_F ?_ | refine gsel_pf (by omega) ?_ | refine pick_t (by omega) ?_ | refine pick_f (by omega) ?_))
              exact no (fun hh => k4 (by rw [hh]))
          | false =>
            (repeat (first | refine pick_F ?_ | refine gsel_F ?_ | refine pick_t (by omega) ?_))
            exact no (fun hh => by have := hrr.2 (by rw [hh]); cases this)
        · (repeat (first | refine fA_Stp_0 ?_ | refine fA_Stp_1 ?_ | (refine ld_TL_0 ?_ (by assumption) ?_ ?_; rotate_left; exact rfl) | (refine ld_TL_1 ?_ (by assumption) ?_ ?_; rotate_left; exact rfl) | refine bin_eql ?_ | refine pick_F ?_ | refine gsel_F ?_ | refine gsel_pt (by omega) ?_ | refine gsel_pf (by omega) ?_ | refine pick_t (by omega) ?_ | refine pick_f (by omega) ?_))
          exact no (fun hh => k2 (by rw [hh]))
      · (repeat (first | refine fA_Stp_0 ?_ | (refine ld_TL_0 ?_ (by assumption) ?_ ?_; rotate_left; exact rfl) | refine bin_eql ?_ | refine pick_F ?_ | refine gsel_F ?_ | refine gsel_pf (by omega) ?_ | refine pick_f (by omega) ?_))
        exact no (fun hh => k1 (by rw [hh]))
  · refine cond_t (by omega) ?_
    exact no w2 b12 (fun hh => hl (by rw [hh]))
end
end Go.Proofs.YtfjafbbalohmhaaGreatDoor
namespace Go.Proofs.YtfjafbbalohmhaaGreatDoor
open Go.RowKit
set_option maxRecDepth 100000

def leatlaw30_DrillSteps_P1 (K : KV) : KE := cCode Tryz.prog (cd Tryz.f6 [1, 1, 1, 1, 1, 1]) (retK Tryz.prog Tryz.f6.results.toList K) (fun _ _ _ => False) (retK Tryz.prog Tryz.f6.results.toList K)
def leatlaw30_DrillSteps_L1 (K : KV) : KE := cCode Tryz.prog (cd Tryz.f6 [1, 1, 1, 1, 1, 0, 1, 0]) (leatlaw30_DrillSteps_P1 K) (fun i => @Bool.rec (fun _ => KE) ((fun _ _ _ => False) i) (leatlaw30_DrillSteps_P1 K) (Nat.beq i 0)) (retK Tryz.prog Tryz.f6.results.toList K)
theorem leatlaw30_DrillSteps_k {K : KV} {n0 e1 under2 : Value} {w : World}
    (h : box Tryz.prog 52 e1 (fun e4 w =>
    bin Tryz.prog BinOp.gtr 3 false true under2 (Value.int IntKind.i64 200) (fun A2 w =>
    cond A2
      (call Tryz.prog 19 #[] (fun A3 w =>
      K A3 w) w)
      (ld Tryz.prog 52 e4 (fun A5 w =>
    call Tryz.prog 20 #[n0, A5, under2] (fun A7 w =>
    ld Tryz.prog 52 e4 (fun A9 w =>
    call Tryz.prog 21 #[n0, A9, under2] (fun C1 w =>
    blt Tryz.prog Builtin.len #[40] 3 #[false] #[A7] (fun C3 w =>
    blt Tryz.prog Builtin.len #[40] 3 #[false] #[C1] (fun C5 w =>
    bin Tryz.prog BinOp.neq 3 false false C3 C5 (fun C6 w =>
    cond C6
      (K (Value.bool false) w)
      ((cCode Tryz.prog (cd Tryz.f6 [1, 1, 1, 1, 1, 0, 1, 0]) (cCode Tryz.prog (cd Tryz.f6 [1, 1, 1, 1, 1, 1]) (retK Tryz.prog Tryz.f6.results.toList K) (fun _ _ _ => False) (retK Tryz.prog Tryz.f6.results.toList K)) (fun i => @Bool.rec (fun _ => KE) ((fun _ _ _ => False) i) (cCode Tryz.prog (cd Tryz.f6 [1, 1, 1, 1, 1, 1]) (retK Tryz.prog Tryz.f6.results.toList K) (fun _ _ _ => False) (retK Tryz.prog Tryz.f6.results.toList K)) (Nat.beq i 0)) (retK Tryz.prog Tryz.f6.results.toList K)) [n0, e1, under2, undef, e4, undef, (Value.bool false), A7, C1, (Value.int IntKind.i64 0), under2, A2, undef, n0, A5, under2, A7, n0, A9, under2, C1, A7, C3, C1, C5, C6, undef, undef, undef, undef, undef, undef, undef, undef, undef, undef, undef, undef, undef, undef, undef, undef, undef] w)) w) w) w) w) w) w) w)) w) w) :
    cCode Tryz.prog (cd Tryz.f6 []) (retK Tryz.prog Tryz.f6.results.toList K) (fun _ _ _ => False) (retK Tryz.prog Tryz.f6.results.toList K) [n0, e1, under2, undef, undef, undef, undef, undef, undef, undef, undef, undef, undef, undef, undef, undef, undef, undef, undef, undef, undef, undef, undef, undef, undef, undef, undef, undef, undef, undef, undef, undef, undef, undef, undef, undef, undef, undef, undef, undef, undef, undef, undef] w := Eq.mp (by kernel_rfl) h

theorem leatlaw30_DrillSteps_in {K : KV} {n0 e1 under2 : Value} {w : World}
    (h : box Tryz.prog 52 e1 (fun e4 w =>
    bin Tryz.prog BinOp.gtr 3 false true under2 (Value.int IntKind.i64 200) (fun A2 w =>
    cond A2
      (call Tryz.prog 19 #[] (fun A3 w =>
      K A3 w) w)
      (ld Tryz.prog 52 e4 (fun A5 w =>
    call Tryz.prog 20 #[n0, A5, under2] (fun A7 w =>
    ld Tryz.prog 52 e4 (fun A9 w =>
    call Tryz.prog 21 #[n0, A9, under2] (fun C1 w =>
    blt Tryz.prog Builtin.len #[40] 3 #[false] #[A7] (fun C3 w =>
    blt Tryz.prog Builtin.len #[40] 3 #[false] #[C1] (fun C5 w =>
    bin Tryz.prog BinOp.neq 3 false false C3 C5 (fun C6 w =>
    cond C6
      (K (Value.bool false) w)
      ((leatlaw30_DrillSteps_L1 K) [n0, e1, under2, undef, e4, undef, (Value.bool false), A7, C1, (Value.int IntKind.i64 0), under2, A2, undef, n0, A5, under2, A7, n0, A9, under2, C1, A7, C3, C1, C5, C6, undef, undef, undef, undef, undef, undef, undef, undef, undef, undef, undef, undef, undef, undef, undef, undef, undef] w)) w) w) w) w) w) w) w)) w) w) :
    Gives Tryz.prog 6 #[n0, e1, under2] w K := enter' Tryz.func6 (by kernel_rfl) (Eq.mp (congrArg (fun c => cCode Tryz.prog c (retK Tryz.prog Tryz.f6.results.toList K) (fun _ _ _ => False) (retK Tryz.prog Tryz.f6.results.toList K) [n0, e1, under2, undef, undef, undef, undef, undef, undef, undef, undef, undef, undef, undef, undef, undef, undef, undef, undef, undef, undef, undef, undef, undef, undef, undef, undef, undef, undef, undef, undef, undef, undef, undef, undef, undef, undef, undef, undef, undef, undef, undef, undef] w) (by kernel_rfl : (cd Tryz.f6 []) = (cd Tryz.f6 []))) (leatlaw30_DrillSteps_k h))
theorem leatlaw30_DrillSteps_go : isGo Tryz.prog 6 := ⟨_, Tryz.func6, by kernel_rfl, by kernel_rfl⟩

theorem leatlaw30_DrillSteps_L1_k {K : KV} (B1 : KE) (qc0 : KE) {n0 e1 under2 n3 e4 under5 a7 b8 i9' A1 A2 A3 A4 A5 A6 A7 A8 A9 C0 C1 C2 C3 C4 C5 C6 E3 : Value} {dd : Nat → Value} {w : World}
    (h : blt Tryz.prog Builtin.len #[40] 3 #[false] #[a7] (fun C9 w =>
    bin Tryz.prog BinOp.lss 3 false false i9' C9 (fun D0 w =>
    cond D0
      (hReg (fun S w =>
    hld S (fun k w => idxA Tryz.prog 40 a7 i9' k w) (fun D5 =>
    hld S (fun k w => ld Tryz.prog 27 D5 k w) (fun D6 =>
    hld S (fun k w => idxA Tryz.prog 40 b8 i9' k w) (fun D9 =>
    hld S (fun k w => ld Tryz.prog 27 D9 k w) (fun E0 =>
    call Tryz.prog 14 #[D6, E0] (fun E1 w =>
    hReg (fun S w =>
    hld S (fun k w => un Tryz.prog UnOp.not E1 k w) (fun E2 =>
    cond E2
      (K (Value.bool false) w)
      (bin Tryz.prog BinOp.add 3 false true i9' (Value.int IntKind.i64 1) (fun D2 w =>
    B1 [n0, e1, under2, n3, e4, under5, (dd 6), a7, b8, D2, A1, A2, A3, A4, A5, A6, A7, A8, A9, C0, C1, C2, C3, C4, C5, C6, i9', a7, C9, D0, i9', D2, a7, i9', D5, D6, b8, i9', D9, E0, E1, E2, E3] w) w))) w) w))))) w.drew)
      (qc0 [n0, e1, under2, n3, e4, under5, (dd 6), a7, b8, i9', A1, A2, A3, A4, A5, A6, A7, A8, A9, C0, C1, C2, C3, C4, C5, C6, i9', a7, C9, D0, (dd 30), (dd 31), (dd 32), (dd 33), (dd 34), (dd 35), (dd 36), (dd 37), (dd 38), (dd 39), (dd 40), (dd 41), E3] w)) w) w) :
    cCode Tryz.prog (cd Tryz.f6 [1, 1, 1, 1, 1, 0, 1, 0, 0]) B1 (fun i => @Bool.rec (fun _ => KE) ((fun _ _ _ => False) i) qc0 (Nat.beq i 0)) (retK Tryz.prog Tryz.f6.results.toList K) [n0, e1, under2, n3, e4, under5, (dd 6), a7, b8, i9', A1, A2, A3, A4, A5, A6, A7, A8, A9, C0, C1, C2, C3, C4, C5, C6, (dd 26), (dd 27), (dd 28), (dd 29), (dd 30), (dd 31), (dd 32), (dd 33), (dd 34), (dd 35), (dd 36), (dd 37), (dd 38), (dd 39), (dd 40), (dd 41), E3] w := Eq.mp (by kernel_rfl) h

theorem leatlaw30_DrillSteps_L1_r {K : KV} {n0 e1 under2 n3 e4 under5 A0 a7 b8 i9 A1 A2 A3 A4 A5 A6 A7 A8 A9 C0 C1 C2 C3 C4 C5 C6 C7 C8 C9 D0 D1 D2 D3 D4 D5 D6 D7 D8 D9 E0 E1 E2 E3 : Value} {w : World} (Inv : Value → World → Prop) (μ : Value → World → Nat) (h0 : Inv i9 w)
    (hs : ∀ (i9' : Value) (dd : Nat → Value) (w : World) (m : Nat), Inv i9' w → m = μ i9' w →
    blt Tryz.prog Builtin.len #[40] 3 #[false] #[a7] (fun C9 w =>
    bin Tryz.prog BinOp.lss 3 false false i9' C9 (fun D0 w =>
    cond D0
      (hReg (fun S w =>
    hld S (fun k w => idxA Tryz.prog 40 a7 i9' k w) (fun D5 =>
    hld S (fun k w => ld Tryz.prog 27 D5 k w) (fun D6 =>
    hld S (fun k w => idxA Tryz.prog 40 b8 i9' k w) (fun D9 =>
    hld S (fun k w => ld Tryz.prog 27 D9 k w) (fun E0 =>
    call Tryz.prog 14 #[D6, E0] (fun E1 w =>
    hReg (fun S w =>
    hld S (fun k w => un Tryz.prog UnOp.not E1 k w) (fun E2 =>
    cond E2
      (K (Value.bool false) w)
      (bin Tryz.prog BinOp.add 3 false true i9' (Value.int IntKind.i64 1) (fun D2 w =>
    (Inv D2 w ∧ μ D2 w < m)) w))) w) w))))) w.drew)
      ((leatlaw30_DrillSteps_P1 K) [n0, e1, under2, n3, e4, under5, (dd 6), a7, b8, i9', A1, A2, A3, A4, A5, A6, A7, A8, A9, C0, C1, C2, C3, C4, C5, C6, i9', a7, C9, D0, (dd 30), (dd 31), (dd 32), (dd 33), (dd 34), (dd 35), (dd 36), (dd 37), (dd 38), (dd 39), (dd 40), (dd 41), E3] w)) w) w) :
    leatlaw30_DrillSteps_L1 K [n0, e1, under2, n3, e4, under5, A0, a7, b8, i9, A1, A2, A3, A4, A5, A6, A7, A8, A9, C0, C1, C2, C3, C4, C5, C6, C7, C8, C9, D0, D1, D2, D3, D4, D5, D6, D7, D8, D9, E0, E1, E2, E3] w := by
  refine loop_rule (cd Tryz.f6 [1, 1, 1, 1, 1, 0, 1, 0, 0]) [6, 9, 26, 27, 28, 29, 30, 31, 32, 33, 34, 35, 36, 37, 38, 39, 40, 41] (by kernel_rfl) (fun e2 w2 => Inv (gd e2 9) w2) (fun e2 w2 => μ (gd e2 9) w2) h0 ?_
  intro e' w' hI
  have h := hs (gd e' 9) (fun i => gd e' i) w' _ hI rfl
  have h2 : cCode Tryz.prog (cd Tryz.f6 [1, 1, 1, 1, 1, 0, 1, 0, 0]) (fun e2 w2 => Inv (gd e2 9) w2 ∧ μ (gd e2 9) w2 < μ (gd e' 9) w') (fun i => @Bool.rec (fun _ => KE) ((fun _ _ _ => False) i) (leatlaw30_DrillSteps_P1 K) (Nat.beq i 0)) (retK Tryz.prog Tryz.f6.results.toList K) [n0, e1, under2, n3, e4, under5, (gd e' 6), a7, b8, (gd e' 9), A1, A2, A3, A4, A5, A6, A7, A8, A9, C0, C1, C2, C3, C4, C5, C6, (gd e' 26), (gd e' 27), (gd e' 28), (gd e' 29), (gd e' 30), (gd e' 31), (gd e' 32), (gd e' 33), (gd e' 34), (gd e' 35), (gd e' 36), (gd e' 37), (gd e' 38), (gd e' 39), (gd e' 40), (gd e' 41), E3] w' := leatlaw30_DrillSteps_L1_k (fun e2 w2 => Inv (gd e2 9) w2 ∧ μ (gd e2 9) w2 < μ (gd e' 9) w') (leatlaw30_DrillSteps_P1 K) (Eq.mp (by kernel_rfl) h)
  exact Eq.mp (by kernel_rfl) h2

theorem leatlaw30_DrillSteps_P1_k {K : KV} {n0 e1 under2 n3 e4 under5 A0 a7 b8 i9 A1 A2 A3 A4 A5 A6 A7 A8 A9 C0 C1 C2 C3 C4 C5 C6 C7 C8 C9 D0 D1 D2 D3 D4 D5 D6 D7 D8 D9 E0 E1 E2 E3 : Value} {w : World}
    (h : call Tryz.prog 19 #[] (fun E3 w =>
    K E3 w) w) :
    cCode Tryz.prog (cd Tryz.f6 [1, 1, 1, 1, 1, 1]) (retK Tryz.prog Tryz.f6.results.toList K) (fun _ _ _ => False) (retK Tryz.prog Tryz.f6.results.toList K) [n0, e1, under2, n3, e4, under5, A0, a7, b8, i9, A1, A2, A3, A4, A5, A6, A7, A8, A9, C0, C1, C2, C3, C4, C5, C6, C7, C8, C9, D0, D1, D2, D3, D4, D5, D6, D7, D8, D9, E0, E1, E2, E3] w := Eq.mp (by kernel_rfl) h

theorem leatlaw30_DrillSteps_P1_r {K : KV} {n0 e1 under2 n3 e4 under5 A0 a7 b8 i9 A1 A2 A3 A4 A5 A6 A7 A8 A9 C0 C1 C2 C3 C4 C5 C6 C7 C8 C9 D0 D1 D2 D3 D4 D5 D6 D7 D8 D9 E0 E1 E2 E3 : Value} {w : World}
    (h : call Tryz.prog 19 #[] (fun E3 w =>
    K E3 w) w) :
    leatlaw30_DrillSteps_P1 K [n0, e1, under2, n3, e4, under5, A0, a7, b8, i9, A1, A2, A3, A4, A5, A6, A7, A8, A9, C0, C1, C2, C3, C4, C5, C6, C7, C8, C9, D0, D1, D2, D3, D4, D5, D6, D7, D8, D9, E0, E1, E2, E3] w := by
  delta leatlaw30_DrillSteps_P1
  exact Eq.mp (congrArg (fun c => cCode Tryz.prog c (retK Tryz.prog Tryz.f6.results.toList K) (fun _ _ _ => False) (retK Tryz.prog Tryz.f6.results.toList K) [n0, e1, under2, n3, e4, under5, A0, a7, b8, i9, A1, A2, A3, A4, A5, A6, A7, A8, A9, C0, C1, C2, C3, C4, C5, C6, C7, C8, C9, D0, D1, D2, D3, D4, D5, D6, D7, D8, D9, E0, E1, E2, E3] w) (by kernel_rfl : (cd Tryz.f6 [1, 1, 1, 1, 1, 1]) = (cd Tryz.f6 [1, 1, 1, 1, 1, 1]))) (leatlaw30_DrillSteps_P1_k h)
attribute [irreducible] leatlaw30_DrillSteps_P1 leatlaw30_DrillSteps_L1

end Go.Proofs.YtfjafbbalohmhaaGreatDoor
namespace Go.Proofs.YtfjafbbalohmhaaGreatDoor
set_option maxRecDepth 100000
open Go.RowKit
attribute [local irreducible] bin un conv call callV blt slc fldA fld idxA idx lkp mUpd mEnt eSt rng nxt ent ext alc box bld bldS ld sto nilC mkMap mkS ifc pick rdy wts gsel sti cond retM Gives cCode cGrp cSeq cOp
section
variable {W : World} {K : KV}
def sdS (s : SD) : STP := ⟨s.d, s.who, 0, 0, 0, 0, 0, 0, s.k, s.j, s.n, []⟩
theorem scC_st (s : SD) : scC s = stC (sdS s) (.slice none 0 0) := rfl
set_option maxHeartbeats 4000000 in
theorem drillSteps_lawW (hwk : WkOK Tryz.prog 19 W) (hg : mkAt W) (n : Int) (kind A N : Int) (hA : 0 ≤ A ∧ A ≤ 255) (under : Int)
    (h : ∀ w', Below W.heap.size W w' → K (.bool true) w') : call Tryz.prog 6 #[i6 n, .agg #[.int .u8 kind, .int .u8 A, i6 N], i6 under] K W := by
  refine call_of leatlaw30_DrillSteps_go (leatlaw30_DrillSteps_in ?_)
  refine box_of fun w1 hb b1 s1 => ?_
  have hb : blk w1 W.heap.size 52 [.int .u8 kind, .int .u8 A, i6 N] := hb
  generalize hq0 : W.heap.size = q at *
  unfold i6
  refine bin_gtr ?_
  by_cases hl : 200 < under
  · refine cond_t hl ?_
    exact hwk.use (hq0 ▸ b1) (fun w' b => h w' (hq0 ▸ b))
  refine cond_f hl ?_
  refine ldA (n := 3) (vs := [.int .u8 kind, .int .u8 A, i6 N]) Tryz.underlying52 rfl (by kernel_rfl) hb rfl rfl ?_
  refine steps_c (hg.bel (hq0 ▸ b1)) hA (by omega) fun w2 a c ho b2 => ?_
  have hb2 : blk w2 q 52 [.int .u8 kind, .int .u8 A, i6 N] := below_blk b2 hb hb.lt
  have hlt := hb.lt
  have bq2 : Below q W w2 := b1.trans (b2.mono (by omega))
  refine ldA (n := 3) (vs := [.int .u8 kind, .int .u8 A, i6 N]) Tryz.underlying52 rfl (by kernel_rfl) hb2 rfl rfl ?_
  refine rsteps30_c hA (by omega) fun w3 a' c' ho' b3 => ?_
  have bq3 : Below q W w3 := bq2.trans (b3.mono (by have := b2.size; omega))
  have ho3 := ho.bel b3
  generalize stepsD n kind A N under = L at *
  refine len_slc Tryz.underlying40 ?_
  refine len_slc Tryz.underlying40 ?_
  refine bin_neq ?_
  refine cond_f (fun hh => hh rfl) ?_
  refine leatlaw30_DrillSteps_L1_r (Inv := fun i wr => ∃ j : Nat, i = .int .i64 (j : Nat) ∧ j ≤ L.length ∧ Below w3.heap.size w3 wr) (μ := fun i _ => L.length - (intOf i).toNat) ⟨0, rfl, by omega, Below.refl _ _⟩ ?_
  rintro _ dd w4 m ⟨j, rfl, hj, b4⟩ hm
  refine len_slc Tryz.underlying40 ?_
  refine bin_lss ?_
  by_cases hjl : j < L.length
  · refine cond_t (by omega) ?_
    obtain ⟨g, cur, rfl, op⟩ := own_open (ho3.bel b4) (by omega)
    obtain ⟨g', cur', rfl, op'⟩ := own_open (ho'.bel b4) (by omega)
    have hx := List.getElem?_eq_getElem hjl
    have e1 : (cur.drop (0 + ((j : Nat) : Int).toNat * 12)).take 12 = scC L[j] := by rw [Int.toNat_natCast, Nat.zero_add]; exact op.elem scC_len rfl hx
    have e2 : (cur'.drop (0 + ((j : Nat) : Int).toNat * 12)).take 12 = scC L[j] := by rw [Int.toNat_natCast, Nat.zero_add]; exact op'.elem scC_len rfl hx
    refine hReg_of (fun x => blk x g 27 cur ∧ blk x g' 27 cur') ⟨op.blk, op'.blk⟩ ?_
    refine hld_of (v := .pointer (some ⟨g, 0 + ((j : Nat) : Int).toNat * 12, none⟩)) (fun x hx K hK => idxRow Tryz.underlying40 (fun _ => by kernel_rfl) (by omega) (by omega) hK) ?_
    refine hld_of (v := .agg (scC L[j]).toArray) (fun x hx K hK => ldA (n := 12) (vs := scC L[j]) Tryz.underlying27 rfl (by kernel_rfl) hx.1 e1 rfl hK) ?_
    refine hld_of (v := .pointer (some ⟨g', 0 + ((j : Nat) : Int).toNat * 12, none⟩)) (fun x hx K hK => idxRow Tryz.underlying40 (fun _ => by kernel_rfl) (by omega) (by omega) hK) ?_
    refine hld_of (v := .agg (scC L[j]).toArray) (fun x hx K hK => ldA (n := 12) (vs := scC L[j]) Tryz.underlying27 rfl (by kernel_rfl) hx.2 e2 rfl hK) ?_
    rw [scC_st]
    refine rsame29_c (s := sdS L[j]) (t := sdS L[j]) (a := none) (a' := none) (c := 0) (c' := 0) (RV.nil _) (RV.nil _) (by show 0 ≤ _; omega) (by show 0 ≤ _; omega) fun w5 r hrr b5 => ?_
    have hrt : r = true := hrr.2 rfl
    subst hrt
    refine hReg_of (fun _ => True) trivial ?_
    refine hld_of (v := .bool false) (fun x hx K hK => un_not hK) ?_
    refine cond_F ?_
    have hnc := op.nc
    have hcm := op.cm
    unfold maxLen at hcm
    refine add64 (by omega) (by omega) ?_
    exact ⟨⟨j + 1, by simp, by omega, b4.drew.trans (b5.mono b4.size)⟩, by rw [hm]; simp [intOf]; omega⟩
  · refine cond_f (by omega) ?_
    refine leatlaw30_DrillSteps_P1_r ?_
    have b04 : Below q W w4 := bq3.trans (b4.mono (by have := bq3.size; omega))
    refine hwk.use (hq0 ▸ b04) fun w' b => ?_
    exact h w' (hq0 ▸ b)
end
end Go.Proofs.YtfjafbbalohmhaaGreatDoor
namespace Go.Proofs.YtfjafbbalohmhaaGreatDoor
set_option maxRecDepth 100000
open Go.ChangeShapes Go.WideShapes Go.ChangeAt Go.RowKit

section
variable {H : Type} {enc : TypeId × Value → H} {W : World} {base : Nat} {held : Bool}

end
end Go.Proofs.YtfjafbbalohmhaaGreatDoor
namespace Go.Proofs.YtfjafbbalohmhaaGreatDoor
set_option maxRecDepth 100000
open Go.ChangeShapes Go.WideShapes Go.ChangeAt Go.RowKit

section
variable {H : Type} {enc : TypeId × Value → H} {W : World} {base : Nat} {held : Bool}

def i64r (x : Int) : Prop := -9223372036854775808 ≤ x ∧ x ≤ 9223372036854775807
structure STI (s : STP) : Prop where
  who : i64r s.who
  to : i64r s.to
  am : i64r s.am
  k : i64r s.k
  j : i64r s.j
  n : i64r s.n
theorem i64r_of {x : Int} (h : (Lit.int .i64 x).wf = true) : i64r x := by simpa [i64r, Lit.wf, IntKind.min, IntKind.max, IntKind.signed, IntKind.bits] using h
theorem u8r_of {x : Int} (h : (Lit.int .u8 x).wf = true) : 0 ≤ x ∧ x ≤ 255 := by simpa [Lit.wf, IntKind.min, IntKind.max, IntKind.signed, IntKind.bits] using h
end
end Go.Proofs.YtfjafbbalohmhaaGreatDoor
namespace Go.Proofs.YtfjafbbalohmhaaGreatDoor
set_option maxRecDepth 100000
open Go.ChangeShapes Go.WideShapes Go.ChangeAt Go.RowKit
section
variable {H : Type} {enc : TypeId × Value → H} {W : World} {base : Nat} {held : Bool}
theorem open_event {fuel : Nat} {cs : List Value} {x : DataW H × List MemPlace} (h : DataW.trod enc Tryz.prog W base (fun _ => true) held fuel 52 cs = some x) :
    ∃ kd A N, cs = [.int .u8 kd, .int .u8 A, i6 N] ∧ (0 ≤ kd ∧ kd ≤ 255) ∧ (0 ≤ A ∧ A ≤ 255) ∧ i64r N := by
  obtain ⟨xs, n, rfl, rfl, hlen, hxl, hf⟩ := DataW.trod_struct Tryz.underlying52 h
  have h3 : cs.length = 3 := by rw [hlen]; kernel_rfl
  match cs, h3 with
  | [c0, c1, c2], _ =>
    have hx3 : xs.length = 3 := hxl
    match xs, hx3 with
    | [x0, x1, x2], _ =>
      have h0 : DataW.trod enc Tryz.prog W base (fun _ => true) held n 5 [c0] = some x0 := Eq.mp (by kernel_rfl) (hf 0 _ rfl)
      have h1 : DataW.trod enc Tryz.prog W base (fun _ => true) held n 5 [c1] = some x1 := Eq.mp (by kernel_rfl) (hf 1 _ rfl)
      have h2 : DataW.trod enc Tryz.prog W base (fun _ => true) held n 3 [c2] = some x2 := Eq.mp (by kernel_rfl) (hf 2 _ rfl)
      obtain ⟨z0, e0, _, w0⟩ := DataW.trod_int Tryz.underlying5 h0
      obtain ⟨z1, e1, _, w1⟩ := DataW.trod_int Tryz.underlying5 h1
      obtain ⟨z2, e2, _, w2⟩ := DataW.trod_int Tryz.underlying3 h2
      simp only [List.cons.injEq, and_true] at e0 e1 e2
      subst e0 e1 e2
      exact ⟨z0, z1, z2, rfl, u8r_of w0, u8r_of w1, i64r_of w2⟩
end
end Go.Proofs.YtfjafbbalohmhaaGreatDoor
namespace Go.Proofs.YtfjafbbalohmhaaGreatDoor
set_option maxRecDepth 100000
open Go.RowKit

structure Loc where
  B : Nat
  cap : Nat
abbrev Lay := Nat → Option Loc
def Lay.le (R R' : Lay) : Prop := ∀ i L, R i = some L → R' i = some L
theorem Lay.le.refl (R : Lay) : Lay.le R R := fun _ _ h => h
theorem Lay.le.trans {a b c : Lay} (h : Lay.le a b) (k : Lay.le b c) : Lay.le a c := fun i L hi => k i L (h i L hi)

inductive All2 {α β : Type} (r : α → β → Prop) : List α → List β → Prop
  | nil : All2 r [] []
  | cons {a b l m} : r a b → All2 r l m → All2 r (a :: l) (b :: m)
section
variable {α β : Type} {r : α → β → Prop}
theorem All2.len {l : List α} {m : List β} (h : All2 r l m) : m.length = l.length := by
  induction h with
  | nil => rfl
  | cons _ _ ih => simp [ih]
theorem All2.get {l : List α} {m : List β} (h : All2 r l m) : ∀ {i : Nat} {a : α}, l[i]? = some a → ∃ b, m[i]? = some b ∧ r a b := by
  induction h with
  | nil => intro i a h; simp at h
  | cons h1 _ ih =>
    intro i a h
    cases i with
    | zero => simp at h; subst h; exact ⟨_, rfl, h1⟩
    | succ i => simp at h; simpa using ih h
theorem All2.mono {r' : α → β → Prop} (hr : ∀ a b, r a b → r' a b) {l : List α} {m : List β} (h : All2 r l m) : All2 r' l m := by
  induction h with
  | nil => exact .nil
  | cons h1 _ ih => exact .cons (hr _ _ h1) ih
theorem All2.take {l : List α} {m : List β} (h : All2 r l m) : ∀ n, All2 r (l.take n) (m.take n) := by
  induction h with
  | nil => intro n; simp; exact .nil
  | cons h1 _ ih =>
    intro n
    cases n with
    | zero => exact .nil
    | succ n => exact .cons h1 (ih n)
theorem All2.drop {l : List α} {m : List β} (h : All2 r l m) : ∀ n, All2 r (l.drop n) (m.drop n) := by
  induction h with
  | nil => intro n; simp; exact .nil
  | cons h1 h2 ih =>
    intro n
    cases n with
    | zero => exact .cons h1 h2
    | succ n => exact ih n
theorem All2.append {l l' : List α} {m m' : List β} (h : All2 r l m) (h' : All2 r l' m') : All2 r (l ++ l') (m ++ m') := by
  induction h with
  | nil => exact h'
  | cons h1 _ ih => exact .cons h1 ih
theorem All2.set {l : List α} {m : List β} (h : All2 r l m) {a : α} {b : β} (hab : r a b) : ∀ i, All2 r (l.set i a) (m.set i b) := by
  induction h with
  | nil => intro i; exact .nil
  | cons h1 h2 ih =>
    intro i
    cases i with
    | zero => exact .cons hab h2
    | succ i => exact .cons h1 (ih i)
theorem All2.func {r : α → β → Prop} (hf : ∀ a b c, r a b → r a c → b = c) {l : List α} {m m' : List β} (h : All2 r l m) (h' : All2 r l m') : m = m' := by
  induction h generalizing m' with
  | nil => cases h'; rfl
  | cons h1 _ ih =>
    cases h' with
    | cons k1 k2 => rw [hf _ _ _ h1 k1, ih k2]
theorem All2.all {q : β → Prop} (hq : ∀ a b, r a b → q b) {l : List α} {m : List β} (h : All2 r l m) : ∀ b ∈ m, q b := by
  induction h with
  | nil => intro b hb; cases hb
  | cons h1 _ ih =>
    intro b hb
    cases hb with
    | head => exact hq _ _ h1
    | tail _ hb => exact ih b hb
theorem All2.map {γ : Type} (f : α → γ) {r' : γ → β → Prop} (hr : ∀ a b, r a b → r' (f a) b) {l : List α} {m : List β} (h : All2 r l m) : All2 r' (l.map f) m := by
  induction h with
  | nil => exact .nil
  | cons h1 _ ih => exact .cons (hr _ _ h1) ih
end

inductive CV where
  | k (v : Value)
  | p (b o : Nat)
  | g (b o : Nat)
  | s (b o lo n : Nat) (c : Option Nat)
  | se (b o o' lo l : Nat)
  | m (b : Nat)
  | it (b : Nat)
  | f (fn : FuncId) (x y : List (Nat × Nat))
  | yd (b : Nat)
inductive AV where
  | one (v : CV)
  | agg (cs : List CV)
inductive GV where
  | val (a : AV)
  | tup (l : List AV)
  | bad

def prel (R : Lay) (q : Nat × Nat) (v : Value) : Prop := ∃ L, R q.1 = some L ∧ v = .pointer (some ⟨L.B, q.2, none⟩)
def capOf (L : Loc) (lo : Nat) : Option Nat → Nat
  | some c => c
  | none => L.cap - lo
def CV.rel (R : Lay) : CV → Value → Prop
  | .k u, v => v = u
  | .p b o, v => prel R (b, o) v
  | .g b o, v => v = .pointer (some ⟨b, o, none⟩)
  | .s b o lo n c, v => ∃ L, R b = some L ∧ n ≤ capOf L lo c ∧ v = .slice (some ⟨L.B, o, none⟩) n (capOf L lo c)
  | .se b o o' lo l, v => ∃ L, R b = some L ∧ v = .slice (some ⟨L.B, (if L.cap - lo = l then o else o'), none⟩) 0 (L.cap - lo - l)
  | .m b, v => ∃ L, R b = some L ∧ v = .map (some L.B)
  | .it b, v => ∃ L, R b = some L ∧ v = .pointer (some ⟨L.B, 0, none⟩)
  | .f fn x y, v => ∃ xs ys, All2 (prel R) x xs ∧ All2 (prel R) y ys ∧ v = .func (.func fn) xs.toArray ys.toArray
  | .yd b, v => ∃ L, R b = some L ∧ v = .func (.yield L.B) #[] #[]
def CR (R : Lay) (a : CV) (v : Value) : Prop := a.rel R v ∧ v.oneCell' = true
def AV.rel (R : Lay) : AV → Value → Prop
  | .one a, v => a.rel R v
  | .agg cs, v => ∃ vs, All2 (CR R) cs vs ∧ v = .agg vs.toArray
def GV.rel (R : Lay) : GV → Value → Prop
  | .val a, v => a.rel R v
  | .tup l, v => ∃ vs, All2 (AV.rel R) l vs ∧ v = .tuple vs.toArray
  | .bad, _ => True

theorem prel.mono {R R' : Lay} (h : Lay.le R R') {q : Nat × Nat} {v : Value} (k : prel R q v) : prel R' q v := by
  obtain ⟨L, h1, h2⟩ := k; exact ⟨L, h _ _ h1, h2⟩
theorem CV.rel.mono {R R' : Lay} (h : Lay.le R R') {a : CV} {v : Value} (k : a.rel R v) : a.rel R' v := by
  cases a with
  | k u => exact k
  | p b o => exact prel.mono h k
  | g b o => exact k
  | s b o lo n c => obtain ⟨L, h1, h0, h2⟩ := k; exact ⟨L, h _ _ h1, h0, h2⟩
  | se b o o' lo l => obtain ⟨L, h1, h2⟩ := k; exact ⟨L, h _ _ h1, h2⟩
  | m b => obtain ⟨L, h1, h2⟩ := k; exact ⟨L, h _ _ h1, h2⟩
  | it b => obtain ⟨L, h1, h2⟩ := k; exact ⟨L, h _ _ h1, h2⟩
  | f fn x y => obtain ⟨xs, ys, h1, h2, h3⟩ := k; exact ⟨xs, ys, h1.mono fun _ _ => prel.mono h, h2.mono fun _ _ => prel.mono h, h3⟩
  | yd b => obtain ⟨L, h1, h2⟩ := k; exact ⟨L, h _ _ h1, h2⟩
theorem CR.mono {R R' : Lay} (h : Lay.le R R') {a : CV} {v : Value} (k : CR R a v) : CR R' a v := ⟨CV.rel.mono h k.1, k.2⟩
theorem AV.rel.mono {R R' : Lay} (h : Lay.le R R') {a : AV} {v : Value} (k : a.rel R v) : a.rel R' v := by
  cases a with
  | one a => have k : CV.rel R a v := k; exact CV.rel.mono h k
  | agg cs => obtain ⟨vs, h1, h2⟩ := k; exact ⟨vs, h1.mono fun _ _ => CR.mono h, h2⟩
theorem GV.rel.mono {R R' : Lay} (h : Lay.le R R') {a : GV} {v : Value} (k : a.rel R v) : a.rel R' v := by
  cases a with
  | val a => have k : AV.rel R a v := k; exact AV.rel.mono h k
  | tup l => obtain ⟨vs, h1, h2⟩ := k; exact ⟨vs, h1.mono fun _ _ => AV.rel.mono h, h2⟩
  | bad => trivial
theorem prel.func {R : Lay} {q : Nat × Nat} {v v' : Value} (h : prel R q v) (h' : prel R q v') : v = v' := by
  obtain ⟨L, h1, rfl⟩ := h; obtain ⟨L', h1', rfl⟩ := h'
  rw [h1] at h1'; cases h1'; rfl
theorem CV.rel.func {R : Lay} {a : CV} {v v' : Value} (h : a.rel R v) (h' : a.rel R v') : v = v' := by
  cases a with
  | k u => exact h.trans h'.symm
  | p b o => exact prel.func h h'
  | g b o => exact h.trans h'.symm
  | s b o lo n c => obtain ⟨L, h1, _, rfl⟩ := h; obtain ⟨L', h1', _, rfl⟩ := h'; rw [h1] at h1'; cases h1'; rfl
  | se b o o' lo l => obtain ⟨L, h1, rfl⟩ := h; obtain ⟨L', h1', rfl⟩ := h'; rw [h1] at h1'; cases h1'; rfl
  | m b => obtain ⟨L, h1, rfl⟩ := h; obtain ⟨L', h1', rfl⟩ := h'; rw [h1] at h1'; cases h1'; rfl
  | it b => obtain ⟨L, h1, rfl⟩ := h; obtain ⟨L', h1', rfl⟩ := h'; rw [h1] at h1'; cases h1'; rfl
  | yd b => obtain ⟨L, h1, rfl⟩ := h; obtain ⟨L', h1', rfl⟩ := h'; rw [h1] at h1'; cases h1'; rfl
  | f fn x y =>
    obtain ⟨xs, ys, h1, h2, rfl⟩ := h; obtain ⟨xs', ys', h1', h2', rfl⟩ := h'
    rw [All2.func (r := prel R) (fun _ _ _ h h' => prel.func h h') h1 h1', All2.func (r := prel R) (fun _ _ _ h h' => prel.func h h') h2 h2']
theorem AV.rel.func {R : Lay} {a : AV} {v v' : Value} (h : a.rel R v) (h' : a.rel R v') : v = v' := by
  cases a with
  | one a => have h : CV.rel R a v := h; have h' : CV.rel R a v' := h'; exact CV.rel.func h h'
  | agg cs =>
    obtain ⟨vs, h1, rfl⟩ := h; obtain ⟨vs', h1', rfl⟩ := h'
    rw [All2.func (r := CR R) (fun _ _ _ h h' => CV.rel.func h.1 h'.1) h1 h1']
theorem GV.rel.func {R : Lay} {a : GV} {v v' : Value} (hb : a ≠ .bad) (h : a.rel R v) (h' : a.rel R v') : v = v' := by
  cases a with
  | bad => exact absurd rfl hb
  | val a => have h : AV.rel R a v := h; have h' : AV.rel R a v' := h'; exact AV.rel.func h h'
  | tup l =>
    obtain ⟨vs, h1, rfl⟩ := h; obtain ⟨vs', h1', rfl⟩ := h'
    rw [All2.func (r := AV.rel R) (fun _ _ _ h h' => AV.rel.func h h') h1 h1']

/-! ## Trees by number. -/
inductive Tr (α : Type) where
  | e
  | l (a : α)
  | n (x y : Tr α)
def Tr.get {α : Type} : Nat → Tr α → Nat → Option α
  | 0, .l a, _ => some a
  | d + 1, .n x y, i => match Nat.beq (i % 2) 0 with | true => Tr.get d x (i / 2) | false => Tr.get d y (i / 2)
  | _, _, _ => none
def Tr.sub {α : Type} : Tr α → Tr α × Tr α
  | .n x y => (x, y)
  | _ => (.e, .e)
def Tr.nl {α : Type} (x y : Tr α) : Tr α := match x with | .e => .n .e y | .l a => .n (.l a) y | .n p q => .n (.n p q) y
def Tr.nr {α : Type} (x y : Tr α) : Tr α := match y with | .e => .n x .e | .l a => .n x (.l a) | .n p q => .n x (.n p q)
theorem Tr.nl_eq {α : Type} (x y : Tr α) : Tr.nl x y = .n x y := by cases x <;> rfl
theorem Tr.nr_eq {α : Type} (x y : Tr α) : Tr.nr x y = .n x y := by cases y <;> rfl
def Tr.set {α : Type} : Nat → Tr α → Nat → α → Tr α
  | 0, _, _, a => .l a
  | d + 1, .n x y, i, a => match Nat.beq (i % 2) 0 with | true => Tr.nl (Tr.set d x (i / 2) a) y | false => Tr.nr x (Tr.set d y (i / 2) a)
  | d + 1, _, i, a => match Nat.beq (i % 2) 0 with | true => Tr.nl (Tr.set d .e (i / 2) a) .e | false => Tr.nr .e (Tr.set d .e (i / 2) a)
theorem Tr.sub_n {α : Type} (x y : Tr α) : (Tr.n x y).sub = (x, y) := rfl
theorem Tr.set_sub {α : Type} (d : Nat) (t : Tr α) (i : Nat) (a : α) : Tr.set (d + 1) t i a = match Nat.beq (i % 2) 0 with | true => .n (Tr.set d t.sub.1 (i / 2) a) t.sub.2 | false => .n t.sub.1 (Tr.set d t.sub.2 (i / 2) a) := by
  cases t with
  | e =>
    show (match Nat.beq (i % 2) 0 with | true => Tr.nl (Tr.set d .e (i / 2) a) .e | false => Tr.nr .e (Tr.set d .e (i / 2) a)) = _
    rw [Tr.nl_eq, Tr.nr_eq]; rfl
  | l b =>
    show (match Nat.beq (i % 2) 0 with | true => Tr.nl (Tr.set d .e (i / 2) a) .e | false => Tr.nr .e (Tr.set d .e (i / 2) a)) = _
    rw [Tr.nl_eq, Tr.nr_eq]; rfl
  | n x y =>
    show (match Nat.beq (i % 2) 0 with | true => Tr.nl (Tr.set d x (i / 2) a) y | false => Tr.nr x (Tr.set d y (i / 2) a)) = _
    rw [Tr.nl_eq, Tr.nr_eq]; rfl
theorem Tr.get_sub {α : Type} (d : Nat) (t : Tr α) (i : Nat) : Tr.get (d + 1) t i = match Nat.beq (i % 2) 0 with | true => Tr.get d t.sub.1 (i / 2) | false => Tr.get d t.sub.2 (i / 2) := by
  have he : ∀ i, Tr.get d (.e : Tr α) i = none := fun i => by cases d <;> rfl
  cases t with
  | e => simp only [Tr.sub, he]; unfold Tr.get; split <;> rfl
  | l a => simp only [Tr.sub, he]; unfold Tr.get; split <;> rfl
  | n x y => rfl
theorem eb {a b : Nat} {c : Bool} (h : Nat.beq a b = c) : if c then a = b else a ≠ b := by
  subst h
  by_cases hh : a = b
  · subst hh; simp
  · have : Nat.beq a b = false := by
      cases hq : Nat.beq a b
      · rfl
      · exact absurd (Nat.eq_of_beq_eq_true hq) hh
    simp [this, hh]
theorem Tr.get_set {α : Type} (a : α) : ∀ (d : Nat) (t : Tr α) (i j : Nat), i < 2 ^ d → j < 2 ^ d → Tr.get d (Tr.set d t i a) j = if i = j then some a else Tr.get d t j
  | 0, t, i, j, hi, hj => by
    have : i = j := by omega
    simp [this, Tr.set, Tr.get]
  | d + 1, t, i, j, hi, hj => by
    have hi2 : i / 2 < 2 ^ d := by rw [Nat.pow_succ] at hi; omega
    have hj2 : j / 2 < 2 ^ d := by rw [Nat.pow_succ] at hj; omega
    rw [Tr.get_sub, Tr.get_sub, Tr.set_sub]
    cases ei : Nat.beq (i % 2) 0 <;> cases ej : Nat.beq (j % 2) 0 <;> simp only [Tr.sub_n]
    · rw [Tr.get_set a d _ _ _ hi2 hj2]
      have e1 := eb ei
      have e2 := eb ej
      simp only [Bool.false_eq_true, if_true, if_false] at e1 e2
      by_cases hij : i / 2 = j / 2
      · rw [if_pos hij, if_pos (by omega)]
      · rw [if_neg hij, if_neg (by omega)]
    · have e1 := eb ei
      have e2 := eb ej
      simp only [Bool.false_eq_true, if_true, if_false] at e1 e2
      rw [if_neg (by omega)]
    · have e1 := eb ei
      have e2 := eb ej
      simp only [Bool.false_eq_true, if_true, if_false] at e1 e2
      rw [if_neg (by omega)]
    · rw [Tr.get_set a d _ _ _ hi2 hj2]
      have e1 := eb ei
      have e2 := eb ej
      simp only [Bool.false_eq_true, if_true, if_false] at e1 e2
      by_cases hij : i / 2 = j / 2
      · rw [if_pos hij, if_pos (by omega)]
      · rw [if_neg hij, if_neg (by omega)]

/-! ## The same, for reckoning: each level spelt. -/
section
variable {α : Type}
def Tr.g0 (t : Tr α) (_ : Nat) : Option α := match t with | .l a => some a | _ => none
def Tr.gs (f : Tr α → Nat → Option α) (t : Tr α) (i : Nat) : Option α := match t with | .n x y => (match Nat.beq (Nat.mod i 2) 0 with | true => f x (Nat.div i 2) | false => f y (Nat.div i 2)) | _ => none
def Tr.s0 (_ : Tr α) (_ : Nat) (a : α) : Tr α := .l a
def Tr.ss (f : Tr α → Nat → α → Tr α) (t : Tr α) (i : Nat) (a : α) : Tr α :=
  match t with
  | .n x y => (match Nat.beq (Nat.mod i 2) 0 with | true => Tr.nl (f x (Nat.div i 2) a) y | false => Tr.nr x (f y (Nat.div i 2) a))
  | _ => (match Nat.beq (Nat.mod i 2) 0 with | true => Tr.nl (f .e (Nat.div i 2) a) .e | false => Tr.nr .e (f .e (Nat.div i 2) a))
theorem Tr.gs_eq {f : Tr α → Nat → Option α} {d : Nat} (h : f = Tr.get d) : Tr.gs f = Tr.get (d + 1) := by
  subst h
  funext t i
  cases t <;> rfl
theorem Tr.ss_eq {f : Tr α → Nat → α → Tr α} {d : Nat} (h : f = Tr.set d) : Tr.ss f = Tr.set (d + 1) := by
  subst h
  funext t i a
  cases t <;> rfl
theorem Tr.g0_eq : (Tr.g0 : Tr α → Nat → Option α) = Tr.get 0 := by
  funext t i
  cases t <;> rfl
theorem Tr.s0_eq : (Tr.s0 : Tr α → Nat → α → Tr α) = Tr.set 0 := by
  funext t i a
  cases t <;> rfl
def Tr.get8 : Tr α → Nat → Option α := Tr.gs (Tr.gs (Tr.gs (Tr.gs (Tr.gs (Tr.gs (Tr.gs (Tr.gs Tr.g0)))))))
def Tr.set8 : Tr α → Nat → α → Tr α := Tr.ss (Tr.ss (Tr.ss (Tr.ss (Tr.ss (Tr.ss (Tr.ss (Tr.ss Tr.s0)))))))
def Tr.get13 : Tr α → Nat → Option α := Tr.gs (Tr.gs (Tr.gs (Tr.gs (Tr.gs (Tr.gs (Tr.gs (Tr.gs (Tr.gs (Tr.gs (Tr.gs (Tr.gs (Tr.gs Tr.g0))))))))))))
def Tr.set13 : Tr α → Nat → α → Tr α := Tr.ss (Tr.ss (Tr.ss (Tr.ss (Tr.ss (Tr.ss (Tr.ss (Tr.ss (Tr.ss (Tr.ss (Tr.ss (Tr.ss (Tr.ss Tr.s0))))))))))))
theorem Tr.get8_eq : (Tr.get8 : Tr α → Nat → Option α) = Tr.get 8 := Tr.gs_eq (Tr.gs_eq (Tr.gs_eq (Tr.gs_eq (Tr.gs_eq (Tr.gs_eq (Tr.gs_eq (Tr.gs_eq Tr.g0_eq)))))))
theorem Tr.set8_eq : (Tr.set8 : Tr α → Nat → α → Tr α) = Tr.set 8 := Tr.ss_eq (Tr.ss_eq (Tr.ss_eq (Tr.ss_eq (Tr.ss_eq (Tr.ss_eq (Tr.ss_eq (Tr.ss_eq Tr.s0_eq)))))))
theorem Tr.get13_eq : (Tr.get13 : Tr α → Nat → Option α) = Tr.get 13 := Tr.gs_eq (Tr.gs_eq (Tr.gs_eq (Tr.gs_eq (Tr.gs_eq (Tr.gs_eq (Tr.gs_eq (Tr.gs_eq (Tr.gs_eq (Tr.gs_eq (Tr.gs_eq (Tr.gs_eq (Tr.gs_eq Tr.g0_eq))))))))))))
theorem Tr.set13_eq : (Tr.set13 : Tr α → Nat → α → Tr α) = Tr.set 13 := Tr.ss_eq (Tr.ss_eq (Tr.ss_eq (Tr.ss_eq (Tr.ss_eq (Tr.ss_eq (Tr.ss_eq (Tr.ss_eq (Tr.ss_eq (Tr.ss_eq (Tr.ss_eq (Tr.ss_eq (Tr.ss_eq Tr.s0_eq))))))))))))
theorem Tr.get8_set8 (a : α) (t : Tr α) (i j : Nat) (hi : i < 256) (hj : j < 256) : Tr.get8 (Tr.set8 t i a) j = if i = j then some a else Tr.get8 t j := by
  rw [Tr.get8_eq, Tr.set8_eq]
  exact Tr.get_set a 8 t i j hi hj
theorem Tr.get13_set13 (a : α) (t : Tr α) (i j : Nat) (hi : i < 8192) (hj : j < 8192) : Tr.get13 (Tr.set13 t i a) j = if i = j then some a else Tr.get13 t j := by
  rw [Tr.get13_eq, Tr.set13_eq]
  exact Tr.get_set a 13 t i j hi hj
end
end Go.Proofs.YtfjafbbalohmhaaGreatDoor
namespace Go.Proofs.YtfjafbbalohmhaaGreatDoor
set_option maxRecDepth 100000
open Go.RowKit

structure AEnt where
  key : Value
  val : AV
  born : Nat
inductive AO where
  | cells (e : TypeId) (z : Nat) (g : Bool) (cs : List CV)
  | map (es : List AEnt) (clock : Nat)
  | mit (m : Option Nat) (since : Nat) (seen : List Nat) (stepped : Nat)
  | sit (s : ByteArray) (pos : Nat)
  | dead
def AO.live : AO → Bool
  | .dead => false
  | _ => true
def EntR (R : Lay) (a : AEnt) (v : MapEntry) : Prop := v.key = a.key ∧ a.val.rel R v.val ∧ v.born = a.born
structure CellsR (R : Lay) (L : Loc) (z : Nat) (g : Bool) (cs : List CV) (c : List Value) : Prop where
  rel : All2 (CR R) cs (c.take cs.length)
  le : cs.length ≤ c.length
  eq : g = false → c.length = cs.length
  room : g = true → 0 < z ∧ L.cap ≤ maxLen ∧ c.length = L.cap * z
def objR (R : Lay) (w : World) (L : Loc) : AO → Prop
  | .cells e z g cs => ∃ c, blk w L.B e c ∧ CellsR R L z g cs c
  | .map es clock => ∃ vs, All2 (EntR R) es vs ∧ w.heap[L.B]? = some (.map vs.toArray clock)
  | .mit none a b d => w.heap[L.B]? = some (.mapIter none a b.toArray d)
  | .mit (some m) a b d => ∃ M, R m = some M ∧ w.heap[L.B]? = some (.mapIter (some M.B) a b.toArray d)
  | .sit s pos => w.heap[L.B]? = some (.stringIter s pos)
  | .dead => True

structure AH where
  t : Tr AO
  n : Nat
def AH.get (H : AH) (i : Nat) : Option AO := match Nat.blt i H.n with | true => Tr.get13 H.t i | false => none
def AH.put (H : AH) (i : Nat) (o : AO) : AH := ⟨Tr.set13 H.t i o, H.n⟩
def AH.new (H : AH) (o : AO) : AH := ⟨Tr.set13 H.t H.n o, Nat.add H.n 1⟩
theorem blt_iff {a b : Nat} : Nat.blt a b = true ↔ a < b := by
  unfold Nat.blt; rw [Nat.ble_eq]; exact Iff.rfl
theorem AH.get_lt {H : AH} {i : Nat} {o : AO} (h : H.get i = some o) : i < H.n := by
  unfold AH.get at h
  split at h
  · rename_i hb; exact blt_iff.1 hb
  · cases h
theorem AH.get_put {H : AH} {i j : Nat} {o : AO} (hi : i < H.n) (hn : H.n ≤ 8192) : (H.put i o).get j = if i = j then some o else H.get j := by
  unfold AH.get AH.put
  simp only
  cases hb : Nat.blt j H.n with
  | true =>
    have := blt_iff.1 hb
    simp only
    rw [Tr.get13_set13 _ _ _ _ (by omega) (by omega)]
  | false =>
    have h2 : ¬ j < H.n := fun hh => by rw [blt_iff.2 hh] at hb; cases hb
    simp only
    rw [if_neg (by omega)]
theorem AH.get_new {H : AH} {j : Nat} {o : AO} (hn : H.n < 8192) : (H.new o).get j = if j = H.n then some o else H.get j := by
  unfold AH.get AH.new
  simp only
  cases hb : Nat.blt j (H.n + 1) with
  | true =>
    have := blt_iff.1 hb
    simp only
    rw [Tr.get13_set13 _ _ _ _ (by omega) (by omega)]
    by_cases hj : j = H.n
    · rw [if_pos hj, if_pos hj.symm]
    · rw [if_neg hj, if_neg (fun h => hj h.symm), blt_iff.2 (by omega)]
  | false =>
    have h2 : ¬ j < H.n + 1 := fun hh => by rw [blt_iff.2 hh] at hb; cases hb
    have h3 : Nat.blt j H.n = false := by
      cases hq : Nat.blt j H.n
      · rfl
      · have := blt_iff.1 hq; omega
    rw [if_neg (by omega), h3]

abbrev Glo := Nat → Option (TypeId × List Value)
def gbk (w : World) (g : Nat) (cs : List Value) : Prop := ∃ E fr, w.heap[g]? = some (.cells cs.toArray E fr)
theorem gbk.cell {w : World} {g : Nat} {cs : List Value} (h : gbk w g cs) (o : Nat) : w.cell? ⟨g, o, none⟩ = cs[o]? := by
  obtain ⟨E, fr, h⟩ := h
  unfold World.cell?
  rw [h]; simp
theorem gbk.same {w w' : World} {g : Nat} {cs : List Value} (h : gbk w g cs) (hw : w'.heap[g]? = w.heap[g]?) : gbk w' g cs := by
  obtain ⟨E, fr, h⟩ := h
  exact ⟨E, fr, by rw [hw]; exact h⟩
theorem gbk.lt {w : World} {g : Nat} {cs : List Value} (h : gbk w g cs) : g < w.heap.size := by
  obtain ⟨E, fr, h⟩ := h
  exact (Array.getElem?_eq_some_iff.1 h).1
structure Sim (G : Glo) (B0 : Nat) (R : Lay) (H : AH) (w : World) : Prop where
  obj : ∀ i o, H.get i = some o → o.live = true → ∃ L, R i = some L ∧ B0 ≤ L.B ∧ objR R w L o
  inj : ∀ i j oi oj Li Lj, H.get i = some oi → H.get j = some oj → oi.live = true → oj.live = true → i ≠ j → R i = some Li → R j = some Lj → Li.B ≠ Lj.B
  dom : ∀ i L, R i = some L → i < H.n
  big : H.n ≤ 8192
  size : B0 ≤ w.heap.size
  glob : ∀ g e cs, G g = some (e, cs) → g < B0 ∧ gbk w g cs

theorem objR.lt {R : Lay} {w : World} {L : Loc} {o : AO} (h : objR R w L o) (hl : o.live = true) : L.B < w.heap.size := by
  cases o with
  | cells e z g cs => obtain ⟨c, h, _⟩ := h; exact h.lt
  | map es clock => obtain ⟨c, _, h⟩ := h; exact (Array.getElem?_eq_some_iff.1 h).1
  | mit m a b d =>
    cases m with
    | none => exact (Array.getElem?_eq_some_iff.1 h).1
    | some m => obtain ⟨c, _, h⟩ := h; exact (Array.getElem?_eq_some_iff.1 h).1
  | sit s pos => exact (Array.getElem?_eq_some_iff.1 h).1
  | dead => cases hl
theorem objR.same {R : Lay} {w w' : World} {L : Loc} {o : AO} (h : objR R w L o) (hw : w'.heap[L.B]? = w.heap[L.B]?) : objR R w' L o := by
  cases o with
  | cells e z g cs => obtain ⟨c, h, k⟩ := h; exact ⟨c, by unfold blk at *; rw [hw]; exact h, k⟩
  | map es clock => obtain ⟨c, k, h⟩ := h; exact ⟨c, k, by rw [hw]; exact h⟩
  | mit m a b d =>
    cases m with
    | none => show w'.heap[L.B]? = _; rw [hw]; exact h
    | some m => obtain ⟨c, k, h⟩ := h; exact ⟨c, k, by rw [hw]; exact h⟩
  | sit s pos => show w'.heap[L.B]? = _; rw [hw]; exact h
  | dead => trivial
theorem EntR.mono {R R' : Lay} (hR : Lay.le R R') {a : AEnt} {v : MapEntry} (h : EntR R a v) : EntR R' a v := ⟨h.1, AV.rel.mono hR h.2.1, h.2.2⟩
theorem CellsR.mono {R R' : Lay} (hR : Lay.le R R') {L : Loc} {z : Nat} {g : Bool} {cs : List CV} {c : List Value} (h : CellsR R L z g cs c) : CellsR R' L z g cs c :=
  ⟨h.rel.mono fun _ _ => CR.mono hR, h.le, h.eq, h.room⟩
theorem objR.mono {R R' : Lay} (hR : Lay.le R R') {w : World} {L : Loc} {o : AO} (h : objR R w L o) : objR R' w L o := by
  cases o with
  | cells e z g cs => obtain ⟨c, h, k⟩ := h; exact ⟨c, h, k.mono hR⟩
  | map es clock => obtain ⟨c, k, h⟩ := h; exact ⟨c, k.mono fun _ _ => EntR.mono hR, h⟩
  | mit m a b d =>
    cases m with
    | none => exact h
    | some m => obtain ⟨c, k, h⟩ := h; exact ⟨c, hR _ _ k, h⟩
  | sit s pos => exact h
  | dead => trivial

section
variable {G : Glo} {B0 : Nat} {R : Lay} {H : AH} {w w' : World}
theorem Sim.below (h : Sim G B0 R H w) (hb : Below w.heap.size w w') : Sim G B0 R H w' where
  obj i o hi hl := by
    obtain ⟨L, h1, h2, h3⟩ := h.obj i o hi hl
    exact ⟨L, h1, h2, h3.same (hb.block _ (h3.lt hl))⟩
  inj := h.inj
  dom := h.dom
  big := h.big
  size := Nat.le_trans h.size hb.size
  glob g e cs hg := ⟨(h.glob g e cs hg).1, (h.glob g e cs hg).2.same (hb.block g (h.glob g e cs hg).2.lt)⟩
def upd (R : Lay) (i : Nat) (L : Loc) : Lay := fun j => if j = i then some L else R j
theorem Sim.upd_le (h : Sim G B0 R H w) (L : Loc) : Lay.le R (upd R H.n L) := by
  intro i M hi
  have := h.dom i M hi
  unfold upd
  rw [if_neg (by omega)]; exact hi
theorem upd_self {i : Nat} {L : Loc} : upd R i L i = some L := if_pos rfl
theorem Sim.new {o : AO} {L : Loc} (h : Sim G B0 R H w) (hb : Below w.heap.size w w') (hL : w.heap.size ≤ L.B) (ho : objR (upd R H.n L) w' L o) (hn : H.n < 8192) : Sim G B0 (upd R H.n L) (H.new o) w' where
  obj i o' hi hl := by
    rw [AH.get_new hn] at hi
    split at hi
    · rename_i e; subst e; cases hi; exact ⟨L, upd_self, Nat.le_trans h.size hL, ho⟩
    · obtain ⟨M, h1, h2, h3⟩ := (h.below hb).obj i o' hi hl
      exact ⟨M, h.upd_le L _ _ h1, h2, h3.mono (h.upd_le L)⟩
  inj i j oi oj Li Lj hi hj li lj hij ri rj := by
    rw [AH.get_new hn] at hi hj
    unfold upd at ri rj
    split at hi <;> split at hj
    · rename_i a b; omega
    · rename_i a b
      rw [if_pos a] at ri; cases ri
      rw [if_neg b] at rj
      obtain ⟨M, h1, h2, h3⟩ := h.obj j oj hj lj
      rw [h1] at rj; cases rj
      have := h3.lt lj; omega
    · rename_i a b
      rw [if_pos b] at rj; cases rj
      rw [if_neg a] at ri
      obtain ⟨M, h1, h2, h3⟩ := h.obj i oi hi li
      rw [h1] at ri; cases ri
      have := h3.lt li; omega
    · rename_i a b
      rw [if_neg a] at ri; rw [if_neg b] at rj
      exact h.inj i j oi oj Li Lj hi hj li lj hij ri rj
  dom i M hi := by
    show i < H.n + 1
    unfold upd at hi
    split at hi
    · omega
    · have := h.dom i M hi; omega
  big := by show H.n + 1 ≤ 8192; omega
  size := (h.below hb).size
  glob := (h.below hb).glob
theorem Sim.put {i : Nat} {o o' : AO} {L : Loc} (h : Sim G B0 R H w) (hi : H.get i = some o) (hl : o.live = true) (hL : R i = some L) (hs : w'.heap.size = w.heap.size) (hw : ∀ k, k ≠ L.B → w'.heap[k]? = w.heap[k]?) (ho : objR R w' L o') : Sim G B0 R (H.put i o') w' where
  obj j oj hj lj := by
    rw [AH.get_put (AH.get_lt hi) h.big] at hj
    split at hj
    · rename_i e; subst e; cases hj
      obtain ⟨M, h1, h2, h3⟩ := h.obj i o hi hl
      rw [hL] at h1; cases h1
      exact ⟨L, hL, h2, ho⟩
    · rename_i e
      obtain ⟨M, h1, h2, h3⟩ := h.obj j oj hj lj
      exact ⟨M, h1, h2, h3.same (hw _ (h.inj j i oj o M L hj hi lj hl (fun hh => e hh.symm) h1 hL))⟩
  inj a b oa ob La Lb ha hb la lb hab ra rb := by
    have key : ∀ {c oc}, (H.put i o').get c = some oc → oc.live = true → ∃ oc', H.get c = some oc' ∧ oc'.live = true := by
      intro c oc hc lc
      rw [AH.get_put (AH.get_lt hi) h.big] at hc
      split at hc
      · rename_i e; subst e; exact ⟨o, hi, hl⟩
      · exact ⟨oc, hc, lc⟩
    obtain ⟨oa', ha', la'⟩ := key ha la
    obtain ⟨ob', hb', lb'⟩ := key hb lb
    exact h.inj a b oa' ob' La Lb ha' hb' la' lb' hab ra rb
  dom := h.dom
  big := h.big
  size := by rw [hs]; exact h.size
  glob g e cs hg := by
    obtain ⟨h1, h2⟩ := h.glob g e cs hg
    obtain ⟨M, h3, h4, _⟩ := h.obj i o hi hl
    rw [hL] at h3; cases h3
    exact ⟨h1, h2.same (hw g (by omega))⟩
end

/-! ## Temporaries. -/
def undefG : GV := .val (.one (.k undef))
def getE (E : Tr GV) (i : Nat) : GV := match Tr.get8 E i with | some v => v | none => undefG
structure EnvR (R : Lay) (n : Nat) (E : Tr GV) (e : Env) : Prop where
  len : e.length = n
  big : n ≤ 256
  rel : ∀ i, i < n → (getE E i).rel R (gd e i)
theorem EnvR.mono {R R' : Lay} (hR : Lay.le R R') {n : Nat} {E : Tr GV} {e : Env} (h : EnvR R n E e) : EnvR R' n E e := ⟨h.len, h.big, fun i hi => GV.rel.mono hR (h.rel i hi)⟩
def ptE (E : Tr GV) (n : Nat) (d : Option Tmp) (v : GV) : Tr GV :=
  match d with
  | none => E
  | some d => match Nat.blt d n with | true => Tr.set8 E d v | false => E
theorem EnvR.put {R : Lay} {n : Nat} {E : Tr GV} {e : Env} {d : Option Tmp} {a : GV} {v : Value} (h : EnvR R n E e) (hv : a.rel R v) : EnvR R n (ptE E n d a) (pt e d v) := by
  cases d with
  | none => exact h
  | some d =>
    unfold ptE pt
    simp only
    cases hb : Nat.blt d n with
    | true =>
      have hd := blt_iff.1 hb
      have hbig := h.big
      refine ⟨by simpa using h.len, h.big, fun i hi => ?_⟩
      unfold getE
      rw [Tr.get8_set8 _ _ _ _ (by omega) (by omega)]
      by_cases hdi : d = i
      · subst hdi
        rw [if_pos rfl]
        have : gd (e.set d v) d = v := by unfold gd; simp [List.getD_eq_getElem?_getD, h.len, hi]
        rw [this]; exact hv
      · rw [if_neg hdi]
        have : gd (e.set d v) i = gd e i := by unfold gd; simp [List.getD_eq_getElem?_getD, List.getElem?_set_ne hdi]
        rw [this]; exact h.rel i hi
    | false =>
      have hd : ¬ d < n := fun hh => by rw [blt_iff.2 hh] at hb; cases hb
      have : e.set d v = e := List.set_eq_of_length_le (by rw [h.len]; exact Nat.le_of_not_lt hd)
      rw [this]; exact h
def kG (v : Value) : GV := .val (.one (.k v))
theorem kG_rel {R : Lay} {v : Value} : (kG v).rel R v := rfl
def ofV (v : Value) : GV :=
  match v with
  | .agg cs => match cs.toList.all (·.oneCell') with | true => .val (.agg (cs.toList.map .k)) | false => kG v
  | _ => kG v
theorem kL_rel {R : Lay} : ∀ {l : List Value}, l.all (·.oneCell') = true → All2 (CR R) (l.map .k) l
  | [], _ => .nil
  | v :: l, h => by
    rw [List.all_cons, Bool.and_eq_true] at h
    exact .cons ⟨rfl, h.1⟩ (kL_rel h.2)
theorem ofV_rel {R : Lay} {v : Value} : (ofV v).rel R v := by
  unfold ofV
  split
  · split
    · rename_i cs h
      exact ⟨_, kL_rel h, rfl⟩
    · exact rfl
  · exact rfl
def evG (E : Tr GV) (n : Nat) : Operand → Option GV
  | .tmp t => match Nat.blt t n with | true => (match getE E t with | .bad => none | v => some v) | false => none
  | .const v => some (ofV v)
  | .global g => some (.val (.one (.g g 0)))
  | .func f => some (kG (.func (.func f) #[] #[]))
theorem evG_rel {R : Lay} {n : Nat} {E : Tr GV} {e : Env} (h : EnvR R n E e) {x : Operand} {a : GV} (ha : evG E n x = some a) : a.rel R (ev e x) := by
  cases x with
  | tmp t =>
    unfold evG at ha
    simp only at ha
    split at ha
    · rename_i hb
      have := h.rel t (blt_iff.1 hb)
      split at ha
      · cases ha
      · cases ha; exact this
    · cases ha
  | const v => cases ha; exact ofV_rel
  | global g => cases ha; exact rfl
  | func f => cases ha; exact rfl

/-! ## What asks no world. -/
def prun {α : Type} (P : Program) : Sem α → Option α
  | .pure a => some a
  | .program k => prun P (k P)
  | .mark _ k => prun P k
  | _ => none
theorem prun_run {α : Type} {P : Program} : ∀ {s : Sem α} {a : α}, prun P s = some a → ∀ w, s.run P w = .ok a w
  | .pure _, _, h, w => by cases h; rfl
  | .program k, _, h, w => by unfold Sem.run; exact prun_run (s := k P) h w
  | .mark _ k, _, h, w => by unfold Sem.run; exact prun_run (s := k) h w

def allK : List CV → Option (List Value)
  | [] => some []
  | .k v :: r => match allK r with | some l => some (v :: l) | none => none
  | _ => none
theorem allK_rel {R : Lay} : ∀ {cs : List CV} {l vs : List Value}, allK cs = some l → All2 (CR R) cs vs → vs = l
  | [], _, _, h, hr => by cases h; cases hr; rfl
  | .k v :: r, l, vs, h, hr => by
    unfold allK at h
    split at h
    · rename_i l' hl
      cases h
      cases hr with
      | cons h1 h2 => rw [allK_rel hl h2, h1.1]
    · cases h
def toV : GV → Option Value
  | .val (.one (.k v)) => some v
  | .val (.agg cs) => match allK cs with | some l => some (.agg l.toArray) | none => none
  | _ => none
theorem toV_rel {R : Lay} {a : GV} {u v : Value} (h : toV a = some u) (hr : a.rel R v) : v = u := by
  unfold toV at h
  split at h
  · cases h; exact hr
  · split at h
    · rename_i hl
      cases h
      obtain ⟨vs, h1, rfl⟩ := hr
      rw [allK_rel hl h1]
    · cases h
  · cases h

def Yld (op : KV → World → Prop) (R : Lay) (r : GV) (w : World) : Prop := ∃ v, r.rel R v ∧ ∀ K : KV, K v w → op K w
end Go.Proofs.YtfjafbbalohmhaaGreatDoor
namespace Go.Proofs.YtfjafbbalohmhaaGreatDoor
set_option maxRecDepth 100000
open Go.RowKit

def oneG (a : CV) : GV := .val (.one a)
/-! ## Comparisons, numbers, conversions. -/
def nilG (P : Program) (t : TypeId) (x y : GV) : Bool :=
  match x, y with
  | .val (.one (.p _ _)), .val (.one (.k (.pointer none))) => match P.underlying t with | some (.pointer _) => true | _ => false
  | .val (.one (.s ..)), .val (.one (.k (.slice none 0 0))) => match P.underlying t with | some (.slice _) => true | _ => false
  | .val (.one (.se ..)), .val (.one (.k (.slice none 0 0))) => match P.underlying t with | some (.slice _) => true | _ => false
  | .val (.one (.m _)), .val (.one (.k (.map none))) => match P.underlying t with | some (.map _ _) => true | _ => false
  | .val (.one (.f ..)), .val (.one (.k .nilFunc)) => match P.underlying t with | some (.func ..) => true | _ => false
  | _, _ => false
def binG (P : Program) (op : BinOp) (t : TypeId) (cx cy : Bool) (x y : GV) : Option GV :=
  match toV x, toV y with
  | some u, some v => (prun P (do eqG op t cx cy u v; binOp op t u v)).map kG
  | _, _ => match nilG P t x y with
    | true => match op with | .eql => some (kG (.bool false)) | .neq => some (kG (.bool true)) | _ => none
    | false => none

section
variable {P : Program} {G : Glo} {B0 : Nat} {R : Lay} {H : AH} {w : World} {t : TypeId} {x y r : GV} {u v : Value}
theorem eqIn_p {d : Nat} {e : TypeId} {a : Addr} (h : P.underlying t = some (.pointer e)) : (Op.equalIn (d + 1) t (.pointer (some a)) (.pointer none)).run P w = .ok false w := by
  simp [Op.equalIn, run_underlying h]
theorem eqIn_f {d : Nat} {a b : Array TypeId} {q : Bool} {fn : Fn} {xs ys : Array Value} (h : P.underlying t = some (.func a b q)) : (Op.equalIn (d + 1) t (.func fn xs ys) .nilFunc).run P w = .ok false w := by
  simp [Op.equalIn, run_underlying h]
theorem nilG_ok (h : nilG P t x y = true) (hx : x.rel R u) (hy : y.rel R v) : (∀ w, (Op.equal t u v).run P w = .ok false w) ∧ ∀ op cx cy w, (eqG op t cx cy u v).run P w = .ok () w := by
  unfold nilG at h
  split at h
  · split at h
    · rename_i hu; obtain ⟨L, _, rfl⟩ := hx; cases hy
      exact ⟨fun w => eqIn_p (d := 9999) hu, fun op cx cy w => by unfold eqG eqGuard; cases op <;> simp [Sem.run_pure]⟩
    · cases h
  · split at h
    · rename_i hu; obtain ⟨L, _, _, rfl⟩ := hx; cases hy
      exact ⟨fun w => run_equal_slice_nil w t _ _ _ _ hu, fun op cx cy w => by unfold eqG eqGuard; cases op <;> simp [Sem.run_pure]⟩
    · cases h
  · split at h
    · rename_i hu; obtain ⟨L, _, rfl⟩ := hx; cases hy
      exact ⟨fun w => run_equal_slice_nil w t _ _ _ _ hu, fun op cx cy w => by unfold eqG eqGuard; cases op <;> simp [Sem.run_pure]⟩
    · cases h
  · split at h
    · rename_i hu; obtain ⟨L, _, rfl⟩ := hx; cases hy
      exact ⟨fun w => run_equal_map_nil w t _ _ _ hu, fun op cx cy w => by unfold eqG eqGuard; cases op <;> simp [Sem.run_pure]⟩
    · cases h
  · split at h
    · rename_i hu; obtain ⟨xs, ys, _, _, rfl⟩ := hx; cases hy
      exact ⟨fun w => eqIn_f (d := 9999) hu, fun op cx cy w => by unfold eqG eqGuard; cases op <;> simp [Sem.run_pure]⟩
    · cases h
  · cases h
theorem bin_yld {op : BinOp} {cx cy : Bool} (h : binG P op t cx cy x y = some r) (hx : x.rel R u) (hy : y.rel R v) : Yld (bin P op t cx cy u v) R r w := by
  unfold binG at h
  split at h
  · rename_i a b ha hb
    cases hq : prun P (do eqG op t cx cy a b; binOp op t a b) with
    | none => rw [hq] at h; cases h
    | some q =>
      rw [hq] at h; cases h
      rw [toV_rel ha hx, toV_rel hb hy]
      exact ⟨q, rfl, fun K hk => okV_of (prun_run hq w) hk⟩
  · split at h
    · rename_i hn
      obtain ⟨he, hg⟩ := nilG_ok hn hx hy
      have key : ∀ c : Bool, (op = .eql ∧ c = false ∨ op = .neq ∧ c = true) → Yld (bin P op t cx cy u v) R (kG (.bool c)) w := by
        intro c hc
        refine ⟨.bool c, rfl, fun K hk => bin_of (hg ..) ?_ hk⟩
        have hi : ∀ k k' a b, ¬ (u = .int k a ∧ v = .int k' b) := by
          rintro k k' a b ⟨rfl, rfl⟩
          unfold nilG at hn
          split at hn <;> first | (cases hy; done) | cases hn
        rcases hc with ⟨rfl, rfl⟩ | ⟨rfl, rfl⟩
        · unfold nilG at hn
          split at hn <;> first
            | (obtain ⟨L, _, rfl⟩ := hx; cases hy; simp only [binOp, Sem.run_bind, he, Result.andThen_ok, Sem.run_pure]; done)
            | (obtain ⟨_, _, _, rfl⟩ := hx; cases hy; simp only [binOp, Sem.run_bind, he, Result.andThen_ok, Sem.run_pure]; done)
            | (obtain ⟨_, _, _, _, rfl⟩ := hx; cases hy; simp only [binOp, Sem.run_bind, he, Result.andThen_ok, Sem.run_pure]; done)
            | cases hn
        · unfold nilG at hn
          split at hn <;> first
            | (obtain ⟨L, _, rfl⟩ := hx; cases hy; simp only [binOp, Sem.run_bind, he, Result.andThen_ok, Sem.run_pure]; rfl)
            | (obtain ⟨_, _, _, rfl⟩ := hx; cases hy; simp only [binOp, Sem.run_bind, he, Result.andThen_ok, Sem.run_pure]; rfl)
            | (obtain ⟨_, _, _, _, rfl⟩ := hx; cases hy; simp only [binOp, Sem.run_bind, he, Result.andThen_ok, Sem.run_pure]; rfl)
            | cases hn
      split at h
      · cases h; exact key _ (.inl ⟨rfl, rfl⟩)
      · cases h; exact key _ (.inr ⟨rfl, rfl⟩)
      · cases h
    · cases h
end

def unG (P : Program) (op : UnOp) (x : GV) : Option GV := match toV x with | some u => (prun P (Op.unary op u)).map kG | none => none
theorem un_yld {P : Program} {R : Lay} {w : World} {op : UnOp} {x r : GV} {u : Value} (h : unG P op x = some r) (hx : x.rel R u) : Yld (un P op u) R r w := by
  unfold unG at h
  split at h
  · rename_i a ha
    cases hq : prun P (Op.unary op a) with
    | none => rw [hq] at h; cases h
    | some q =>
      rw [hq] at h; cases h
      rw [toV_rel ha hx]
      exact ⟨q, rfl, fun K hk => okV_of (prun_run hq w) hk⟩
  · cases h

def bytesK : List CV → Option (List UInt8)
  | [] => some []
  | .k (.int .u8 (.ofNat n)) :: r => match Nat.blt n 256 with | true => (match bytesK r with | some l => some (UInt8.ofNat n :: l) | none => none) | false => none
  | _ => none
theorem bytesK_rel {R : Lay} : ∀ {cs : List CV} {l : List UInt8} {vs : List Value}, bytesK cs = some l → All2 (CR R) cs vs → vs = l.map u8v
  | [], _, _, h, hr => by cases h; cases hr; rfl
  | .k (.int .u8 (.ofNat n)) :: r, l, vs, h, hr => by
    unfold bytesK at h
    split at h
    · rename_i hb
      split at h
      · rename_i l' hl
        cases h
        cases hr with
        | cons h1 h2 =>
          rw [bytesK_rel hl h2, h1.1]
          have : (UInt8.ofNat n).toNat = n := by
            have := blt_iff.1 hb
            simp; omega
          simp [u8v, this]
      · cases h
    · cases h
theorem bytesK_len : ∀ {cs : List CV} {l : List UInt8}, bytesK cs = some l → l.length = cs.length
  | [], _, h => by cases h; rfl
  | .k (.int .u8 (.ofNat n)) :: r, l, h => by
    unfold bytesK at h
    split at h
    · split at h
      · rename_i hl; cases h; simp [bytesK_len hl]
      · cases h
    · cases h
def convG (P : Program) (H : AH) (s d : TypeId) (x : GV) : Option GV :=
  match toV x with
  | some u => (prun P (convert s d u)).map kG
  | none => match x with
    | .val (.one (.s b o _ n _)) => match P.underlying s, P.underlying d, H.get b with
      | some (.slice e), some .string, some (.cells _ _ _ cs) => match P.underlying e with
        | some (.int .u8) => match bytesK ((cs.drop o).take n) with
          | some l => match Nat.beq l.length n with | true => some (kG (.string (bstr l))) | false => none
          | none => none
        | _ => none
      | _, _, _ => none
    | _ => none
theorem take_cells {cs : List CV} {R : Lay} {c : List Value} (hc : All2 (CR R) cs (c.take cs.length)) {o n : Nat} (hn : ((cs.drop o).take n).length = n) : All2 (CR R) ((cs.drop o).take n) ((c.drop o).take n) := by
  have h := (hc.drop o).take n
  have e : ((c.take cs.length).drop o).take n = (c.drop o).take n := by
    rw [List.drop_take, List.take_take]
    congr 1
    have : n ≤ cs.length - o := by rw [List.length_take, List.length_drop] at hn; omega
    omega
  rw [e] at h; exact h
section
variable {P : Program} {G : Glo} {B0 : Nat} {R : Lay} {H : AH} {w : World} {t : TypeId} {x y r : GV} {u v : Value}
theorem Sim.cells (hs : Sim G B0 R H w) {b : Nat} {e : TypeId} {z : Nat} {g : Bool} {cs : List CV} (hb : H.get b = some (.cells e z g cs)) {L : Loc} (hL : R b = some L) : ∃ c, blk w L.B e c ∧ CellsR R L z g cs c ∧ B0 ≤ L.B := by
  obtain ⟨M, h1, h2, c, h3, h4⟩ := hs.obj b _ hb rfl
  rw [hL] at h1; cases h1
  exact ⟨c, h3, h4, h2⟩
theorem conv_yld {s d : TypeId} (h : convG P H s d x = some r) (hs : Sim G B0 R H w) (hx : x.rel R u) : Yld (conv P s d u) R r w := by
  unfold convG at h
  split at h
  · rename_i a ha
    cases hq : prun P (convert s d a) with
    | none => rw [hq] at h; cases h
    | some q =>
      rw [hq] at h; cases h
      rw [toV_rel ha hx]
      exact ⟨q, rfl, fun K hk => okV_of (prun_run hq w) hk⟩
  · split at h
    · rename_i b o lo n c hno
      split at h
      · rename_i e0 e z g cs hs' hd hg
        split at h
        · rename_i he
          split at h
          · rename_i l hl
            split at h
            · rename_i hbq
              cases h
              obtain ⟨L, hL, hnc, rfl⟩ := hx
              obtain ⟨cc, hb, hc, _⟩ := hs.cells hg hL
              have hbn : l.length = n := Nat.eq_of_beq_eq_true hbq
              have hlen : ((cs.drop o).take n).length = n := by
                rw [← bytesK_len hl, hbn]
              have hv' := bytesK_rel hl (take_cells hc.rel hlen)
              refine ⟨_, rfl, fun K hk => conv_str hs' he hd (l := l) ?_ hk⟩
              refine ⟨by simpa using hbn, hnc, fun _ => ⟨_, _, rfl⟩, (fun h => nomatch h), fun i v hv => ?_⟩
              rw [slotA_some, hb.cell, ← hv, ← hv']
              rw [List.getElem?_take, List.getElem?_drop, if_pos]
              have := (List.getElem?_eq_some_iff.1 hv).1
              rw [List.length_map] at this
              omega
            · cases h
          · cases h
        · cases h
      · cases h
    · cases h

/-! ## Places. -/
def mvG (x : GV) (d : Nat) : Option GV :=
  match x with
  | .val (.one (.p b o)) => some (oneG (.p b (o + d)))
  | .val (.one (.g b o)) => some (oneG (.g b (o + d)))
  | _ => none
theorem mvG_rel {d : Nat} (h : mvG x d = some r) (hx : x.rel R u) : ∃ B o, u = .pointer (some ⟨B, o, none⟩) ∧ r.rel R (.pointer (some ⟨B, o + d, none⟩)) := by
  unfold mvG at h
  split at h
  · cases h; obtain ⟨L, h1, rfl⟩ := hx; exact ⟨_, _, rfl, L, h1, rfl⟩
  · cases h; cases hx; exact ⟨_, _, rfl, rfl⟩
  · cases h
def fldAG (P : Program) (t : TypeId) (x : GV) (f : Nat) : Option GV := match fOff P t f with | some off => mvG x off | none => none
theorem fldA_yld {f : Nat} (h : fldAG P t x f = some r) (hx : x.rel R u) : Yld (fldA P t u f) R r w := by
  unfold fldAG at h
  split at h
  · rename_i off hf
    obtain ⟨B, o, rfl, hr⟩ := mvG_rel h hx
    exact ⟨_, hr, fun K hk => fldA_of hf hk⟩
  · cases h
theorem size_run {e : TypeId} {i : TypeInfo} (hi : P.info? e = some i) : ∀ w, (sizeOf e).run P w = .ok i.size w := fun w => by simp [sizeOf, typeInfo, hi]
def natG : GV → Option (IntKind × Nat)
  | .val (.one (.k (.int k (.ofNat n)))) => some (k, n)
  | _ => none
theorem natG_rel {q : IntKind × Nat} (h : natG x = some q) (hx : x.rel R u) : u = .int q.1 (q.2 : Int) := by
  unfold natG at h
  split at h
  · cases h; cases hx; rfl
  · cases h
def idxAG (P : Program) (t : TypeId) (x i : GV) : Option GV :=
  match natG i, P.underlying t with
  | some (_, j), some (.array n e) => match Nat.blt j n, P.info? e with
    | true, some ie => mvG x (j * ie.size)
    | _, _ => none
  | some (_, j), some (.slice e) => match x, P.info? e with
    | .val (.one (.s b o _ n _)), some ie => match Nat.blt j n with
      | true => some (oneG (.p b (o + j * ie.size)))
      | false => none
    | _, _ => none
  | _, _ => none
theorem idxA_yld {i : GV} (h : idxAG P t x i = some r) (hx : x.rel R u) (hi : i.rel R v) : Yld (idxA P t u v) R r w := by
  unfold idxAG at h
  split at h
  · rename_i k j n e hn ht
    have hv := natG_rel hn hi
    subst hv
    split at h
    · rename_i ie hb hie
      obtain ⟨B, o, rfl, hr⟩ := mvG_rel h hx
      have hlt := blt_iff.1 hb
      exact ⟨_, hr, fun K hk => idxArr ht (size_run hie) (by simp) (by simpa using hlt) (by simpa using hk)⟩
    · cases h
  · rename_i k j e hn ht
    have hv := natG_rel hn hi
    subst hv
    split at h
    · rename_i b o lo n c ie hie
      split at h
      · rename_i hb
        cases h
        obtain ⟨L, hL, _, rfl⟩ := hx
        have hlt := blt_iff.1 hb
        exact ⟨_, ⟨L, hL, rfl⟩, fun K hk => idxRow ht (size_run hie) (by simp) (by simpa using hlt) (by simpa using hk)⟩
      · cases h
    · cases h
  · cases h
def nilCG : GV → Bool
  | .val (.one (.p ..)) => true
  | .val (.one (.g ..)) => true
  | .val (.one (.f ..)) => true
  | .val (.one (.k (.func (.func _) _ _))) => true
  | _ => false
theorem nilC_yld (h : nilCG x = true) (hx : x.rel R u) : Yld (nilC u) R x w := by
  refine ⟨u, hx, fun K hk => ?_⟩
  unfold nilCG at h
  split at h
  · obtain ⟨L, _, rfl⟩ := hx; exact hk
  · cases hx; exact hk
  · obtain ⟨xs, ys, _, _, rfl⟩ := hx; exact hk
  · cases hx; exact hk
  · cases h

/-! ## Reading. -/
def ldCells (P : Program) (t : TypeId) (cs : List CV) (o : Nat) : Option GV :=
  match P.underlying t with
  | some d => match d.isRow with
    | true => match P.info? t with
      | some i => match Nat.beq ((cs.drop o).take i.size).length i.size with | true => some (.val (.agg ((cs.drop o).take i.size))) | false => none
      | none => none
    | false => match cs[o]? with | some c => some (oneG c) | none => none
  | none => none
theorem isAgg_run {d : TypeDesc} (hd : P.underlying t = some d) (hr : d.isRow = false) : ∀ w, (isAgg t).run P w = .ok false w := fun w => by
  unfold isAgg
  rw [Sem.run_bind, run_underlying hd w]
  cases d <;> simp_all [TypeDesc.isRow]
theorem ldCells_yld {cs : List CV} {o B : Nat} {c : List Value} (h : ldCells P t cs o = some r) (hb : ∀ o, w.cell? ⟨B, o, none⟩ = c[o]?) (hc : All2 (CR R) cs (c.take cs.length)) : Yld (ld P t (.pointer (some ⟨B, o, none⟩))) R r w := by
  unfold ldCells at h
  split at h
  · rename_i d hd
    split at h
    · rename_i hr
      split at h
      · rename_i i hi
        split at h
        · rename_i hbq
          cases h
          have hlen := Nat.eq_of_beq_eq_true hbq
          have ha := take_cells hc hlen
          refine ⟨_, ⟨_, ha, rfl⟩, fun K hk => ld_of (run_loadVar_mid w B o t _ d ?_ hd hr (by rw [ha.len, hlen]; simp [hi])) hk⟩
          intro j v hj
          rw [hb]
          rw [List.getElem?_take] at hj
          split at hj
          · rw [List.getElem?_drop] at hj; exact hj
          · cases hj
        · cases h
      · cases h
    · rename_i hr
      split at h
      · rename_i a ha
        cases h
        obtain ⟨v, hv, hav⟩ := hc.get ha
        have hv2 : c[o]? = some v := by
          rw [List.getElem?_take] at hv
          split at hv
          · exact hv
          · cases hv
        exact ⟨v, hav.1, fun K hk => ld_cell (isAgg_run hd hr) (by rw [hb, hv2]) hk⟩
      · cases h
  · cases h
def ldG (P : Program) (G : Glo) (H : AH) (t : TypeId) (x : GV) : Option GV :=
  match x with
  | .val (.one (.p b o)) => match H.get b with
    | some (.cells _ _ _ cs) => ldCells P t cs o
    | _ => none
  | .val (.one (.g b o)) => match G b with
    | some (_, cs) => match cs.all (·.oneCell') with | true => ldCells P t (cs.map .k) o | false => none
    | none => none
  | _ => none
theorem ld_yld (h : ldG P G H t x = some r) (hs : Sim G B0 R H w) (hx : x.rel R u) : Yld (ld P t u) R r w := by
  unfold ldG at h
  split at h
  · split at h
    · rename_i e z g cs hg
      obtain ⟨L, hL, rfl⟩ := hx
      obtain ⟨c, hb, hc, _⟩ := hs.cells hg hL
      exact ldCells_yld h hb.cell hc.rel
    · cases h
  · rename_i b o
    split at h
    · rename_i e cs hg
      split at h
      · rename_i hall
        cases hx
        exact ldCells_yld h (hs.glob _ _ _ hg).2.cell (by have := kL_rel (R := R) hall; rwa [List.take_of_length_le (by simp)])
      · cases h
    · cases h
  · cases h
def fldV (P : Program) (t : TypeId) (x : GV) (f : Nat) : Option GV :=
  match x with
  | .val (.agg cs) => match fldOf P t f with
    | some (off, n, true) => match Nat.beq ((cs.drop off).take n).length n with | true => some (.val (.agg ((cs.drop off).take n))) | false => none
    | some (off, _, false) => match cs[off]? with | some c => some (oneG c) | none => none
    | none => none
  | _ => none
theorem fld_yld {f : Nat} (h : fldV P t x f = some r) (hx : x.rel R u) : Yld (fld P t u f) R r w := by
  unfold fldV at h
  split at h
  · rename_i cs
    obtain ⟨vs, hvs, rfl⟩ := hx
    split at h
    · rename_i off n hf
      split at h
      · cases h
        exact ⟨_, ⟨_, (hvs.drop off).take n, rfl⟩, fun K hk => fldG hf rfl hk⟩
      · cases h
    · rename_i off n hf
      split at h
      · rename_i a ha
        cases h
        obtain ⟨v, hv, hav⟩ := hvs.get ha
        exact ⟨v, hav.1, fun K hk => fld1 hf hv hk⟩
      · cases h
    · cases h
  · cases h
def extG (x : GV) (i : Nat) : Option GV := match x with | .tup l => (match l[i]? with | some a => some (.val a) | none => none) | _ => none
theorem ext_yld {i : Nat} (h : extG x i = some r) (hx : x.rel R u) : Yld (ext P u i) R r w := by
  unfold extG at h
  split at h
  · obtain ⟨vs, hvs, rfl⟩ := hx
    split at h
    · rename_i a ha
      cases h
      obtain ⟨v, hv, hav⟩ := hvs.get ha
      exact ⟨v, hav, fun K hk => ext_of (by simpa using hv) hk⟩
    · cases h
  · cases h
def pickG (c x y : GV) : Option GV := match c with | .val (.one (.k (.bool b))) => (match b with | true => some x | false => some y) | _ => none
theorem pick_yld {c : GV} {q : Value} (h : pickG c x y = some r) (hc : c.rel R q) (hx : x.rel R u) (hy : y.rel R v) : Yld (pick q u v) R r w := by
  unfold pickG at h
  split at h
  · cases hc
    split at h
    · cases h; exact ⟨u, hx, fun K hk => ⟨true, rfl, hk⟩⟩
    · cases h; exact ⟨v, hy, fun K hk => ⟨false, rfl, hk⟩⟩
  · cases h
end
end Go.Proofs.YtfjafbbalohmhaaGreatDoor
namespace Go.Proofs.YtfjafbbalohmhaaGreatDoor
set_option maxRecDepth 100000
open Go.RowKit

section
variable {P : Program} {G : Glo} {B0 : Nat} {R : Lay} {H : AH} {w : World} {t : TypeId} {x y r : GV} {u v : Value}
/-! ## An element of an array value. -/
def idxV (P : Program) (t : TypeId) (x i : GV) : Option GV :=
  match toV x, toV i with
  | some u, some v => (prun P (Instr.index t u v)).map ofV
  | _, _ => match x, natG i, P.underlying t with
    | .val (.agg cs), some (_, j), some (.array n e) => match Nat.blt j n, P.info? e, P.underlying e with
      | true, some ie, some d => match d.isRow with
        | true => match Nat.beq ((cs.drop (j * ie.size)).take ie.size).length ie.size with | true => some (.val (.agg ((cs.drop (j * ie.size)).take ie.size))) | false => none
        | false => match cs[j * ie.size]? with | some c => some (oneG c) | none => none
      | _, _, _ => none
    | _, _, _ => none
theorem idx_yld {i : GV} (h : idxV P t x i = some r) (hx : x.rel R u) (hi : i.rel R v) : Yld (idx P t u v) R r w := by
  unfold idxV at h
  split at h
  · rename_i a b ha hb
    cases hq : prun P (Instr.index t a b) with
    | none => rw [hq] at h; cases h
    | some q =>
      rw [hq] at h; cases h
      rw [toV_rel ha hx, toV_rel hb hi]
      exact ⟨q, ofV_rel, fun K hk => okV_of (prun_run hq w) hk⟩
  · split at h
    · rename_i cs k j n e hn ht hno
      have hv := natG_rel hn hi
      subst hv
      obtain ⟨vs, hvs, rfl⟩ := hx
      split at h
      · rename_i ie d hb hie hd
        have hlt := blt_iff.1 hb
        have h1 : (0 : Int) ≤ (j : Int) := by omega
        have h2 : ((j : Nat) : Int) < (n : Int) := by omega
        split at h
        · rename_i hr
          split at h
          · rename_i hbq
            cases h
            have ha : ∀ w, (isAgg e).run P w = .ok true w := fun w => by
              unfold isAgg
              rw [Sem.run_bind, run_underlying hd w]
              cases d <;> simp_all [TypeDesc.isRow]
            refine ⟨_, ⟨_, (hvs.drop _).take _, rfl⟩, fun K hk => ?_⟩
            unfold idx
            refine okV_of (w' := w) ?_ hk
            simp only [Instr.index, asIntOf, Sem.run_bind, Sem.run_pure, Result.andThen_ok, run_underlying ht, h1, h2, and_self, if_true, size_run hie, part, ha, Int.toNat_natCast]
            congr 3
            rw [List.extract_toArray]
            simp [List.extract_eq_take_drop]
          · cases h
        · rename_i hr
          split at h
          · rename_i a ha
            cases h
            obtain ⟨v, hv, hav⟩ := hvs.get ha
            refine ⟨v, hav.1, fun K hk => ?_⟩
            unfold idx
            refine okV_of (w' := w) ?_ hk
            simp only [Instr.index, asIntOf, Sem.run_bind, Sem.run_pure, Result.andThen_ok, run_underlying ht, h1, h2, and_self, if_true, size_run hie, part, isAgg_run hd hr, Int.toNat_natCast]
            simp [hv]
          · cases h
      · cases h
    · cases h

/-! ## Parts of slices. -/
def optN : Option GV → Option (Option (IntKind × Nat))
  | none => some none
  | some x => match natG x with | some q => some (some q) | none => none
def optV : Option GV → Option (Option Value)
  | none => some none
  | some x => match toV x with | some q => some (some q) | none => none
def cutG (b o lo n l h z : Nat) : Option Nat → Option GV
  | some m => match Nat.beq m l with
    | true => some (oneG (.s b o 0 (h - l) (some 0)))
    | false => some (oneG (.s b (o + l * z) 0 (h - l) (some (m - l))))
  | none => match Nat.blt l h, Nat.beq l 0 with
    | true, _ => some (oneG (.s b (o + l * z) (lo + l) (h - l) none))
    | false, true => some (oneG (.s b o lo 0 none))
    | false, false => some (oneG (.se b o (o + l * z) lo l))
def slcG (P : Program) (t : TypeId) (x : GV) (lo hi mx : Option GV) : Option GV :=
  match toV x, optV lo, optV hi, optV mx with
  | some u, some l, some h, some m => (prun P (Instr.sliceAt t u l h m)).map kG
  | _, _, _, _ => match P.underlying t, optN lo, optN hi, optN mx, x with
    | some (.slice e), some l, some h, some m, .val (.one (.s b o q n c)) => match P.info? e with
      | some ie =>
        let l' := (l.map (·.2)).getD 0
        let h' := (h.map (·.2)).getD n
        match Nat.ble l' h', m, h, c with
        | true, none, none, none => cutG b o q n l' h' ie.size none
        | true, none, some _, none => match Nat.ble h' n with | true => cutG b o q n l' h' ie.size none | false => none
        | true, none, none, some C => cutG b o q n l' h' ie.size (some C)
        | true, none, some _, some C => match Nat.ble h' C with | true => cutG b o q n l' h' ie.size (some C) | false => none
        | true, some (_, m'), some _, none => match Nat.ble h' m', Nat.ble m' n with | true, true => cutG b o q n l' h' ie.size (some m') | _, _ => none
        | true, some (_, m'), some _, some C => match Nat.ble h' m', Nat.ble m' C with | true, true => cutG b o q n l' h' ie.size (some m') | _, _ => none
        | _, _, _, _ => none
      | none => none
    | some (.slice e), some l, some h, some none, .val (.one (.se b o o' q k)) => match P.info? e, Nat.beq ((l.map (·.2)).getD 0) 0, Nat.beq ((h.map (·.2)).getD 0) 0 with
      | some _, true, true => some x
      | _, _, _ => none
    | some (.array n e), some l, some h, some m, .val (.one (.p b o)) => match P.info? e with
      | some ie =>
        let l' := (l.map (·.2)).getD 0
        let h' := (h.map (·.2)).getD n
        match Nat.ble l' h', Nat.ble h' n, m with
        | true, true, none => cutG b o 0 n l' h' ie.size (some n)
        | _, _, _ => none
      | none => none
    | _, _, _, _, _ => none
def optRel (R : Lay) : Option GV → Option Value → Prop
  | none, none => True
  | some a, some v => a.rel R v
  | _, _ => False
def tv (q : IntKind × Nat) : Value := .int q.1 (q.2 : Int)
theorem optN_rel {lo : Option GV} {l : Option (IntKind × Nat)} {lv : Option Value} (h : optN lo = some l) (hr : optRel R lo lv) : lv = l.map tv := by
  cases lo with
  | none => cases h; cases lv with | none => rfl | some _ => exact hr.elim
  | some a =>
    cases lv with
    | none => exact hr.elim
    | some v =>
      unfold optN at h
      simp only at h
      split at h
      · rename_i q hq; cases h; rw [natG_rel hq hr]; rfl
      · cases h
theorem optV_rel {lo : Option GV} {l lv : Option Value} (h : optV lo = some l) (hr : optRel R lo lv) : lv = l := by
  cases lo with
  | none => cases h; cases lv with | none => rfl | some _ => exact hr.elim
  | some a =>
    cases lv with
    | none => exact hr.elim
    | some v =>
      unfold optV at h
      simp only at h
      split at h
      · rename_i q hq; cases h; rw [toV_rel hq hr]
      · cases h
theorem bnds {isS : Bool} {n C : Nat} {l h m : Option (IntKind × Nat)} (hm : (m.map (·.2)).getD C ≤ C) (hh : ((h.map (·.2)).getD n ≤ (m.map (·.2)).getD C) ∨ h = none) (hl : (l.map (·.2)).getD 0 ≤ (h.map (·.2)).getD n) (hmh : m ≠ none → h ≠ none) :
    ∀ w, (Instr.sliceBounds isS n C (l.map tv) (h.map tv) (m.map tv)).run P w = .ok ((l.map (·.2)).getD 0, (h.map (·.2)).getD n, (m.map (·.2)).getD C) w := by
  intro w
  have sb : ∀ (k : IntKind) (i y : Nat) code, i ≤ y → (Instr.sliceBound (.int k (i : Int)) y code).run P w = .ok i w := fun k i y code hi => by
    have := run_sliceBound (P := P) w k (i : Int) y code (by omega) (by omega)
    simpa using this
  cases m with
  | none =>
    cases h with
    | none =>
      cases l with
      | none => simp [Instr.sliceBounds]
      | some q => simp at hl; simp [Instr.sliceBounds, tv, sb _ _ _ _ hl]
    | some p =>
      have hh : p.2 ≤ C := by simpa using hh
      cases l with
      | none => simp [Instr.sliceBounds, tv, sb _ _ _ _ hh]
      | some q => simp at hl; simp [Instr.sliceBounds, tv, sb _ _ _ _ hh, sb _ _ _ _ hl]
  | some a =>
    cases h with
    | none => exact absurd rfl (hmh (by simp))
    | some p =>
      have hh : p.2 ≤ a.2 := by simpa using hh
      have hm : a.2 ≤ C := by simpa using hm
      cases l with
      | none => simp [Instr.sliceBounds, tv, sb _ _ _ _ hh, sb _ _ _ _ hm]
      | some q => simp at hl; simp [Instr.sliceBounds, tv, sb _ _ _ _ hh, sb _ _ _ _ hm, sb _ _ _ _ hl]
theorem slc_run {e : TypeId} {ie : TypeInfo} {B o n C l h m : Nat} {lo hi mx : Option Value} {K : KV} (ht : P.underlying t = some (.slice e)) (hie : P.info? e = some ie) (hb : ∀ w, (Instr.sliceBounds true n C lo hi mx).run P w = .ok (l, h, m) w)
    (hk : K (.slice (some ⟨B, (if m = l then o else o + l * ie.size), none⟩) (h - l) (m - l)) w) : slc P t (.slice (some ⟨B, o, none⟩) n C) lo hi mx K w := by
  unfold slc
  refine okV_of (w' := w) ?_ hk
  simp only [Instr.sliceAt, Instr.slice, Sem.run_bind, run_underlying ht, Result.andThen_ok, hb, size_run hie, Sem.run_pure]
  split <;> simp [add_p]
theorem slc_runA {e : TypeId} {ie : TypeInfo} {B o n l h m : Nat} {lo hi mx : Option Value} {K : KV} (ht : P.underlying t = some (.array n e)) (hie : P.info? e = some ie) (hb : ∀ w, (Instr.sliceBounds false n n lo hi mx).run P w = .ok (l, h, m) w)
    (hk : K (.slice (some ⟨B, (if m = l then o else o + l * ie.size), none⟩) (h - l) (m - l)) w) : slc P t (.pointer (some ⟨B, o, none⟩)) lo hi mx K w := by
  unfold slc
  refine okV_of (w' := w) ?_ hk
  simp only [Instr.sliceAt, Instr.sureAddr, Sem.run_bind, run_underlying ht, Result.andThen_ok, hb, size_run hie, Sem.run_pure]
  split <;> simp [add_p]
theorem cutG_rel {b o lo n l h z : Nat} {mo : Option Nat} {L : Loc} (hc : cutG b o lo n l h z mo = some r) (hL : R b = some L) (hlh : l ≤ h) (hm : h ≤ mo.getD (L.cap - lo)) :
    r.rel R (.slice (some ⟨L.B, (if mo.getD (L.cap - lo) = l then o else o + l * z), none⟩) (h - l) (mo.getD (L.cap - lo) - l)) := by
  unfold cutG at hc
  cases mo with
  | some m =>
    simp only [Option.getD_some] at *
    split at hc
    · rename_i hb
      cases hc
      have := Nat.eq_of_beq_eq_true hb
      subst this
      refine ⟨L, hL, ?_, ?_⟩
      · simp [capOf]; omega
      · simp [capOf]
    · rename_i hb
      cases hc
      have := eb hb
      simp only [Bool.false_eq_true, if_false] at this
      refine ⟨L, hL, ?_, ?_⟩
      · simp [capOf]; omega
      · rw [if_neg this]; simp [capOf]
  | none =>
    simp only [Option.getD_none] at *
    split at hc
    · rename_i hb
      cases hc
      have := blt_iff.1 hb
      refine ⟨L, hL, ?_, ?_⟩
      · simp [capOf]; omega
      · rw [if_neg (by omega)]; simp [capOf]; omega
    · rename_i hb h0
      cases hc
      have : ¬ l < h := fun hh => by rw [blt_iff.2 hh] at hb; cases hb
      have h0 := Nat.eq_of_beq_eq_true h0
      subst h0
      have : h = 0 := by omega
      subst this
      refine ⟨L, hL, ?_, ?_⟩
      · simp
      · simp [capOf]
    · rename_i hb h0
      cases hc
      have : ¬ l < h := fun hh => by rw [blt_iff.2 hh] at hb; cases hb
      refine ⟨L, hL, ?_⟩
      have : h - l = 0 := by omega
      rw [this]
theorem slc_yld {lo hi mx : Option GV} {lv hv mv : Option Value} (h : slcG P t x lo hi mx = some r) (hx : x.rel R u)
    (hl : optRel R lo lv) (hh : optRel R hi hv) (hm : optRel R mx mv) : Yld (slc P t u lv hv mv) R r w := by
  unfold slcG at h
  split at h
  · rename_i a l h' m ha el eh em
    cases hq : prun P (Instr.sliceAt t a l h' m) with
    | none => rw [hq] at h; cases h
    | some q =>
      rw [hq] at h; cases h
      rw [toV_rel ha hx, optV_rel el hl, optV_rel eh hh, optV_rel em hm]
      exact ⟨q, rfl, fun K hk => okV_of (prun_run hq w) hk⟩
  · split at h
    · rename_i e l h' m b o q n c ht el eh em hno
      rw [optN_rel el hl, optN_rel eh hh, optN_rel em hm]
      obtain ⟨L, hL, hnc, rfl⟩ := hx
      split at h
      · rename_i ie hie
        simp only at h
        have fin : ∀ (mo : Option Nat), cutG b o q n ((l.map (·.2)).getD 0) ((h'.map (·.2)).getD n) ie.size mo = some r → mo.getD (L.cap - q) = (m.map (·.2)).getD (capOf L q c) → (m.map (·.2)).getD (capOf L q c) ≤ capOf L q c →
            ((h'.map (·.2)).getD n ≤ (m.map (·.2)).getD (capOf L q c)) → (l.map (·.2)).getD 0 ≤ (h'.map (·.2)).getD n → (m ≠ none → h' ≠ none) → Yld (slc P t (.slice (some ⟨L.B, o, none⟩) n (capOf L q c)) (l.map tv) (h'.map tv) (m.map tv)) R r w := by
          intro mo hc h1 h2 h3 h4 h5
          refine ⟨_, cutG_rel hc hL h4 (by rw [h1]; exact h3), fun K hk => slc_run ht hie (bnds h2 (.inl h3) h4 h5) ?_⟩
          rw [h1] at hk; exact hk
        split at h
        · rename_i hle; exact fin _ h (by simp [capOf]) (by simp) (by simpa using hnc) (Nat.le_of_ble_eq_true hle) (fun h => absurd rfl h)
        · rename_i hle
          split at h
          · rename_i hhn; exact fin _ h (by simp [capOf]) (by simp) (Nat.le_trans (Nat.le_of_ble_eq_true hhn) (by simpa using hnc)) (Nat.le_of_ble_eq_true hle) (fun h => absurd rfl h)
          · cases h
        · rename_i hle; exact fin _ h (by simp [capOf]) (by simp) (by simpa using hnc) (Nat.le_of_ble_eq_true hle) (fun h => absurd rfl h)
        · rename_i hle
          split at h
          · rename_i hhn; exact fin _ h (by simp [capOf]) (by simp) (Nat.le_trans (Nat.le_of_ble_eq_true hhn) (by simp [capOf])) (Nat.le_of_ble_eq_true hle) (fun h => absurd rfl h)
          · cases h
        · rename_i hle
          split at h
          · rename_i h1 h2; exact fin _ h (by simp) (Nat.le_trans (Nat.le_of_ble_eq_true h2) (by simpa using hnc)) (by simpa using Nat.le_of_ble_eq_true h1) (Nat.le_of_ble_eq_true hle) (fun _ h => by cases h)
          · cases h
        · rename_i hle
          split at h
          · rename_i h1 h2; exact fin _ h (by simp) (Nat.le_trans (Nat.le_of_ble_eq_true h2) (by simp [capOf])) (by simpa using Nat.le_of_ble_eq_true h1) (Nat.le_of_ble_eq_true hle) (fun _ h => by cases h)
          · cases h
        · cases h
      · cases h
    · rename_i e l h' b o o' q k ht el eh em hno
      rw [optN_rel el hl, optN_rel eh hh, optN_rel em hm]
      obtain ⟨L, hL, rfl⟩ := hx
      split at h
      · rename_i ie hie h1 h2
        cases h
        have h1 := Nat.eq_of_beq_eq_true h1
        have h2 := Nat.eq_of_beq_eq_true h2
        refine ⟨_, ⟨L, hL, rfl⟩, fun K hk => slc_run ht hie (bnds (m := none) (by simp) (.inl (by rw [h2]; simp)) (by rw [h1]; exact Nat.zero_le _) (fun h => absurd rfl h)) ?_⟩
        rw [h1, h2]
        simpa using hk
      · cases h
    · rename_i n e l h' m b o ht el eh em hno
      rw [optN_rel el hl, optN_rel eh hh, optN_rel em hm]
      obtain ⟨L, hL, rfl⟩ := hx
      split at h
      · rename_i ie hie
        simp only at h
        split at h
        · rename_i h1 h2
          have h1 := Nat.le_of_ble_eq_true h1
          have h2 := Nat.le_of_ble_eq_true h2
          have := cutG_rel (R := R) h hL h1 (by simpa using h2)
          refine ⟨_, this, fun K hk => slc_runA ht hie (bnds (by simp) (.inl (by simpa using h2)) h1 (fun h => absurd rfl h)) (by simpa using hk)⟩
        · cases h
      · cases h
    · cases h
end
end Go.Proofs.YtfjafbbalohmhaaGreatDoor
namespace Go.Proofs.YtfjafbbalohmhaaGreatDoor
set_option maxRecDepth 100000
open Go.RowKit

/-! ## Finding a key. -/
def findA (P : Program) (kt : TypeId) (k : Value) : List AEnt → Nat → Option (Option Nat)
  | [], _ => some none
  | e :: r, i => match prun P (Op.equal kt k e.key) with | some true => some (some i) | some false => findA P kt k r (i + 1) | none => none
section
variable {P : Program} {G : Glo} {B0 : Nat} {R : Lay} {H : AH} {w : World} {t : TypeId} {x y r : GV} {u v : Value}
theorem sameNow_run {d : TypeDesc} {kt : TypeId} {a b : Value} {c : Bool} (hd : P.underlying kt = some d) (h : Instr.sameNow d a b = some c) : (Op.equal kt a b).run P w = .ok c w := by
  unfold Instr.sameNow at h
  split at h
  · split at h
    · rename_i hk; cases h; subst hk; exact run_equalIn_int w 9999 kt _ _ _ _ hd
    · cases h
  · rename_i x y
    cases h
    have := run_equalIn_string (P := P) w 9999 kt x y hd
    rw [← beq_toListBytes x y] at this
    exact this
  · cases h; exact run_equalIn_bool' w 9999 kt _ _ hd
  · cases h
def FR (R : Lay) (es : List AEnt) (i : Nat) : Option Nat → Option (Nat × Value) → Prop
  | none, none => True
  | some j, some (j', v) => j' = j ∧ i ≤ j ∧ ∃ a, es[j - i]? = some a ∧ a.val.rel R v
  | _, _ => False
theorem FR.succ {a : AEnt} {es : List AEnt} {i : Nat} {p : Option Nat} {q : Option (Nat × Value)} (h : FR R es (i + 1) p q) : FR R (a :: es) i p q := by
  cases p with
  | none => cases q with | none => trivial | some _ => exact h.elim
  | some j =>
    cases q with
    | none => exact h.elim
    | some q =>
      obtain ⟨h1, h2, b, h3, h4⟩ := h
      refine ⟨h1, by omega, b, ?_, h4⟩
      have : j - i = (j - (i + 1)) + 1 := by omega
      rw [this]; exact h3
theorem now_ok {d : TypeDesc} {kt : TypeId} {k : Value} (hd : P.underlying kt = some d) : ∀ {es : List AEnt} {vs : List MapEntry} {i : Nat} {p : Option Nat} {q : Option (Nat × Value)},
    All2 (EntR R) es vs → findA P kt k es i = some p → Instr.findNow d k vs i = some q → FR R es i p q := by
  intro es vs i p q hr
  induction hr generalizing i with
  | nil => intro h1 h2; cases h1; cases h2; trivial
  | @cons a b l m hab _ ih =>
    intro h1 h2
    unfold findA at h1
    unfold Instr.findNow at h2
    cases hs : Instr.sameNow d k b.key with
    | none => rw [hs] at h2; cases h2
    | some c =>
      have hrun := sameNow_run (w := default) hd hs
      rw [hab.1] at hrun
      rw [hs] at h2
      cases he : prun P (Op.equal kt k a.key) with
      | none => rw [he] at h1; cases h1
      | some c' =>
        have := prun_run he default
        rw [hrun] at this
        cases this
        rw [he] at h1
        cases c with
        | true => cases h1; cases h2; exact ⟨rfl, Nat.le_refl _, a, by simp, hab.2.1⟩
        | false => exact (ih h1 h2).succ
theorem ask_ok {kt : TypeId} {k : Value} : ∀ {es : List AEnt} {vs : List MapEntry} {i : Nat} {p : Option Nat},
    All2 (EntR R) es vs → findA P kt k es i = some p → ∃ q, (∀ w, (Instr.findAsking kt k vs i).run P w = .ok q w) ∧ FR R es i p q := by
  intro es vs i p hr
  induction hr generalizing i with
  | nil => intro h1; cases h1; exact ⟨none, fun w => rfl, trivial⟩
  | @cons a b l m hab _ ih =>
    intro h1
    unfold findA at h1
    cases he : prun P (Op.equal kt k a.key) with
    | none => rw [he] at h1; cases h1
    | some c =>
      have hrun := fun w => prun_run he w
      rw [he] at h1
      cases c with
      | true =>
        cases h1
        refine ⟨some (i, b.val), fun w => ?_, ⟨rfl, Nat.le_refl _, a, by simp, hab.2.1⟩⟩
        simp only [Instr.findAsking, Sem.run_bind, hab.1, hrun, Result.andThen_ok, if_true, Sem.run_pure]
      | false =>
        obtain ⟨q, h2, h3⟩ := ih h1
        refine ⟨q, fun w => ?_, h3.succ⟩
        simp only [Instr.findAsking, Sem.run_bind, hab.1, hrun, Result.andThen_ok, Bool.false_eq_true, if_false, h2]
theorem find_ok {kt : TypeId} {k : Value} {d : TypeDesc} (hd : P.underlying kt = some d) {es : List AEnt} {vs : List MapEntry} {p : Option Nat} (hr : All2 (EntR R) es vs) (h : findA P kt k es 0 = some p) :
    ∃ q, (∀ w, (Instr.findKey kt k vs).run P w = .ok q w) ∧ FR R es 0 p q := by
  cases hn : Instr.findNow d k vs 0 with
  | some q => exact ⟨q, fun w => by simp only [Instr.findKey, Sem.run_bind, run_underlying hd, Result.andThen_ok, hn, Sem.run_pure], now_ok hd hr h hn⟩
  | none =>
    obtain ⟨q, h1, h2⟩ := ask_ok hr h
    exact ⟨q, fun w => by simp only [Instr.findKey, Sem.run_bind, run_underlying hd, Result.andThen_ok, hn, h1], h2⟩

/-! ## Looking up. -/
def mapOf (H : AH) (x : GV) : Option (List AEnt) :=
  match x with
  | .val (.one (.m b)) => match H.get b with | some (.map es _) => some es | _ => none
  | .val (.one (.k (.map none))) => some []
  | _ => none
def zeroG (P : Program) (t : TypeId) : Option AV :=
  match (P.info? t).bind (·.zero) with
  | some z => match ofV z with | .val a => some a | _ => none
  | none => none
def lkpG (P : Program) (H : AH) (t : TypeId) (x i : GV) (ok : Bool) : Option GV :=
  match P.underlying t, mapOf H x, toV i with
  | some (.map kt e), some es, some k => match P.underlying kt, prun P (Instr.checkKey es.isEmpty 10000 kt k), findA P kt k es 0, zeroG P e with
    | some _, some (), some (some j), _ => match es[j]? with | some a => some (match ok with | true => .tup [a.val, .one (.k (.bool true))] | false => .val a.val) | none => none
    | some _, some (), some none, some z => some (match ok with | true => .tup [z, .one (.k (.bool false))] | false => .val z)
    | _, _, _, _ => none
  | _, _, _ => none
theorem zeroG_ok {a : AV} (h : zeroG P t = some a) : ∃ z, (∀ w, (zeroValue t).run P w = .ok z w) ∧ a.rel R z := by
  unfold zeroG at h
  cases hi : P.info? t with
  | none => simp [hi] at h
  | some i =>
    cases hz : i.zero with
    | none => simp [hi, hz] at h
    | some z =>
      simp only [hi, Option.bind_some, hz] at h
      refine ⟨z, fun w => by simp [zeroValue, typeInfo, hi, hz], ?_⟩
      have := ofV_rel (R := R) (v := z)
      split at h
      · rename_i q hq; cases h; rw [hq] at this; exact this
      · cases h
theorem mapOf_ok {es : List AEnt} (h : mapOf H x = some es) (hs : Sim G B0 R H w) (hx : x.rel R u) :
    (u = .map none ∧ es = []) ∨ ∃ B vs clock, u = .map (some B) ∧ All2 (EntR R) es vs ∧ w.heap[B]? = some (.map vs.toArray clock) := by
  unfold mapOf at h
  split at h
  · rename_i b
    split at h
    · rename_i es' clock hg
      cases h
      obtain ⟨L, hL, rfl⟩ := hx
      obtain ⟨M, h1, h2, vs, h3, h4⟩ := hs.obj b _ hg rfl
      rw [hL] at h1; cases h1
      exact .inr ⟨_, vs, clock, rfl, h3, h4⟩
    · cases h
  · cases h; cases hx; exact .inl ⟨rfl, rfl⟩
  · cases h
theorem lkp_yld {i : GV} {ok : Bool} (h : lkpG P H t x i ok = some r) (hs : Sim G B0 R H w) (hx : x.rel R u) (hi : i.rel R v) : Yld (lkp P t u v ok) R r w := by
  unfold lkpG at h
  split at h
  · rename_i kt e es k ht hm hk
    have hv := toV_rel hk hi
    subst hv
    obtain ⟨vs, hvs, hu⟩ : ∃ vs, All2 (EntR R) es vs ∧ ((u = .map none ∧ vs = []) ∨ ∃ B clock, u = .map (some B) ∧ w.heap[B]? = some (.map vs.toArray clock)) := by
      rcases mapOf_ok hm hs hx with ⟨rfl, rfl⟩ | ⟨B, vs, clock, rfl, h1, h2⟩
      · exact ⟨[], .nil, .inl ⟨rfl, rfl⟩⟩
      · exact ⟨vs, h1, .inr ⟨B, clock, rfl, h2⟩⟩
    have hemp : vs.toArray.isEmpty = es.isEmpty := by
      cases hvs with
      | nil => rfl
      | cons _ _ => simp
    have body : ∀ (q : Option (Nat × Value)), (∀ w, (Instr.findKey kt v vs).run P w = .ok q w) → (prun P (Instr.checkKey es.isEmpty 10000 kt v) = some ()) → ∀ (p : Value × Bool), (match q with | some (_, v) => p = (v, true) | none => (∀ w, (zeroValue e).run P w = .ok p.1 w) ∧ p.2 = false) →
        ∀ K : KV, K (if ok then .tuple #[p.1, .bool p.2] else p.1) w → lkp P t u v ok K w := by
      intro q hq hck p hp K hK
      have hck' : (Instr.checkKey vs.toArray.isEmpty 10000 kt v).run P w = .ok () w := by rw [hemp]; exact prun_run hck w
      unfold lkp
      refine okV_of (w' := w) ?_ hK
      rcases hu with ⟨rfl, rfl⟩ | ⟨B, clock, rfl, hB⟩
      · unfold Instr.lookup
        simp only [Sem.run_bind, run_underlying ht, Result.andThen_ok, Sem.run_pure, hck', hq]
        cases q with
        | none => simp only [Sem.run_bind, hp.1, Result.andThen_ok, Sem.run_pure, hp.2]
        | some q => simp only at hp; subst hp; simp only [Sem.run_bind, Sem.run_pure, Result.andThen_ok]
      · unfold Instr.lookup
        have hg : (getObj B).run P w = .ok (.map vs.toArray clock) w := by simp [getObj, Sem.run, hB]
        simp only [Sem.run_bind, run_underlying ht, Result.andThen_ok, Sem.run_pure, hg, hck', hq]
        cases q with
        | none => simp only [Sem.run_bind, hp.1, Result.andThen_ok, Sem.run_pure, hp.2]
        | some q => simp only at hp; subst hp; simp only [Sem.run_bind, Sem.run_pure, Result.andThen_ok]
    split at h
    · rename_i d j _ hd hck hf
      obtain ⟨q, hq, hfr⟩ := find_ok hd hvs hf
      split at h
      · rename_i a ha
        cases h
        cases q with
        | none => exact hfr.elim
        | some q =>
          obtain ⟨h1, _, b, h2, h3⟩ := hfr
          rw [Nat.sub_zero, ha] at h2; cases h2
          cases ok with
          | true => exact ⟨_, ⟨_, .cons h3 (.cons rfl .nil), rfl⟩, body _ hq hck (q.2, true) rfl⟩
          | false => exact ⟨_, h3, body _ hq hck (q.2, true) rfl⟩
      · cases h
    · rename_i d z hd hck hf hz
      obtain ⟨q, hq, hfr⟩ := find_ok hd hvs hf
      cases h
      cases q with
      | some q => exact hfr.elim
      | none =>
        obtain ⟨zv, hz1, hz2⟩ := zeroG_ok (R := R) hz
        cases ok with
        | true => exact ⟨_, ⟨_, .cons hz2 (.cons rfl .nil), rfl⟩, body _ hq hck (zv, false) ⟨hz1, rfl⟩⟩
        | false => exact ⟨_, hz2, body _ hq hck (zv, false) ⟨hz1, rfl⟩⟩
    · cases h
  · cases h

/-! ## Lengths, and other builtins. -/
def vals : List GV → Option (List Value)
  | [] => some []
  | a :: r => match toV a, vals r with | some v, some l => some (v :: l) | _, _ => none
theorem vals_rel : ∀ {l : List GV} {q m : List Value}, vals l = some q → All2 (GV.rel R) l m → m = q
  | [], _, _, h, hr => by cases h; cases hr; rfl
  | a :: l, q, m, h, hr => by
    unfold vals at h
    split at h
    · rename_i v q' hv hq
      cases h
      cases hr with
      | cons h1 h2 => rw [toV_rel hv h1, vals_rel hq h2]
    · cases h
def bltG (P : Program) (H : AH) (b : Builtin) (ats : Array TypeId) (ty : TypeId) (cs : Array Bool) (l : List GV) : Option GV :=
  match vals l with
  | some vs => match prun P (builtin b ats ty cs vs.toArray) with | some (.value v) => some (kG v) | _ => none
  | none => match b, ats.toList, l with
    | .len, [t], [.val (.one (.s _ _ _ n _))] => match P.underlying t with | some (.slice _) => some (kG (.int .i64 (n : Int))) | _ => none
    | .len, [t], [.val (.one (.se ..))] => match P.underlying t with | some (.slice _) => some (kG (.int .i64 ((0 : Nat) : Int))) | _ => none
    | .len, [t], [.val (.one (.m b))] => match P.underlying t, H.get b with | some (.map _ _), some (.map es _) => some (kG (.int .i64 (es.length : Int))) | _, _ => none
    | _, _, _ => none
theorem blt_yld {b : Builtin} {ats : Array TypeId} {ty : TypeId} {cs : Array Bool} {l : List GV} {m : List Value} (h : bltG P H b ats ty cs l = some r) (hs : Sim G B0 R H w) (hl : All2 (GV.rel R) l m) : Yld (blt P b ats ty cs m.toArray) R r w := by
  unfold bltG at h
  split at h
  · rename_i vs hvs
    rw [vals_rel hvs hl]
    split at h
    · rename_i v hv
      cases h
      exact ⟨v, rfl, fun K hk => blt_of (prun_run hv w) hk⟩
    · cases h
  · split at h
    · rename_i t0 b0 o lo n c hat hno
      split at h
      · rename_i e ht
        cases h
        cases hl with
        | cons h1 h2 =>
          cases h2
          obtain ⟨L, hL, hnc, rfl⟩ := h1
          have : ats = #[t0] := by rw [← Array.toArray_toList (xs := ats), hat]
          subst this
          exact ⟨_, rfl, fun K hk => len_slc ht hk⟩
      · cases h
    · rename_i t0 b0 o o' lo q hat hno
      split at h
      · rename_i e ht
        cases h
        cases hl with
        | cons h1 h2 =>
          cases h2
          obtain ⟨L, hL, rfl⟩ := h1
          have : ats = #[t0] := by rw [← Array.toArray_toList (xs := ats), hat]
          subst this
          exact ⟨_, rfl, fun K hk => len_slc ht hk⟩
      · cases h
    · rename_i t0 b0 hat hno
      split at h
      · rename_i k e es clock ht hg
        cases h
        cases hl with
        | cons h1 h2 =>
          cases h2
          obtain ⟨L, hL, rfl⟩ := h1
          obtain ⟨M, g1, g2, vs, g3, g4⟩ := hs.obj b0 _ hg rfl
          rw [hL] at g1; cases g1
          have : ats = #[t0] := by rw [← Array.toArray_toList (xs := ats), hat]
          subst this
          refine ⟨_, rfl, fun K hk => blt_of ?_ hk⟩
          have hget : (getObj L.B).run P w = .ok (.map vs.toArray clock) w := by simp [getObj, Sem.run, g4]
          rw [BigFrame.builtin_len]
          simp [Builtin.len_, run_underlying ht, Sem.run_pure, goInt, hget, g3.len]
      · cases h
    · cases h

/-! ## All of them. -/
def optE (E : Tr GV) (n : Nat) : Option Operand → Option (Option GV)
  | none => some none
  | some x => match evG E n x with | some a => some (some a) | none => none
def evL (E : Tr GV) (n : Nat) : List Operand → Option (List GV)
  | [] => some []
  | x :: r => match evG E n x, evL E n r with | some a, some l => some (a :: l) | _, _ => none
theorem optE_rel {n : Nat} {E : Tr GV} {e : Env} (he : EnvR R n E e) {x : Option Operand} {a : Option GV} (h : optE E n x = some a) : optRel R a (x.map (ev e)) := by
  cases x with
  | none => cases h; trivial
  | some x =>
    unfold optE at h
    simp only at h
    split at h
    · rename_i q hq; cases h; exact evG_rel he hq
    · cases h
theorem evL_rel {n : Nat} {E : Tr GV} {e : Env} (he : EnvR R n E e) : ∀ {l : List Operand} {m : List GV}, evL E n l = some m → All2 (GV.rel R) m (l.map (ev e))
  | [], _, h => by cases h; exact .nil
  | x :: l, m, h => by
    unfold evL at h
    split at h
    · rename_i a m' ha hm
      cases h
      exact .cons (evG_rel he ha) (evL_rel he hm)
    · cases h
def ptrsG : List GV → Option (List (Nat × Nat))
  | [] => some []
  | .val (.one (.p b o)) :: r => match ptrsG r with | some l => some ((b, o) :: l) | none => none
  | _ => none
theorem ptrsG_rel : ∀ {l : List GV} {q : List (Nat × Nat)} {m : List Value}, ptrsG l = some q → All2 (GV.rel R) l m → All2 (prel R) q m
  | [], _, _, h, hr => by cases h; cases hr; exact .nil
  | .val (.one (.p b o)) :: l, q, m, h, hr => by
    unfold ptrsG at h
    split at h
    · rename_i q' hq
      cases h
      cases hr with
      | cons h1 h2 => exact .cons h1 (ptrsG_rel hq h2)
    · cases h
def fnG (fn : Fn) (x y : List GV) : Option GV :=
  match x, y, fn with
  | [], [], fn => some (kG (.func fn #[] #[]))
  | _, _, .func f => match ptrsG x, ptrsG y with | some a, some b => some (oneG (.f f a b)) | _, _ => none
  | _, _, _ => none
theorem fnG_rel {fn : Fn} {a b : List GV} {aS bs : List Value} (h : fnG fn a b = some r) (ha : All2 (GV.rel R) a aS) (hb : All2 (GV.rel R) b bs) : r.rel R (.func fn aS.toArray bs.toArray) := by
  unfold fnG at h
  split at h
  · cases h; cases ha; cases hb; exact rfl
  · split at h
    · rename_i p q hp hq
      cases h
      exact ⟨_, _, ptrsG_rel hp ha, ptrsG_rel hq hb, rfl⟩
    · cases h
  · cases h
section
variable {P : Program} {G : Glo} {B0 : Nat} {R : Lay} {H H' : AH} {w w' : World} {t : TypeId} {x y r : GV} {u v : Value}
def groG (H : AH) (x : GV) (hi : Option GV) : GV :=
  match hi, x with
  | some _, .val (.one (.s b o lo n none)) => match H.get b with
    | some (.cells _ z true cs) => match Nat.blt n (Nat.sub (Nat.div cs.length z) lo) with | true => .val (.one (.s b o lo (Nat.sub (Nat.div cs.length z) lo) none)) | false => x
    | _ => x
  | _, _ => x
theorem slc_any {a : Option Addr} {n m c : Nat} {lo mx : Option Value} {h : Value} {K : KV} (k : slc P t (.slice a n c) lo (some h) mx K w) : slc P t (.slice a m c) lo (some h) mx K w := by
  unfold slc at *
  have e : (Instr.sliceAt t (.slice a n c) lo (some h) mx) = (Instr.sliceAt t (.slice a m c) lo (some h) mx) := by
    have hb : ∀ b, Instr.sliceBounds b n c lo (some h) mx = Instr.sliceBounds b m c lo (some h) mx := fun b => by cases mx <;> rfl
    have e2 : Instr.slice t (.slice a n c) lo (some h) mx = Instr.slice t (.slice a m c) lo (some h) mx := by
      unfold Instr.slice
      congr 1
      funext d
      cases d <;> first | rfl | (dsimp only; rw [hb true])
    unfold Instr.sliceAt
    congr 1
    funext d
    cases d <;> first | exact e2 | rfl
  rw [← e]; exact k
theorem gro_ok (hs : Sim G B0 R H w) (hx : x.rel R u) (hi : Option GV) {hv : Option Value} (hr : optRel R hi hv) : ∃ u', (groG H x hi).rel R u' ∧ ∀ lo mx (K : KV), slc P t u' lo hv mx K w → slc P t u lo hv mx K w := by
  have same : groG H x hi = x → ∃ u', (groG H x hi).rel R u' ∧ ∀ lo mx (K : KV), slc P t u' lo hv mx K w → slc P t u lo hv mx K w := fun e => ⟨u, by rw [e]; exact hx, fun _ _ _ h => h⟩
  unfold groG at *
  split
  · rename_i a b o lo n
    split
    · rename_i e z cs hg
      split
      · rename_i hb
        obtain ⟨L, hL, hn, rfl⟩ := hx
        obtain ⟨c, _, hc, _⟩ := hs.cells hg hL
        obtain ⟨hz, hm, hcl⟩ := hc.room rfl
        have hle := hc.le
        have hdiv : cs.length / z ≤ L.cap := Nat.div_le_of_le_mul (by rw [hcl] at hle; rw [Nat.mul_comm]; exact hle)
        cases hv with
        | none => exact hr.elim
        | some h =>
          refine ⟨.slice (some ⟨L.B, o, none⟩) (cs.length / z - lo) (capOf L lo none), ⟨L, hL, ?_, rfl⟩, fun lo' mx K k => slc_any k⟩
          show cs.length / z - lo ≤ L.cap - lo
          omega
      · exact ⟨u, hx, fun _ _ _ h => h⟩
    · exact ⟨u, hx, fun _ _ _ h => h⟩
  · exact ⟨u, hx, fun _ _ _ h => h⟩
end
def rOp (P : Program) (G : Glo) (H : AH) (E : Tr GV) (n : Nat) (o : Oper) : Option GV :=
  match o.op with
  | .move x => evG E n x
  | .assign x => evG E n x
  | .load t a => match evG E n a with | some a => ldG P G H t a | none => none
  | .fieldAddr t x f => match evG E n x with | some x => fldAG P t x f | none => none
  | .indexAddr t x i => match evG E n x, evG E n i with | some x, some i => idxAG P t x i | _, _ => none
  | .binOp op t x y _ => match evG E n x, evG E n y with | some a, some b => binG P op t (isC x) (isC y) a b | _, _ => none
  | .nilCheck x => match evG E n x with | some x => (match nilCG x with | true => some x | false => none) | none => none
  | .pick c a b => match evG E n c, evG E n a, evG E n b with | some c, some a, some b => pickG c a b | _, _, _ => none
  | .extract t i => match evG E n t with | some x => extG x i | none => none
  | .unOp op _ x => match evG E n x with | some x => unG P op x | none => none
  | .convert s d x => match evG E n x with | some x => convG P H s d x | none => none
  | .field t x f => match evG E n x with | some x => fldV P t x f | none => none
  | .index t x i => match evG E n x, evG E n i with | some x, some i => idxV P t x i | _, _ => none
  | .slice t x lo hi mx => match evG E n x, optE E n lo, optE E n hi, optE E n mx with | some x, some l, some h, some m => slcG P t (groG H x h) l h m | _, _, _, _ => none
  | .lookup t x i ok => match evG E n x, evG E n i with | some x, some i => lkpG P H t x i ok | _, _ => none
  | .makeFunc fn a b => match evL E n a.toList, evL E n b.toList with | some a, some b => fnG fn a b | _, _ => none
  | .call c => match c.callee with
    | .builtin b => match evL E n c.args.toList with | some l => bltG P H b c.argTypes o.type (c.args.toList.map isC).toArray l | none => none
    | _ => none
  | _ => none
theorem rOp_yld {n : Nat} {E : Tr GV} {e : Env} {o : Oper} (h : rOp P G H E n o = some r) (he : EnvR R n E e) (hs : Sim G B0 R H w) : Yld (fun K w => cOp P (ev e) o K w) R r w := by
  obtain ⟨dst, op, ty, pos, after, guard⟩ := o
  unfold rOp at h
  cases op with
  | move x => exact ⟨_, evG_rel he h, fun K hk => hk⟩
  | assign x => exact ⟨_, evG_rel he h, fun K hk => hk⟩
  | load t a =>
    simp only at h
    split at h
    · rename_i a ha; exact ld_yld h hs (evG_rel he ha)
    · cases h
  | fieldAddr t x f =>
    simp only at h
    split at h
    · rename_i a ha; exact fldA_yld h (evG_rel he ha)
    · cases h
  | indexAddr t x i =>
    simp only at h
    split at h
    · rename_i a b ha hb; exact idxA_yld h (evG_rel he ha) (evG_rel he hb)
    · cases h
  | binOp op t x y yt =>
    simp only at h
    split at h
    · rename_i a b ha hb; exact bin_yld h (evG_rel he ha) (evG_rel he hb)
    · cases h
  | nilCheck x =>
    simp only at h
    split at h
    · rename_i a ha
      split at h
      · rename_i hc; cases h; exact nilC_yld hc (evG_rel he ha)
      · cases h
    · cases h
  | pick c x y =>
    simp only at h
    split at h
    · rename_i a b c ha hb hc; exact pick_yld h (evG_rel he ha) (evG_rel he hb) (evG_rel he hc)
    · cases h
  | extract t i =>
    simp only at h
    split at h
    · rename_i a ha; exact ext_yld h (evG_rel he ha)
    · cases h
  | unOp op t x =>
    simp only at h
    split at h
    · rename_i a ha; exact un_yld h (evG_rel he ha)
    · cases h
  | convert s d x =>
    simp only at h
    split at h
    · rename_i a ha; exact conv_yld h hs (evG_rel he ha)
    · cases h
  | field t x f =>
    simp only at h
    split at h
    · rename_i a ha; exact fld_yld h (evG_rel he ha)
    · cases h
  | index t x i =>
    simp only at h
    split at h
    · rename_i a b ha hb; exact idx_yld h (evG_rel he ha) (evG_rel he hb)
    · cases h
  | slice t x lo hi mx =>
    simp only at h
    split at h
    · rename_i a b c d ha hb hc hd
      obtain ⟨u', hu, hk⟩ := gro_ok (P := P) (t := t) hs (evG_rel he ha) c (optE_rel he hc)
      obtain ⟨v, h1, h2⟩ := slc_yld h hu (optE_rel he hb) (optE_rel he hc) (optE_rel he hd)
      exact ⟨v, h1, fun K k => hk _ _ K (h2 K k)⟩
    · cases h
  | lookup t x i ok =>
    simp only at h
    split at h
    · rename_i a b ha hb; exact lkp_yld h hs (evG_rel he ha) (evG_rel he hb)
    · cases h
  | makeFunc fn a b =>
    simp only at h
    split at h
    · rename_i a b ha hb; exact ⟨_, fnG_rel h (evL_rel he ha) (evL_rel he hb), fun K hk => hk⟩
    · cases h
  | call c =>
    obtain ⟨cal, args, ats⟩ := c
    cases cal with
    | builtin b =>
      simp only at h
      split at h
      · rename_i l hl
        exact blt_yld h hs (evL_rel he hl)
      · cases h
    | _ => cases h
  | _ => cases h
end
end Go.Proofs.YtfjafbbalohmhaaGreatDoor
namespace Go.Proofs.YtfjafbbalohmhaaGreatDoor
set_option maxRecDepth 100000
open Go.RowKit

structure Fr (B0 : Nat) (R : Lay) (H : AH) (w : World) (R' : Lay) (H' : AH) (w' : World) : Prop where
  below : Below B0 w w'
  keep : ∀ k, k < w.heap.size → (∀ i o L, H.get i = some o → o.live = true → R i = some L → L.B ≠ k) → w'.heap[k]? = w.heap[k]?
  fresh : ∀ i o L, H'.get i = some o → o.live = true → R' i = some L → (∃ j oj Lj, H.get j = some oj ∧ oj.live = true ∧ R j = some Lj ∧ Lj.B = L.B) ∨ w.heap.size ≤ L.B
theorem Fr.refl (B0 : Nat) (R : Lay) (H : AH) (w : World) : Fr B0 R H w R H w := ⟨Below.refl _ _, fun _ _ _ => rfl, fun i o L a b c => .inl ⟨i, o, L, a, b, c, rfl⟩⟩
theorem Fr.trans {B0 : Nat} {R R' R2 : Lay} {H H' H2 : AH} {w w' w2 : World} (h : Fr B0 R H w R' H' w') (k : Fr B0 R' H' w' R2 H2 w2) : Fr B0 R H w R2 H2 w2 where
  below := h.below.trans k.below
  keep q hq hno := by
    rw [k.keep q (Nat.lt_of_lt_of_le hq h.below.size) ?_, h.keep q hq hno]
    intro i o L a b c e
    rcases h.fresh i o L a b c with ⟨j, oj, Lj, x, y, z, hz⟩ | hz
    · exact hno j oj Lj x y z (hz.trans e)
    · omega
  fresh i o L a b c := by
    rcases k.fresh i o L a b c with ⟨j, oj, Lj, x, y, z, hz⟩ | hz
    · rcases h.fresh j oj Lj x y z with ⟨j', oj', Lj', x', y', z', hz'⟩ | hz'
      · exact .inl ⟨j', oj', Lj', x', y', z', hz'.trans hz⟩
      · exact .inr (by omega)
    · exact .inr (Nat.le_trans h.below.size hz)

def Yls (G : Glo) (B0 : Nat) (op : KV → World → Prop) (R : Lay) (H : AH) (r : GV) (H' : AH) (w : World) : Prop :=
  ∀ K : KV, (∀ R' v w', Lay.le R R' → r.rel R' v → Sim G B0 R' H' w' → Fr B0 R H w R' H' w' → K v w') → op K w
section
variable {P : Program} {G : Glo} {B0 : Nat} {R : Lay} {H H' : AH} {w w' : World} {t : TypeId} {x y r : GV} {u v : Value}
theorem Below.of_oth {B b : Nat} (h : Oth b w w') (hb : B ≤ b) : Below B w w' :=
  ⟨h.os, h.tape, h.output, by rw [h.size]; exact Nat.le_refl _, fun k hk => h.other k (by omega)⟩

theorem Fr.new {L : Loc} {o : AO} (h : Sim G B0 R H w) (hb : Below w.heap.size w w') (hL : w.heap.size ≤ L.B) (hn : H.n < 8192) : Fr B0 R H w (upd R H.n L) (H.new o) w' where
  below := hb.mono h.size
  keep k hk _ := hb.block k hk
  fresh i o' M hi hl hM := by
    rw [AH.get_new hn] at hi
    unfold upd at hM
    split at hi
    · rename_i e; rw [if_pos e] at hM; cases hM; exact .inr hL
    · rename_i e; rw [if_neg e] at hM; exact .inl ⟨i, o', M, hi, hl, hM, rfl⟩
theorem Fr.put {i : Nat} {o o' : AO} {L : Loc} (h : Sim G B0 R H w) (hi : H.get i = some o) (hl : o.live = true) (hL : R i = some L) (ho : Oth L.B w w') : Fr B0 R H w R (H.put i o') w' where
  below := by
    obtain ⟨M, h1, h2, h3⟩ := h.obj i o hi hl
    rw [hL] at h1; cases h1
    exact Below.of_oth ho h2
  keep k hk hno := ho.other k (fun e => hno i o L hi hl hL e.symm)
  fresh j oj M hj lj hM := by
    rw [AH.get_put (AH.get_lt hi) h.big] at hj
    split at hj
    · rename_i e; subst e; rw [hL] at hM; cases hM; exact .inl ⟨i, o, L, hi, hl, hL, rfl⟩
    · exact .inl ⟨j, oj, M, hj, lj, hM, rfl⟩

/-! ## A variable is made. -/
def zeroCs (P : Program) (t : TypeId) : Option (List CV) :=
  match (P.info? t).bind (·.zero) with
  | some z => match z.cells.toList.all (·.oneCell') with | true => some (z.cells.toList.map .k) | false => none
  | none => none
def newG (H : AH) (t : TypeId) (cs : List CV) : Option (GV × AH) := match Nat.blt H.n 8192 with | true => some (oneG (.p H.n 0), H.new (.cells t 1 false cs)) | false => none
theorem new_ok {cs : List CV} {vs : List Value} (h : newG H t cs = some (r, H')) (hs : Sim G B0 R H w) (hc : All2 (CR R) cs vs) (hb : Below w.heap.size w w') (hbk : blk w' w.heap.size t vs) :
    ∃ R', Lay.le R R' ∧ r.rel R' (.pointer (some ⟨w.heap.size, 0, none⟩)) ∧ Sim G B0 R' H' w' ∧ Fr B0 R H w R' H' w' := by
  unfold newG at h
  split at h
  · rename_i hn
    cases h
    have hle := hs.upd_le ⟨w.heap.size, 0⟩
    refine ⟨_, hle, ⟨_, upd_self, rfl⟩, hs.new (o := .cells t 1 false cs) (L := ⟨w.heap.size, 0⟩) hb (Nat.le_refl _) ⟨vs, hbk, ?_⟩ (blt_iff.1 hn), Fr.new hs hb (Nat.le_refl _) (blt_iff.1 hn)⟩
    have hl := hc.len
    refine ⟨?_, by omega, fun _ => hl, (fun hg => by cases hg)⟩
    rw [← hl, List.take_length]
    exact hc.mono fun _ _ => CR.mono hle
  · cases h
def alcG (P : Program) (H : AH) (t : TypeId) : Option (GV × AH) := match zeroCs P t with | some cs => newG H t cs | none => none
theorem zeroCs_ok {cs : List CV} (h : zeroCs P t = some cs) : ∃ z, (P.info? t).bind (·.zero) = some z ∧ All2 (CR R) cs z.cells.toList := by
  unfold zeroCs at h
  split at h
  · rename_i z hz
    split at h
    · rename_i hall; cases h; exact ⟨z, hz, kL_rel hall⟩
    · cases h
  · cases h
theorem alc_yls (h : alcG P H t = some (r, H')) (hs : Sim G B0 R H w) : Yls G B0 (alc P t) R H r H' w := by
  intro K hK
  unfold alcG at h
  split at h
  · rename_i cs hz
    obtain ⟨z, hz1, hz2⟩ := zeroCs_ok (R := R) hz
    refine alc_of hz1 fun w' hb hbl _ => ?_
    obtain ⟨R', a, b, c, d⟩ := new_ok h hs hz2 hbl hb
    exact hK R' _ w' a b c d
  · cases h
def oneC : CV → Bool
  | .k v => v.oneCell'
  | _ => true
theorem oneC_ok {a : CV} (h : oneC a = true) (hr : a.rel R v) : v.oneCell' = true := by
  cases a with
  | k u => cases hr; exact h
  | p b o => obtain ⟨L, _, rfl⟩ := hr; rfl
  | g b o => cases hr; rfl
  | s b o lo n c => obtain ⟨L, _, _, rfl⟩ := hr; rfl
  | se b o o' lo l => obtain ⟨L, _, rfl⟩ := hr; rfl
  | m b => obtain ⟨L, _, rfl⟩ := hr; rfl
  | it b => obtain ⟨L, _, rfl⟩ := hr; rfl
  | yd b => obtain ⟨L, _, rfl⟩ := hr; rfl
  | f fn x y => obtain ⟨xs, ys, _, _, rfl⟩ := hr; rfl
def cellsG : GV → Option (List CV)
  | .val (.one c) => match oneC c with | true => some [c] | false => none
  | .val (.agg cs) => some cs
  | _ => none
theorem oneCell_cells (h : v.oneCell' = true) : v.cells = #[v] := by cases v <;> first | rfl | simp [Value.oneCell'] at h
theorem cellsG_ok {cs : List CV} (h : cellsG x = some cs) (hx : x.rel R u) : All2 (CR R) cs u.cells.toList := by
  unfold cellsG at h
  split at h
  · split at h
    · rename_i hc; cases h
      have := oneC_ok hc hx
      rw [oneCell_cells this]
      exact .cons ⟨hx, this⟩ .nil
    · cases h
  · cases h; obtain ⟨vs, h1, rfl⟩ := hx; exact h1
  · cases h
def boxG (H : AH) (t : TypeId) (x : GV) : Option (GV × AH) := match cellsG x with | some cs => newG H t cs | none => none
theorem box_yls (h : boxG H t x = some (r, H')) (hs : Sim G B0 R H w) (hx : x.rel R u) : Yls G B0 (box P t u) R H r H' w := by
  intro K hK
  unfold boxG at h
  split at h
  · rename_i cs hc
    refine box_of fun w' hb hbl _ => ?_
    obtain ⟨R', a, b, c, d⟩ := new_ok h hs (cellsG_ok hc hx) hbl hb
    exact hK R' _ w' a b c d
  · cases h

/-! ## A store. -/
def stoG (P : Program) (H : AH) (t : TypeId) (a x : GV) : Option (GV × AH) :=
  match a, P.info? t with
  | .val (.one (.p b o)), some i => match H.get b with
    | some (.cells e z g cs) => match x with
      | .val (.one c) => match oneC c, Nat.beq i.size 1, Nat.blt o cs.length with
        | true, true, true => some (undefG, H.put b (.cells e z g (cs.set o c)))
        | _, _, _ => none
      | .val (.agg xs) => match Nat.beq xs.length i.size, Nat.ble (o + i.size) cs.length with
        | true, true => some (undefG, H.put b (.cells e z g (cs.take o ++ xs ++ cs.drop (o + i.size))))
        | _, _ => none
      | _ => none
    | _ => none
  | _, _ => none
theorem splice_take {α : Type} {c vs : List α} {o L : Nat} (h : o + vs.length ≤ L) (hL : L ≤ c.length) : (c.take o ++ vs ++ c.drop (o + vs.length)).take L = (c.take L).take o ++ vs ++ (c.take L).drop (o + vs.length) := by
  have e1 : c.drop (o + vs.length) = (c.take L).drop (o + vs.length) ++ c.drop L := by
    conv => lhs; rw [← List.take_append_drop L c]
    rw [List.drop_append_of_le_length (by rw [List.length_take]; omega)]
  have e2 : c.take o = (c.take L).take o := by rw [List.take_take]; congr 1; omega
  rw [e1, ← List.append_assoc, e2]
  rw [List.take_append_of_le_length (by simp; omega), List.take_of_length_le (by simp; omega)]
theorem sto_yls {a : GV} {av : Value} (h : stoG P H t a x = some (r, H')) (hs : Sim G B0 R H w) (ha : a.rel R av) (hx : x.rel R u) : Yls G B0 (sto P t av u) R H r H' w := by
  intro K hK
  unfold stoG at h
  split at h
  · rename_i b o i hi
    split at h
    · rename_i e z g cs hg
      obtain ⟨L, hL, rfl⟩ := ha
      obtain ⟨c, hb, hc, hB⟩ := hs.cells hg hL
      split at h
      · rename_i c0
        split at h
        · rename_i h1 h2 h3
          cases h
          have h3 := blt_iff.1 h3
          have h2 := Nat.eq_of_beq_eq_true h2
          have hv := oneC_ok h1 hx
          have hle := hc.le
          refine sto1 (by intro w; rw [size_run hi, h2]) hb (by omega) hv fun w' hb' ho => ?_
          refine hK R _ w' (Lay.le.refl R) rfl (hs.put hg rfl hL ho.size ho.other ⟨_, hb', ?_⟩) (Fr.put hs hg rfl hL ho)
          refine ⟨?_, by simpa using hc.le, fun hh => by simpa using hc.eq hh, fun hh => by simpa using hc.room hh⟩
          rw [List.length_set, List.take_set]
          exact hc.rel.set ⟨hx, hv⟩ o
        · cases h
      · rename_i xs
        split at h
        · rename_i h1 h2
          cases h
          have h1 := Nat.eq_of_beq_eq_true h1
          have h2 := Nat.le_of_ble_eq_true h2
          obtain ⟨vs, hvs, rfl⟩ := hx
          have hl := hvs.len
          have hle := hc.le
          refine stoA (n := i.size) (by simp [hi]) (by omega) hb (by omega) (hvs.all fun _ _ h => h.2) fun w' hb' ho => ?_
          refine hK R _ w' (Lay.le.refl R) rfl (hs.put hg rfl hL ho.size ho.other ⟨_, hb', ?_⟩) (Fr.put hs hg rfl hL ho)
          have hlen : (cs.take o ++ xs ++ cs.drop (o + i.size)).length = cs.length := by simp; omega
          have hlen2 : (c.take o ++ vs ++ c.drop (o + i.size)).length = c.length := by simp; omega
          refine ⟨?_, by rw [hlen, hlen2]; exact hc.le, fun hh => by rw [hlen, hlen2]; exact hc.eq hh, fun hh => by rw [hlen2]; exact hc.room hh⟩
          rw [hlen]
          have e3 : o + i.size = o + vs.length := by omega
          rw [e3, splice_take (by omega) hle]
          have e4 : cs.drop (o + vs.length) = cs.drop (o + vs.length) := rfl
          exact ((hc.rel.take o).append hvs).append (hc.rel.drop _)
        · cases h
      · cases h
    · cases h
  · cases h
end
end Go.Proofs.YtfjafbbalohmhaaGreatDoor
namespace Go.Proofs.YtfjafbbalohmhaaGreatDoor
set_option maxRecDepth 100000
open Go.RowKit

section
variable {P : Program} {G : Glo} {B0 : Nat} {R : Lay} {H H' : AH} {w w' : World} {t : TypeId} {x y r : GV} {u v : Value}
/-! ## Struct and array values. -/
def setAll {α : Type} : List α → Nat → List α → List α
  | cs, _, [] => cs
  | cs, o, x :: r => setAll (cs.set o x) (o + 1) r
theorem All2.setAll {α β : Type} {r : α → β → Prop} : ∀ {xs : List α} {ys : List β}, All2 r xs ys → ∀ {cs : List α} {ds : List β}, All2 r cs ds → ∀ o, All2 r (Go.Proofs.YtfjafbbalohmhaaGreatDoor.setAll cs o xs) (Go.Proofs.YtfjafbbalohmhaaGreatDoor.setAll ds o ys) := by
  intro xs ys h
  induction h with
  | nil => intro cs ds hc o; exact hc
  | cons h1 _ ih => intro cs ds hc o; exact ih (hc.set h1 o) (o + 1)
theorem fold_setAll : ∀ (vs : List Value) (k off : Nat) (cs : List Value), ((vs.zipIdx k).foldl (fun (a : Array Value) (p : Value × Nat) => a.setIfInBounds (off + p.2) p.1) cs.toArray) = (setAll cs (off + k) vs).toArray
  | [], _, _, _ => rfl
  | v :: r, k, off, cs => by
    simp only [List.zipIdx_cons, List.foldl_cons]
    rw [List.setIfInBounds_toArray, fold_setAll r (k + 1) off]
    rfl
def fillA (pl : Nat → Option (Nat × Nat)) : List CV → List (Nat × GV) → Option (List CV)
  | cs, [] => some cs
  | cs, (i, x) :: r => match pl i, cellsG x with
    | some (off, sz), some xs => match Nat.beq xs.length sz, Nat.ble (off + sz) cs.length with
      | true, true => fillA pl (setAll cs off xs) r
      | _, _ => none
    | _, _ => none
def PartR (R : Lay) (a : Nat × GV) (b : Nat × Value) : Prop := b.1 = a.1 ∧ a.2.rel R b.2
theorem fillA_ok {pl : Nat → Option (Nat × Nat)} : ∀ {ps : List (Nat × GV)} {qs : List (Nat × Value)}, All2 (PartR R) ps qs → ∀ {cs cs' : List CV} {ds : List Value}, All2 (CR R) cs ds → fillA pl cs ps = some cs' →
    ∃ ds', Instr.fill pl ds.toArray qs = some (List.toArray ds') ∧ All2 (CR R) cs' ds' := by
  intro ps qs h
  induction h with
  | nil => intro cs cs' ds hc hf; cases hf; exact ⟨ds, rfl, hc⟩
  | @cons a b l m hab _ ih =>
    intro cs cs' ds hc hf
    obtain ⟨i, x⟩ := a
    obtain ⟨j, q⟩ := b
    obtain ⟨h1, h2⟩ := hab
    simp only at h1 h2
    subst h1
    unfold fillA at hf
    split at hf
    · rename_i off sz xs hp hx
      split at hf
      · rename_i e1 e2
        have e1 := Nat.eq_of_beq_eq_true e1
        have e2 := Nat.le_of_ble_eq_true e2
        have hcl := cellsG_ok hx h2
        obtain ⟨ds', h3, h4⟩ := ih (hcl.setAll hc off) hf
        refine ⟨ds', ?_, h4⟩
        have hsz : q.cells.size = sz := by have := hcl.len; simp at this; omega
        have hdl := hc.len
        unfold Instr.fill
        simp only [hp]
        rw [if_neg (by simp [hsz]; omega)]
        rw [← h3]
        congr 1
        have hq : q.cells = q.cells.toList.toArray := by simp
        have := fold_setAll q.cells.toList 0 off ds
        rw [Nat.add_zero] at this
        rw [← this]
        generalize q.cells.toList = ql at hq
        rw [hq]
        simp
      · cases hf
    · cases hf
def placesA (P : Program) : List Field → Option (List (Nat × Nat))
  | [] => some []
  | f :: r => match P.info? f.type, placesA P r with | some i, some l => some ((f.offset, i.size) :: l) | _, _ => none
theorem placesA_ok : ∀ {fs : List Field} {l : List (Nat × Nat)}, placesA P fs = some l → fs.mapM (fun f => (P.info? f.type).map fun i => (f.offset, i.size)) = some l
  | [], _, h => by cases h; rfl
  | f :: r, l, h => by
    unfold placesA at h
    split at h
    · rename_i i l' hi hl
      cases h
      simp [hi, placesA_ok hl]
    · cases h
def bldG (P : Program) (t : TypeId) (ps : List (Nat × GV)) : Option GV :=
  match P.info? t, P.underlying t, zeroCs P t with
  | some _, some (.struct fs), some cs => match placesA P fs.toList with
    | some l => match fillA (fun i => l[i]?) cs ps with | some cs' => some (.val (.agg cs')) | none => none
    | none => none
  | some _, some (.array _ e), some cs => match P.info? e with
    | some ie => match fillA (fun i => some (i * ie.size, ie.size)) cs ps with | some cs' => some (.val (.agg cs')) | none => none
    | none => none
  | _, _, _ => none
theorem bld_yld {ps : List (Nat × GV)} {qs : List (Nat × Value)} (h : bldG P t ps = some r) (hp : All2 (PartR R) ps qs) : Yld (bld P t qs.toArray) R r w := by
  unfold bldG at h
  split at h
  · rename_i it fs cs hi hu hz
    obtain ⟨z, hz1, hz2⟩ := zeroCs_ok (R := R) hz
    split at h
    · rename_i l hl
      split at h
      · rename_i cs' hf
        cases h
        obtain ⟨ds', h1, h2⟩ := fillA_ok hp hz2 hf
        have hzz : it.zero = some z := by rw [hi] at hz1; exact hz1
        refine ⟨_, ⟨ds', h2, rfl⟩, fun K hk => bld_of ?_ hk⟩
        unfold Program.built
        simp only [hi, hu, hzz, placesA_ok hl]
        have : (fun (x : Nat) => l.toArray[x]?) = fun (i : Nat) => l[i]? := by funext i; simp
        rw [this]
        simpa using h1
      · cases h
    · cases h
  · rename_i it n e cs hi hu hz
    obtain ⟨z, hz1, hz2⟩ := zeroCs_ok (R := R) hz
    split at h
    · rename_i ie hie
      split at h
      · rename_i cs' hf
        cases h
        obtain ⟨ds', h1, h2⟩ := fillA_ok hp hz2 hf
        have hzz : it.zero = some z := by rw [hi] at hz1; exact hz1
        refine ⟨_, ⟨ds', h2, rfl⟩, fun K hk => bld_of ?_ hk⟩
        unfold Program.built
        simp only [hi, hu, hzz, hie]
        simpa using h1
      · cases h
    · cases h
  · cases h
end
end Go.Proofs.YtfjafbbalohmhaaGreatDoor
