/- The document's disk, on: On. -/
import Derived.Test.YtjkmblbonambjaaDRef2
namespace Go.Proofs.Ytjkmblbonambjaa
set_option maxRecDepth 100000
open Go.RowKit

theorem pickS_mod (l : List Int) (i : Nat) (a : Int) : (if l.length ≤ i then 0 else if l.getD i 0 < 0 then 0 else l.getD i 0) % a = pickS l i a := by
  unfold pickS
  split
  · exact Int.zero_emod _
  · split
    · exact Int.zero_emod _
    · rfl
theorem pickV_nn (l : List Int) (i : Nat) : 0 ≤ (if l.length ≤ i then 0 else if l.getD i 0 < 0 then 0 else l.getD i 0) := by
  split
  · decide
  · split
    · decide
    · omega

section
attribute [local irreducible] bin un conv call callV blt slc fldA fld idxA idx lkp mUpd mEnt eSt rng nxt ent ext alc box bld bldS ld sto nilC mkMap mkS ifc pick rdy wts gsel sti cond retM Gives cCode cGrp cSeq cOp
abbrev TRD : TypeId := 40
theorem ron_end {B p q : Nat} {w : World} {K : KV} {F : Fls} {x0 x1 x2 x3 x4 : Value} (hq : blk w q TRF [sv F.1, sv F.2]) (hb : blk w p TRD [x0, x1, x2, x3, x4]) (hB : B ≤ p) (hF : tot F ≤ 4194304)
    (h : ∀ w', RK w' B p ⟨F, [], false, -1⟩ → Keep DR p w w' → K (.int .i64 0) w') :
    ld Try.prog TRF (ptr q) (fun t81 w => nilC (ptr p) (fun t82 w => fldA Try.prog TRD t82 0 (fun t83 w => sto Try.prog TRF t83 t81 (fun _t w => nilC (ptr p) (fun t85 w => fldA Try.prog TRD t85 1 (fun t86 w => sto Try.prog 38 t86 (.slice none 0 0) (fun _t w =>
      nilC (ptr p) (fun t88 w => fldA Try.prog TRD t88 2 (fun t89 w => sto Try.prog 4 t89 (.bool false) (fun _t w => nilC (ptr p) (fun t91 w => fldA Try.prog TRD t91 3 (fun t92 w => sto Try.prog 3 t92 (.int .i64 (-1)) (fun _t w => K (.int .i64 0) w) w) w) w) w) w) w) w) w) w) w) w) w) w := by
  refine ldA (n := 2) (vs := [sv F.1, sv F.2]) Try.underlying37 rfl (by kernel_rfl) hq rfl rfl ?_
  refine nilC_p (fA_RDisk_0 ?_)
  refine stoA (n := 2) (by kernel_rfl) rfl hb (by show 0 + 0 + 2 ≤ 5; omega) (by simp only [List.take, List.drop, List.mem_cons, List.not_mem_nil, or_false]; rintro u (rfl | rfl) <;> rfl) ?_
  intro w1 hb1 o1
  have hb1 : blk w1 p TRD [sv F.1, sv F.2, x2, x3, x4] := hb1
  refine nilC_p (fA_RDisk_1 ?_)
  refine sto1 (fun _ => by kernel_rfl) hb1 (by show 0 + 2 < 5; omega) rfl ?_
  intro w2 hb2 o2
  have hb2 : blk w2 p TRD [sv F.1, sv F.2, .slice none 0 0, x3, x4] := hb2
  refine nilC_p (fA_RDisk_2 ?_)
  refine sto1 size_bool hb2 (by show 0 + 3 < 5; omega) rfl ?_
  intro w3 hb3 o3
  have hb3 : blk w3 p TRD [sv F.1, sv F.2, .slice none 0 0, .bool false, x4] := hb3
  refine nilC_p (fA_RDisk_3 ?_)
  refine sto1 size_int hb3 (by show 0 + 4 < 5; omega) rfl ?_
  intro w4 hb4 o4
  have kp : ∀ {w w' : World} {cs : List Value}, Oth p w w' → blk w p TRD cs → Keep DR p w w' := fun ho hb => ho.keep hb (by simp [DR]) (Nat.le_refl _)
  exact h w4 ⟨none, 0, 0, hb4, (show (-1 : Int) ≤ -1 by decide), (show (-1 : Int) ≤ 9223372036854775807 by decide), hB, RR.nil _ _, hF⟩ ((((kp o1 hb).trans (kp o2 hb1)).trans (kp o3 hb2)).trans (kp o4 hb3))

set_option maxHeartbeats 1000000 in
theorem ron_c {B p : Nat} {D : DS} {w : World} {K : KV} {a : Option Addr} {n c : Nat} {picks : List Int} (hd : RK w B p D) (hri : RI w a n c picks) (hlen : D.loose.length < 4294967296)
    (h : ∀ w', RK w' B p (onS D picks).1 → Keep DR p w w' → K (.int .i64 (onS D picks).2) w') :
    call Try.prog 39 #[ptr p, .slice a n c] K w := by
  have hd0 := hd
  obtain ⟨la, ln, lc, hb, e1, e2, e3, hr, ho⟩ := hd
  have hln : D.loose.length = ln := by obtain ⟨_, _, _, e, _⟩ := hr; exact e
  refine call_of leatref04_Disk_On_go (leatref04_Disk_On_in ?_)
  (repeat (first | refine nilC_p ?_ | refine fA_RDisk_2 ?_ | refine ld_RL_1 _ hb rfl ?_ | refine bin_eql ?_ | refine bin_neq ?_ | refine bin_lss ?_ | refine bin_leq ?_ | refine bin_gtr ?_ | refine bin_geq ?_ | refine add64 (by omega) (by omega) ?_ | refine sub64 (by omega) (by omega) ?_ | refine ext_a ?_ | refine ext_b ?_ | refine ext3_a ?_ | refine ext3_b ?_ | refine ext3_c ?_ | refine un_notD ?_ | refine mul64 (by omega) (by omega) ?_ | refine cvIU (by omega) (by omega) ?_ | refine cvIUint (by omega) (by omega) ?_ | refine cvUI (by omega) (by omega) ?_ | refine cvBU (by omega) (by omega) ?_ | refine len8 ?_ | refine len36 ?_ | refine pick_T ?_ | refine pick_F ?_ | refine cond_T ?_ | refine cond_F ?_ | refine cond_t (by omega) ?_ | refine cond_f (by omega) ?_ | refine gsel_T ?_ | refine gsel_F ?_ | refine gsel_Tn ?_ | refine gsel_Fn ?_ | refine gsel_U ?_ | refine gsel_pt (by omega) ?_ | refine gsel_pf (by omega) ?_ | refine gsel_nt (by omega) ?_ | refine gsel_nf (by omega) ?_ | refine pick_t (by omega) ?_ | refine pick_f (by omega) ?_ | refine sti_of (fun _ hK => bin_eql hK) ?_ | refine sti_of (fun _ hK => bin_neq hK) ?_ | refine sti_of (fun _ hK => bin_lss hK) ?_ | refine sti_of (fun _ hK => bin_leq hK) ?_ | refine sti_of (fun _ hK => bin_gtr hK) ?_ | refine sti_of (fun _ hK => bin_geq hK) ?_ | refine sti_of (fun _ hK => add64 (by omega) (by omega) hK) ?_ | refine sti_of (fun _ hK => sub64 (by omega) (by omega) hK) ?_ | refine sti_of (fun _ hK => un_notD hK) ?_ | refine sti_of (fun _ hK => len8 hK) ?_ | refine sti_of (fun _ hK => pick_T hK) ?_ | refine sti_of (fun _ hK => pick_F hK) ?_))
  refine un_not ?_
  by_cases hoff : D.off = false
  · rw [show onS D picks = (D, 3) by simp [onS, hoff]] at h
    simp only [hoff, Bool.not_false]
    (repeat (first | refine bin_eql ?_ | refine bin_neq ?_ | refine bin_lss ?_ | refine bin_leq ?_ | refine bin_gtr ?_ | refine bin_geq ?_ | refine add64 (by omega) (by omega) ?_ | refine sub64 (by omega) (by omega) ?_ | refine ext_a ?_ | refine ext_b ?_ | refine ext3_a ?_ | refine ext3_b ?_ | refine ext3_c ?_ | refine un_notD ?_ | refine mul64 (by omega) (by omega) ?_ | refine cvIU (by omega) (by omega) ?_ | refine cvIUint (by omega) (by omega) ?_ | refine cvUI (by omega) (by omega) ?_ | refine cvBU (by omega) (by omega) ?_ | refine len8 ?_ | refine len36 ?_ | refine pick_T ?_ | refine pick_F ?_ | refine cond_T ?_ | refine cond_F ?_ | refine cond_t (by omega) ?_ | refine cond_f (by omega) ?_ | refine gsel_T ?_ | refine gsel_F ?_ | refine gsel_Tn ?_ | refine gsel_Fn ?_ | refine gsel_U ?_ | refine gsel_pt (by omega) ?_ | refine gsel_pf (by omega) ?_ | refine gsel_nt (by omega) ?_ | refine gsel_nf (by omega) ?_ | refine pick_t (by omega) ?_ | refine pick_f (by omega) ?_ | refine sti_of (fun _ hK => bin_eql hK) ?_ | refine sti_of (fun _ hK => bin_neq hK) ?_ | refine sti_of (fun _ hK => bin_lss hK) ?_ | refine sti_of (fun _ hK => bin_leq hK) ?_ | refine sti_of (fun _ hK => bin_gtr hK) ?_ | refine sti_of (fun _ hK => bin_geq hK) ?_ | refine sti_of (fun _ hK => add64 (by omega) (by omega) hK) ?_ | refine sti_of (fun _ hK => sub64 (by omega) (by omega) hK) ?_ | refine sti_of (fun _ hK => un_notD hK) ?_ | refine sti_of (fun _ hK => len8 hK) ?_ | refine sti_of (fun _ hK => pick_T hK) ?_ | refine sti_of (fun _ hK => pick_F hK) ?_))
    exact h w hd0 (Keep.refl _ _ _)
  have hoff : D.off = true := by simpa using hoff
  simp only [hoff, Bool.not_true]
  rw [hoff] at hb
  (repeat (first | refine bin_eql ?_ | refine bin_neq ?_ | refine bin_lss ?_ | refine bin_leq ?_ | refine bin_gtr ?_ | refine bin_geq ?_ | refine add64 (by omega) (by omega) ?_ | refine sub64 (by omega) (by omega) ?_ | refine ext_a ?_ | refine ext_b ?_ | refine ext3_a ?_ | refine ext3_b ?_ | refine ext3_c ?_ | refine un_notD ?_ | refine mul64 (by omega) (by omega) ?_ | refine cvIU (by omega) (by omega) ?_ | refine cvIUint (by omega) (by omega) ?_ | refine cvUI (by omega) (by omega) ?_ | refine cvBU (by omega) (by omega) ?_ | refine len8 ?_ | refine len36 ?_ | refine pick_T ?_ | refine pick_F ?_ | refine cond_T ?_ | refine cond_F ?_ | refine cond_t (by omega) ?_ | refine cond_f (by omega) ?_ | refine gsel_T ?_ | refine gsel_F ?_ | refine gsel_Tn ?_ | refine gsel_Fn ?_ | refine gsel_U ?_ | refine gsel_pt (by omega) ?_ | refine gsel_pf (by omega) ?_ | refine gsel_nt (by omega) ?_ | refine gsel_nf (by omega) ?_ | refine pick_t (by omega) ?_ | refine pick_f (by omega) ?_ | refine sti_of (fun _ hK => bin_eql hK) ?_ | refine sti_of (fun _ hK => bin_neq hK) ?_ | refine sti_of (fun _ hK => bin_lss hK) ?_ | refine sti_of (fun _ hK => bin_leq hK) ?_ | refine sti_of (fun _ hK => bin_gtr hK) ?_ | refine sti_of (fun _ hK => bin_geq hK) ?_ | refine sti_of (fun _ hK => add64 (by omega) (by omega) hK) ?_ | refine sti_of (fun _ hK => sub64 (by omega) (by omega) hK) ?_ | refine sti_of (fun _ hK => un_notD hK) ?_ | refine sti_of (fun _ hK => len8 hK) ?_ | refine sti_of (fun _ hK => pick_T hK) ?_ | refine sti_of (fun _ hK => pick_F hK) ?_))
  have rid : RI w.drew a n c picks := RI.below hri (Below.refl _ w).drew (Nat.le_refl _)
  refine hReg_of (fun w' => blk w' p TRD [sv D.sure.1, sv D.sure.2, .slice la ln lc, .bool true, .int .i64 D.fuse]) (show blk w.drew p TRD _ from hb) ?_
  refine hld_of (fun w hw K hK => nilC_p hK) ?_
  refine hld_of (fun w hw K hK => fA_RDisk_1 hK) ?_
  refine hld_of (fun w hw K hK => ld_RL_3 _ hw rfl hK) ?_
  refine hld_of (fun w hw K hK => len_slc Try.underlying38 hK) ?_
  refine hld_of (fun w hw K hK => add64 (by omega) (by omega) hK) ?_
  refine rpick_c (i := 0) rid ?_
  refine hSub_same (show blk w.drew p TRD _ from hb) ?_
  refine hld_of (fun w hw K hK => rem_nn (pickV_nn picks 0) (by omega) hK) ?_
  rw [pickS_mod]
  have hkb := pickS_lt picks 0 (among := (ln : Int) + 1) (by omega)
  generalize hkk : pickS picks 0 ((ln : Int) + 1) = kk at *
  obtain ⟨k, rfl⟩ := Int.eq_ofNat_of_zero_le hkb.1
  have hkn : k ≤ ln := by omega
  have hbd : blk w.drew p TRD [sv D.sure.1, sv D.sure.2, .slice la ln lc, .bool true, .int .i64 D.fuse] := hb
  refine nilC_p (fA_RDisk_0 ?_)
  refine ldA (n := 2) (vs := [sv D.sure.1, sv D.sure.2]) Try.underlying37 rfl (by kernel_rfl) hbd rfl rfl ?_
  refine alc_of (z := .agg #[.string (bstr []), .string (bstr [])]) (by kernel_rfl) ?_
  intro w1 hf1 b1 s1
  refine stoA (n := 2) (by kernel_rfl) rfl hf1 (by show 0 + 2 ≤ 2; omega) (by simp only [List.take, List.drop, List.mem_cons, List.not_mem_nil, or_false]; rintro u (rfl | rfl) <;> rfl) ?_
  intro w2 hf2 o2
  have hf2 : blk w2 w.heap.size TRF [sv D.sure.1, sv D.sure.2] := hf2
  have B2 : Below w.heap.size w w2 := (Below.refl _ w).drew.trans (b1.trans (o2.below.mono (Nat.le_refl _)))
  refine leatref04_Disk_On_L1_r (Inv := fun i wr => ∃ j : Nat, i = .int .i64 (j : Nat) ∧ j ≤ k ∧ Below w.heap.size w wr ∧ blk wr w.heap.size TRF [sv (runs (D.loose.take j) D.sure).1, sv (runs (D.loose.take j) D.sure).2])
    (μ := fun i _ => k - (intOf i).toNat) ⟨0, rfl, by omega, B2, hf2⟩ ?_
  rintro _ _ w4 m ⟨j, rfl, hj, B4, hf4⟩ hm
  have hb4 := below_blk B4 hb hb.lt
  have hrow4 := hr.keep (Keep.of B4 : Keep [] 0 w w4) (by simp)
  by_cases hjk : j < k
  · (repeat (first | refine bin_eql ?_ | refine bin_neq ?_ | refine bin_lss ?_ | refine bin_leq ?_ | refine bin_gtr ?_ | refine bin_geq ?_ | refine add64 (by omega) (by omega) ?_ | refine sub64 (by omega) (by omega) ?_ | refine ext_a ?_ | refine ext_b ?_ | refine ext3_a ?_ | refine ext3_b ?_ | refine ext3_c ?_ | refine un_notD ?_ | refine mul64 (by omega) (by omega) ?_ | refine cvIU (by omega) (by omega) ?_ | refine cvIUint (by omega) (by omega) ?_ | refine cvUI (by omega) (by omega) ?_ | refine cvBU (by omega) (by omega) ?_ | refine len8 ?_ | refine len36 ?_ | refine pick_T ?_ | refine pick_F ?_ | refine cond_T ?_ | refine cond_F ?_ | refine cond_t (by omega) ?_ | refine cond_f (by omega) ?_ | refine gsel_T ?_ | refine gsel_F ?_ | refine gsel_Tn ?_ | refine gsel_Fn ?_ | refine gsel_U ?_ | refine gsel_pt (by omega) ?_ | refine gsel_pf (by omega) ?_ | refine gsel_nt (by omega) ?_ | refine gsel_nf (by omega) ?_ | refine pick_t (by omega) ?_ | refine pick_f (by omega) ?_ | refine sti_of (fun _ hK => bin_eql hK) ?_ | refine sti_of (fun _ hK => bin_neq hK) ?_ | refine sti_of (fun _ hK => bin_lss hK) ?_ | refine sti_of (fun _ hK => bin_leq hK) ?_ | refine sti_of (fun _ hK => bin_gtr hK) ?_ | refine sti_of (fun _ hK => bin_geq hK) ?_ | refine sti_of (fun _ hK => add64 (by omega) (by omega) hK) ?_ | refine sti_of (fun _ hK => sub64 (by omega) (by omega) hK) ?_ | refine sti_of (fun _ hK => un_notD hK) ?_ | refine sti_of (fun _ hK => len8 hK) ?_ | refine sti_of (fun _ hK => pick_T hK) ?_ | refine sti_of (fun _ hK => pick_F hK) ?_))
    obtain ⟨g, cur, ch, cs, rfl, hg, hcs, hch, hC, hjl⟩ := hrow4.get j (by omega)
    obtain ⟨hcok, htot⟩ := okAll_get ho hch
    refine hReg_of (fun w' => blk w' w.heap.size TRF [sv (runs (D.loose.take j) D.sure).1, sv (runs (D.loose.take j) D.sure).2] ∧ blk w' p TRD [sv D.sure.1, sv D.sure.2, .slice (some ⟨g, 0, none⟩) ln lc, .bool true, .int .i64 D.fuse] ∧ blk w' g 74 cur) ⟨hf4, hb4, hg⟩ ?_
    refine hld_of (fun w hw K hK => ldA (n := 2) (vs := [sv (runs (D.loose.take j) D.sure).1, sv (runs (D.loose.take j) D.sure).2]) Try.underlying37 rfl (by kernel_rfl) hw.1 rfl rfl hK) ?_
    refine hld_of (fun w hw K hK => nilC_p hK) ?_
    refine hld_of (fun w hw K hK => fA_RDisk_1 hK) ?_
    refine hld_of (fun w hw K hK => ld_RL_3 _ hw.2.1 rfl hK) ?_
    refine hld_of (fun w hw K hK => idxRow (s := 4) Try.underlying38 (fun _ => by kernel_rfl) (by omega) (by omega) hK) ?_
    have hcl : cs.length = 4 := by obtain ⟨_, _, _, _, e⟩ := hC.shape; rw [e]; rfl
    refine hld_of (fun w hw K hK => ldA (n := 4) (vs := cs) Try.underlying74 rfl (by kernel_rfl) hw.2.2 (by rw [Nat.zero_add]; exact hcs) hcl hK) ?_
    refine with_c hC hcok htot ?_
    intro w5 b5
    have B5 : Below w.heap.size w w5 := (B4.drew).trans (b5.mono B4.drew.size)
    have hf5 : blk w5 w.heap.size TRF [sv (runs (D.loose.take j) D.sure).1, sv (runs (D.loose.take j) D.sure).2] := below_blk b5 (show blk w4.drew _ _ _ from hf4) hf4.lt
    refine hReg_of (fun _ => True) trivial ?_
    refine stoA (n := 2) (by kernel_rfl) rfl hf5 (by show 0 + 2 ≤ 2; omega) (by simp only [List.take, List.drop, List.mem_cons, List.not_mem_nil, or_false]; rintro u (rfl | rfl) <;> rfl) ?_
    intro w6 hf6 o6
    have htk : runs (D.loose.take (j + 1)) D.sure = ch.on (runs (D.loose.take j) D.sure) := by
      rw [List.take_succ_eq_append_getElem hjl, runs_snoc]
      rw [List.getElem?_eq_getElem hjl] at hch
      cases hch; rfl
    (repeat (first | refine bin_eql ?_ | refine bin_neq ?_ | refine bin_lss ?_ | refine bin_leq ?_ | refine bin_gtr ?_ | refine bin_geq ?_ | refine add64 (by omega) (by omega) ?_ | refine sub64 (by omega) (by omega) ?_ | refine ext_a ?_ | refine ext_b ?_ | refine ext3_a ?_ | refine ext3_b ?_ | refine ext3_c ?_ | refine un_notD ?_ | refine mul64 (by omega) (by omega) ?_ | refine cvIU (by omega) (by omega) ?_ | refine cvIUint (by omega) (by omega) ?_ | refine cvUI (by omega) (by omega) ?_ | refine cvBU (by omega) (by omega) ?_ | refine len8 ?_ | refine len36 ?_ | refine pick_T ?_ | refine pick_F ?_ | refine cond_T ?_ | refine cond_F ?_ | refine cond_t (by omega) ?_ | refine cond_f (by omega) ?_ | refine gsel_T ?_ | refine gsel_F ?_ | refine gsel_Tn ?_ | refine gsel_Fn ?_ | refine gsel_U ?_ | refine gsel_pt (by omega) ?_ | refine gsel_pf (by omega) ?_ | refine gsel_nt (by omega) ?_ | refine gsel_nf (by omega) ?_ | refine pick_t (by omega) ?_ | refine pick_f (by omega) ?_ | refine sti_of (fun _ hK => bin_eql hK) ?_ | refine sti_of (fun _ hK => bin_neq hK) ?_ | refine sti_of (fun _ hK => bin_lss hK) ?_ | refine sti_of (fun _ hK => bin_leq hK) ?_ | refine sti_of (fun _ hK => bin_gtr hK) ?_ | refine sti_of (fun _ hK => bin_geq hK) ?_ | refine sti_of (fun _ hK => add64 (by omega) (by omega) hK) ?_ | refine sti_of (fun _ hK => sub64 (by omega) (by omega) hK) ?_ | refine sti_of (fun _ hK => un_notD hK) ?_ | refine sti_of (fun _ hK => len8 hK) ?_ | refine sti_of (fun _ hK => pick_T hK) ?_ | refine sti_of (fun _ hK => pick_F hK) ?_))
    refine ⟨⟨j + 1, by simp, by omega, B5.trans (o6.below.mono (Nat.le_refl _)), by rw [htk]; exact hf6⟩, by rw [hm]; simp only [intOf]; omega⟩
  have hjk : j = k := by omega
  subst hjk
  clear hm
  have hkp : ∀ {w5 w6 : World}, Below w.heap.size w w5 → Keep DR p w5 w6 → Keep DR p w w6 := fun h1 h2 => (Keep.of h1).trans h2
  by_cases hjl : D.loose.length ≤ j
  · rw [show onS D picks = (⟨runs (D.loose.take j) D.sure, [], false, -1⟩, 0) by
        unfold onS; rw [if_neg (by rw [hoff]; simp)]; simp only [hln, hkk, Int.toNat_natCast, List.getElem?_eq_none hjl]] at h
    (repeat (first | refine nilC_p ?_ | refine fA_RDisk_1 ?_ | refine ld_RL_3 _ hb4 rfl ?_ | refine len_slc Try.underlying38 ?_ | refine leatref04_Disk_On_P1_r ?_ | refine leatref04_Disk_On_P2_r ?_ | refine leatref04_Disk_On_A1_r ?_ | refine bin_eql ?_ | refine bin_neq ?_ | refine bin_lss ?_ | refine bin_leq ?_ | refine bin_gtr ?_ | refine bin_geq ?_ | refine add64 (by omega) (by omega) ?_ | refine sub64 (by omega) (by omega) ?_ | refine ext_a ?_ | refine ext_b ?_ | refine ext3_a ?_ | refine ext3_b ?_ | refine ext3_c ?_ | refine un_notD ?_ | refine mul64 (by omega) (by omega) ?_ | refine cvIU (by omega) (by omega) ?_ | refine cvIUint (by omega) (by omega) ?_ | refine cvUI (by omega) (by omega) ?_ | refine cvBU (by omega) (by omega) ?_ | refine len8 ?_ | refine len36 ?_ | refine pick_T ?_ | refine pick_F ?_ | refine cond_T ?_ | refine cond_F ?_ | refine cond_t (by omega) ?_ | refine cond_f (by omega) ?_ | refine gsel_T ?_ | refine gsel_F ?_ | refine gsel_Tn ?_ | refine gsel_Fn ?_ | refine gsel_U ?_ | refine gsel_pt (by omega) ?_ | refine gsel_pf (by omega) ?_ | refine gsel_nt (by omega) ?_ | refine gsel_nf (by omega) ?_ | refine pick_t (by omega) ?_ | refine pick_f (by omega) ?_ | refine sti_of (fun _ hK => bin_eql hK) ?_ | refine sti_of (fun _ hK => bin_neq hK) ?_ | refine sti_of (fun _ hK => bin_lss hK) ?_ | refine sti_of (fun _ hK => bin_leq hK) ?_ | refine sti_of (fun _ hK => bin_gtr hK) ?_ | refine sti_of (fun _ hK => bin_geq hK) ?_ | refine sti_of (fun _ hK => add64 (by omega) (by omega) hK) ?_ | refine sti_of (fun _ hK => sub64 (by omega) (by omega) hK) ?_ | refine sti_of (fun _ hK => un_notD hK) ?_ | refine sti_of (fun _ hK => len8 hK) ?_ | refine sti_of (fun _ hK => pick_T hK) ?_ | refine sti_of (fun _ hK => pick_F hK) ?_))
    exact ron_end hf4 hb4 e3 (by rw [List.take_of_length_le hjl]; exact okAll_now ho) (fun w' hd' hk' => h w' hd' (hkp B4 hk'))
  obtain ⟨g, cur, ch, cs, rfl, hg, hcs, hch, hC, hjl2⟩ := hrow4.get j (by omega)
  obtain ⟨hcok, htot⟩ := okAll_get ho hch
  have hcl : cs.length = 4 := by obtain ⟨_, _, _, _, e⟩ := hC.shape; rw [e]; rfl
  have hcu : ∀ i, i < 4 → cur[0 + j * 4 + i]? = cs[i]? := by
    intro i hi
    rw [← hcs, List.getElem?_take_of_lt hi, List.getElem?_drop, Nat.zero_add]
  (repeat (first | refine nilC_p ?_ | refine fA_RDisk_1 ?_ | refine ld_RL_3 _ hb4 rfl ?_ | refine len_slc Try.underlying38 ?_ | refine gsel_pt (by omega) ?_ | refine leatref04_Disk_On_P1_r ?_ | refine leatref04_Disk_On_P2_r ?_ | refine leatref04_Disk_On_A1_r ?_ | refine bin_eql ?_ | refine bin_neq ?_ | refine bin_lss ?_ | refine bin_leq ?_ | refine bin_gtr ?_ | refine bin_geq ?_ | refine add64 (by omega) (by omega) ?_ | refine sub64 (by omega) (by omega) ?_ | refine ext_a ?_ | refine ext_b ?_ | refine ext3_a ?_ | refine ext3_b ?_ | refine ext3_c ?_ | refine un_notD ?_ | refine mul64 (by omega) (by omega) ?_ | refine cvIU (by omega) (by omega) ?_ | refine cvIUint (by omega) (by omega) ?_ | refine cvUI (by omega) (by omega) ?_ | refine cvBU (by omega) (by omega) ?_ | refine len8 ?_ | refine len36 ?_ | refine pick_T ?_ | refine pick_F ?_ | refine cond_T ?_ | refine cond_F ?_ | refine cond_t (by omega) ?_ | refine cond_f (by omega) ?_ | refine gsel_T ?_ | refine gsel_F ?_ | refine gsel_Tn ?_ | refine gsel_Fn ?_ | refine gsel_U ?_ | refine gsel_pt (by omega) ?_ | refine gsel_pf (by omega) ?_ | refine gsel_nt (by omega) ?_ | refine gsel_nf (by omega) ?_ | refine pick_t (by omega) ?_ | refine pick_f (by omega) ?_ | refine sti_of (fun _ hK => bin_eql hK) ?_ | refine sti_of (fun _ hK => bin_neq hK) ?_ | refine sti_of (fun _ hK => bin_lss hK) ?_ | refine sti_of (fun _ hK => bin_leq hK) ?_ | refine sti_of (fun _ hK => bin_gtr hK) ?_ | refine sti_of (fun _ hK => bin_geq hK) ?_ | refine sti_of (fun _ hK => add64 (by omega) (by omega) hK) ?_ | refine sti_of (fun _ hK => sub64 (by omega) (by omega) hK) ?_ | refine sti_of (fun _ hK => un_notD hK) ?_ | refine sti_of (fun _ hK => len8 hK) ?_ | refine sti_of (fun _ hK => pick_T hK) ?_ | refine sti_of (fun _ hK => pick_F hK) ?_))
  refine idxRow (s := 4) Try.underlying38 (fun _ => by kernel_rfl) (by omega) (by omega) ?_
  refine fA_RChange_0 ?_
  rw [Int.toNat_natCast]
  cases ch with
  | app f b =>
    obtain ⟨nn, rfl⟩ := hC
    refine ld_RL_0 (.int .i64 1) hg (by rw [hcu 0 (by decide)]; rfl) ?_
    have hcok : tot (runs (D.loose.take j) D.sure) + b.length ≤ 4194304 := hcok
    rw [show onS D picks = (⟨(Chg.app f (b.take (pickS picks 1 (b.length + 1)).toNat)).on (runs (D.loose.take j) D.sure), [], false, -1⟩, 0) by
        unfold onS; rw [if_neg (by rw [hoff]; simp)]; simp only [hln, hkk, Int.toNat_natCast, hch]] at h
    (repeat (first | refine pick_t (by omega) ?_ | refine cond_t rfl ?_ | refine nilC_p ?_ | refine fA_RDisk_1 ?_ | refine ld_RL_3 _ hb4 rfl ?_ | refine leatref04_Disk_On_P1_r ?_ | refine leatref04_Disk_On_P2_r ?_ | refine leatref04_Disk_On_A1_r ?_ | refine bin_eql ?_ | refine bin_neq ?_ | refine bin_lss ?_ | refine bin_leq ?_ | refine bin_gtr ?_ | refine bin_geq ?_ | refine add64 (by omega) (by omega) ?_ | refine sub64 (by omega) (by omega) ?_ | refine ext_a ?_ | refine ext_b ?_ | refine ext3_a ?_ | refine ext3_b ?_ | refine ext3_c ?_ | refine un_notD ?_ | refine mul64 (by omega) (by omega) ?_ | refine cvIU (by omega) (by omega) ?_ | refine cvIUint (by omega) (by omega) ?_ | refine cvUI (by omega) (by omega) ?_ | refine cvBU (by omega) (by omega) ?_ | refine len8 ?_ | refine len36 ?_ | refine pick_T ?_ | refine pick_F ?_ | refine cond_T ?_ | refine cond_F ?_ | refine cond_t (by omega) ?_ | refine cond_f (by omega) ?_ | refine gsel_T ?_ | refine gsel_F ?_ | refine gsel_Tn ?_ | refine gsel_Fn ?_ | refine gsel_U ?_ | refine gsel_pt (by omega) ?_ | refine gsel_pf (by omega) ?_ | refine gsel_nt (by omega) ?_ | refine gsel_nf (by omega) ?_ | refine pick_t (by omega) ?_ | refine pick_f (by omega) ?_ | refine sti_of (fun _ hK => bin_eql hK) ?_ | refine sti_of (fun _ hK => bin_neq hK) ?_ | refine sti_of (fun _ hK => bin_lss hK) ?_ | refine sti_of (fun _ hK => bin_leq hK) ?_ | refine sti_of (fun _ hK => bin_gtr hK) ?_ | refine sti_of (fun _ hK => bin_geq hK) ?_ | refine sti_of (fun _ hK => add64 (by omega) (by omega) hK) ?_ | refine sti_of (fun _ hK => sub64 (by omega) (by omega) hK) ?_ | refine sti_of (fun _ hK => un_notD hK) ?_ | refine sti_of (fun _ hK => len8 hK) ?_ | refine sti_of (fun _ hK => pick_T hK) ?_ | refine sti_of (fun _ hK => pick_F hK) ?_))
    refine idxRow (s := 4) Try.underlying38 (fun _ => by kernel_rfl) (by omega) (by omega) ?_
    refine ldA (n := 4) (vs := [.int .i64 1, .int .i64 (fi f), .int .i64 nn, sv b]) Try.underlying74 rfl (by kernel_rfl) hg (by rw [Nat.zero_add, Int.toNat_natCast]; exact hcs) rfl ?_
    refine alc_of (z := .agg #[.int .i64 0, .int .i64 0, .int .i64 0, .string (bstr [])]) (by kernel_rfl) ?_
    intro w5 hc5 b5 s5
    refine stoA (n := 4) (by kernel_rfl) rfl hc5 (by show 0 + 4 ≤ 4; omega) (by simp only [List.take, List.drop, List.mem_cons, List.not_mem_nil, or_false]; rintro u (rfl | rfl | rfl | rfl) <;> rfl) ?_
    intro w6 hc6 o6
    have hc6 : blk w6 w4.heap.size 74 [.int .i64 1, .int .i64 (fi f), .int .i64 nn, sv b] := hc6
    have b6 : Below w4.heap.size w4 w6 := b5.trans (o6.below.mono (Nat.le_refl _))
    have B6 : Below w.heap.size w w6 := B4.trans (b6.mono B4.size)
    have hf6 := below_blk b6 hf4 hf4.lt
    have hb6 := below_blk b6 hb4 hb4.lt
    refine hReg_of (fun w' => blk w' w4.heap.size 74 [.int .i64 1, .int .i64 (fi f), .int .i64 nn, sv b]) (show blk w6.drew _ _ _ from hc6) ?_
    refine hld_of (fun w hw K hK => fA_RChange_3 hK) ?_
    refine hld_of (fun w hw K hK => ld_RL_2 (sv b) hw rfl hK) ?_
    refine hld_of (fun w hw K hK => fA_RChange_3 hK) ?_
    refine hld_of (fun w hw K hK => ld_RL_2 (sv b) hw rfl hK) ?_
    refine hld_of (fun w hw K hK => len_str Try.underlying9 hK) ?_
    refine hld_of (fun w hw K hK => add64 (by omega) (by omega) hK) ?_
    refine rpick_c (w := w6.drew) (i := 1) (RI.below hri B6.drew (Nat.le_refl _)) ?_
    refine hSub_same (show blk w6.drew _ _ _ from hc6) ?_
    refine hld_of (fun w hw K hK => rem_nn (pickV_nn picks 1) (by omega) hK) ?_
    rw [pickS_mod]
    have hpb := pickS_lt picks 1 (among := (b.length : Int) + 1) (by omega)
    generalize hpp : pickS picks 1 ((b.length : Int) + 1) = pp at *
    obtain ⟨q, rfl⟩ := Int.eq_ofNat_of_zero_le hpb.1
    refine hld_of (fun w hw K hK => slcS (m := q) Try.underlying9 (by omega) hK) ?_
    refine hld_of (fun w hw K hK => fA_RChange_3 hK) ?_
    refine sto1 (w := w6.drew) size_str hc6 (by show 0 + 3 < 4; omega) rfl ?_
    intro w7 hc7 o7
    have hc7 : blk w7 w4.heap.size 74 [.int .i64 1, .int .i64 (fi f), .int .i64 nn, sv (b.take q)] := hc7
    have hne : w.heap.size ≠ w4.heap.size := by have := hf4.lt; omega
    have hf7 : blk w7 w.heap.size TRF _ := o7.blk (show blk w6.drew _ _ _ from hf6) hne
    refine ldA (n := 2) (vs := [sv (runs (D.loose.take j) D.sure).1, sv (runs (D.loose.take j) D.sure).2]) Try.underlying37 rfl (by kernel_rfl) hf7 rfl rfl ?_
    refine ldA (n := 4) (vs := [.int .i64 1, .int .i64 (fi f), .int .i64 nn, sv (b.take q)]) Try.underlying74 rfl (by kernel_rfl) hc7 rfl rfl ?_
    have hq2 : (b.take q).length ≤ b.length := by rw [List.length_take]; omega
    have hcok2 : (Chg.app f (b.take q)).ok (runs (D.loose.take j) D.sure) := by show tot _ + (b.take q).length ≤ 4194304; omega
    refine with_c (c := .app f (b.take q)) ⟨nn, rfl⟩ hcok2 htot ?_
    intro w8 b8
    have hf8 := below_blk b8 hf7 hf7.lt
    have B7 : Below w.heap.size w w7 := B6.drew.trans (o7.below.mono (by have := hf4.lt; omega))
    have B8 : Below w.heap.size w w8 := B7.trans (b8.mono B7.size)
    refine stoA (n := 2) (by kernel_rfl) rfl hf8 (by show 0 + 2 ≤ 2; omega) (by simp only [List.take, List.drop, List.mem_cons, List.not_mem_nil, or_false]; rintro u (rfl | rfl) <;> rfl) ?_
    intro w9 hf9 o9
    have hf9 : blk w9 w.heap.size TRF [sv ((Chg.app f (b.take q)).on (runs (D.loose.take j) D.sure)).1, sv ((Chg.app f (b.take q)).on (runs (D.loose.take j) D.sure)).2] := hf9
    have B9 : Below w.heap.size w w9 := B8.trans (o9.below.mono (Nat.le_refl _))
    have hb9 := below_blk B9 hb hb.lt
    (repeat (first | refine leatref04_Disk_On_P1_r ?_ | refine leatref04_Disk_On_P2_r ?_ | refine leatref04_Disk_On_A1_r ?_ | refine bin_eql ?_ | refine bin_neq ?_ | refine bin_lss ?_ | refine bin_leq ?_ | refine bin_gtr ?_ | refine bin_geq ?_ | refine add64 (by omega) (by omega) ?_ | refine sub64 (by omega) (by omega) ?_ | refine ext_a ?_ | refine ext_b ?_ | refine ext3_a ?_ | refine ext3_b ?_ | refine ext3_c ?_ | refine un_notD ?_ | refine mul64 (by omega) (by omega) ?_ | refine cvIU (by omega) (by omega) ?_ | refine cvIUint (by omega) (by omega) ?_ | refine cvUI (by omega) (by omega) ?_ | refine cvBU (by omega) (by omega) ?_ | refine len8 ?_ | refine len36 ?_ | refine pick_T ?_ | refine pick_F ?_ | refine cond_T ?_ | refine cond_F ?_ | refine cond_t (by omega) ?_ | refine cond_f (by omega) ?_ | refine gsel_T ?_ | refine gsel_F ?_ | refine gsel_Tn ?_ | refine gsel_Fn ?_ | refine gsel_U ?_ | refine gsel_pt (by omega) ?_ | refine gsel_pf (by omega) ?_ | refine gsel_nt (by omega) ?_ | refine gsel_nf (by omega) ?_ | refine pick_t (by omega) ?_ | refine pick_f (by omega) ?_ | refine sti_of (fun _ hK => bin_eql hK) ?_ | refine sti_of (fun _ hK => bin_neq hK) ?_ | refine sti_of (fun _ hK => bin_lss hK) ?_ | refine sti_of (fun _ hK => bin_leq hK) ?_ | refine sti_of (fun _ hK => bin_gtr hK) ?_ | refine sti_of (fun _ hK => bin_geq hK) ?_ | refine sti_of (fun _ hK => add64 (by omega) (by omega) hK) ?_ | refine sti_of (fun _ hK => sub64 (by omega) (by omega) hK) ?_ | refine sti_of (fun _ hK => un_notD hK) ?_ | refine sti_of (fun _ hK => len8 hK) ?_ | refine sti_of (fun _ hK => pick_T hK) ?_ | refine sti_of (fun _ hK => pick_F hK) ?_))
    exact ron_end hf9 hb9 e3 (tot_on htot hcok2) (fun w' hd' hk' => h w' hd' (hkp B9 hk'))
  | cut f nn =>
    obtain ⟨b, rfl⟩ := hC
    refine ld_RL_0 (.int .i64 2) hg (by rw [hcu 0 (by decide)]; rfl) ?_
    rw [show onS D picks = (⟨runs (D.loose.take j) D.sure, [], false, -1⟩, 0) by
        unfold onS; rw [if_neg (by rw [hoff]; simp)]; simp only [hln, hkk, Int.toNat_natCast, hch]] at h
    (repeat (first | refine leatref04_Disk_On_P1_r ?_ | refine leatref04_Disk_On_P2_r ?_ | refine leatref04_Disk_On_A1_r ?_ | refine bin_eql ?_ | refine bin_neq ?_ | refine bin_lss ?_ | refine bin_leq ?_ | refine bin_gtr ?_ | refine bin_geq ?_ | refine add64 (by omega) (by omega) ?_ | refine sub64 (by omega) (by omega) ?_ | refine ext_a ?_ | refine ext_b ?_ | refine ext3_a ?_ | refine ext3_b ?_ | refine ext3_c ?_ | refine un_notD ?_ | refine mul64 (by omega) (by omega) ?_ | refine cvIU (by omega) (by omega) ?_ | refine cvIUint (by omega) (by omega) ?_ | refine cvUI (by omega) (by omega) ?_ | refine cvBU (by omega) (by omega) ?_ | refine len8 ?_ | refine len36 ?_ | refine pick_T ?_ | refine pick_F ?_ | refine cond_T ?_ | refine cond_F ?_ | refine cond_t (by omega) ?_ | refine cond_f (by omega) ?_ | refine gsel_T ?_ | refine gsel_F ?_ | refine gsel_Tn ?_ | refine gsel_Fn ?_ | refine gsel_U ?_ | refine gsel_pt (by omega) ?_ | refine gsel_pf (by omega) ?_ | refine gsel_nt (by omega) ?_ | refine gsel_nf (by omega) ?_ | refine pick_t (by omega) ?_ | refine pick_f (by omega) ?_ | refine sti_of (fun _ hK => bin_eql hK) ?_ | refine sti_of (fun _ hK => bin_neq hK) ?_ | refine sti_of (fun _ hK => bin_lss hK) ?_ | refine sti_of (fun _ hK => bin_leq hK) ?_ | refine sti_of (fun _ hK => bin_gtr hK) ?_ | refine sti_of (fun _ hK => bin_geq hK) ?_ | refine sti_of (fun _ hK => add64 (by omega) (by omega) hK) ?_ | refine sti_of (fun _ hK => sub64 (by omega) (by omega) hK) ?_ | refine sti_of (fun _ hK => un_notD hK) ?_ | refine sti_of (fun _ hK => len8 hK) ?_ | refine sti_of (fun _ hK => pick_T hK) ?_ | refine sti_of (fun _ hK => pick_F hK) ?_))
    exact ron_end hf4 hb4 e3 htot (fun w' hd' hk' => h w' hd' (hkp B4 hk'))
  | ren =>
    obtain ⟨f, nn, b, rfl⟩ := hC
    refine ld_RL_0 (.int .i64 3) hg (by rw [hcu 0 (by decide)]; rfl) ?_
    rw [show onS D picks = (⟨runs (D.loose.take j) D.sure, [], false, -1⟩, 0) by
        unfold onS; rw [if_neg (by rw [hoff]; simp)]; simp only [hln, hkk, Int.toNat_natCast, hch]] at h
    (repeat (first | refine leatref04_Disk_On_P1_r ?_ | refine leatref04_Disk_On_P2_r ?_ | refine leatref04_Disk_On_A1_r ?_ | refine bin_eql ?_ | refine bin_neq ?_ | refine bin_lss ?_ | refine bin_leq ?_ | refine bin_gtr ?_ | refine bin_geq ?_ | refine add64 (by omega) (by omega) ?_ | refine sub64 (by omega) (by omega) ?_ | refine ext_a ?_ | refine ext_b ?_ | refine ext3_a ?_ | refine ext3_b ?_ | refine ext3_c ?_ | refine un_notD ?_ | refine mul64 (by omega) (by omega) ?_ | refine cvIU (by omega) (by omega) ?_ | refine cvIUint (by omega) (by omega) ?_ | refine cvUI (by omega) (by omega) ?_ | refine cvBU (by omega) (by omega) ?_ | refine len8 ?_ | refine len36 ?_ | refine pick_T ?_ | refine pick_F ?_ | refine cond_T ?_ | refine cond_F ?_ | refine cond_t (by omega) ?_ | refine cond_f (by omega) ?_ | refine gsel_T ?_ | refine gsel_F ?_ | refine gsel_Tn ?_ | refine gsel_Fn ?_ | refine gsel_U ?_ | refine gsel_pt (by omega) ?_ | refine gsel_pf (by omega) ?_ | refine gsel_nt (by omega) ?_ | refine gsel_nf (by omega) ?_ | refine pick_t (by omega) ?_ | refine pick_f (by omega) ?_ | refine sti_of (fun _ hK => bin_eql hK) ?_ | refine sti_of (fun _ hK => bin_neq hK) ?_ | refine sti_of (fun _ hK => bin_lss hK) ?_ | refine sti_of (fun _ hK => bin_leq hK) ?_ | refine sti_of (fun _ hK => bin_gtr hK) ?_ | refine sti_of (fun _ hK => bin_geq hK) ?_ | refine sti_of (fun _ hK => add64 (by omega) (by omega) hK) ?_ | refine sti_of (fun _ hK => sub64 (by omega) (by omega) hK) ?_ | refine sti_of (fun _ hK => un_notD hK) ?_ | refine sti_of (fun _ hK => len8 hK) ?_ | refine sti_of (fun _ hK => pick_T hK) ?_ | refine sti_of (fun _ hK => pick_F hK) ?_))
    exact ron_end hf4 hb4 e3 htot (fun w' hd' hk' => h w' hd' (hkp B4 hk'))
end
end Go.Proofs.Ytjkmblbonambjaa
