/- The document's disk: what it stands for, and the contracts of the reference's functions. -/
import Derived.Test.YtjkmblbonambjaaSDRef
import Derived.Test.YtjkmblbonambjaaDSteps
import Derived.Test.YtjkmblbonambjaaDKeeps
import Derived.Laws.Concat
namespace Go.Proofs.Ytjkmblbonambjaa
set_option maxRecDepth 100000
open Go.RowKit

/-! ## Strings -/
section
variable {P : Program} {K : KV} {w : World} {t : TypeId} {cx cy : Bool}
theorem addS {x y : List UInt8} (hl : x.length + y.length ≤ 9223372036854775807) (h : K (.string (bstr (x ++ y))) w) : bin P .add t cx cy (.string (bstr x)) (.string (bstr y)) K w := by
  have hr := run_string_add_sum (P := P) (w := w) (bstr x) (bstr y) (by rw [bstr_size, bstr_size]; exact hl)
  have e : bstr x ++ bstr y = bstr (x ++ y) := by simp [bstr, ByteArray.ext_iff]
  rw [e] at hr
  refine bin_of (v := .string (bstr (x ++ y))) (eqG_string ..) ?_ h
  rw [binOp_string_add]
  exact hr
theorem slcS {x : List UInt8} {m : Nat} {k : IntKind} (ht : P.underlying t = some .string) (hm : m ≤ x.length) (h : K (.string (bstr (x.take m))) w) : slc P t (.string (bstr x)) none (some (.int k (m : Nat))) none K w := by
  have hb : (Instr.sliceBounds false x.length x.length none (some (.int k (m : Nat))) none).run P w = .ok (0, m, x.length) w := by
    have := run_sliceBound (P := P) w k (m : Int) x.length .sliceAlen (by omega) (by omega)
    simp [Instr.sliceBounds] at this ⊢
    rw [this]; simp
  have e : (bstr x).extract 0 m = bstr (x.take m) := by simp [bstr, ByteArray.ext_iff]
  unfold slc
  refine okV_of (w' := w) (v := .string (bstr (x.take m))) ?_ h
  simp only [Instr.sliceAt, Instr.slice, Sem.run_bind, run_underlying ht, Result.andThen_ok, bstr_size, hb, Option.isSome_none, Bool.false_eq_true, if_false, Sem.run_pure, e]
/-- An array's element, by value. -/
theorem idxV {e : TypeId} {n i : Nat} {k : IntKind} {cs : List Value} {v : Value} (ht : P.underlying t = some (.array n e)) (ha : ∀ w, (isAgg e).run P w = .ok false w) (hs : ∀ w, (sizeOf e).run P w = .ok 1 w) (hi : i < n) (hv : cs[i]? = some v) (h : K v w) :
    idx P t (.agg cs.toArray) (.int k (i : Nat)) K w := by
  unfold idx
  refine okV_of (w' := w) (v := v) ?_ h
  have h1 : (0 : Int) ≤ (i : Int) := by omega
  have h2 : (i : Int) < (n : Int) := by omega
  simp only [Instr.index, asIntOf, Sem.run_bind, Sem.run_pure, Result.andThen_ok, run_underlying ht, h1, h2, and_self, if_true, hs, part, ha, Int.toNat_natCast, Nat.mul_one]
  simp [hv]
/-- A named result that lies in a variable. -/
theorem retM1 {p : Nat} {E : TypeId} {cs vs : List Value} {d : TypeDesc} (hu : P.underlying t = some d) (hd : d.isRow = true) (hi : (P.info? t).map (·.size) = some vs.length) (hb : blk w p E cs) (hv : cs = vs) (h : K (.agg vs.toArray) w) : retM P [(some t, .pointer (some ⟨p, 0, none⟩))] K w := by
  subst hv
  have hr := run_loadVar_mid (P := P) w p 0 t cs d (fun j v hj => by rw [hb.cell, Nat.zero_add]; exact hj) hu hd hi
  have e : (resSem [(some t, .pointer (some ⟨p, 0, none⟩))]).run P w = .ok (.agg cs.toArray) w := by
    simp [resSem, asAddr, Sem.run_bind, hr]
  unfold retM
  rw [e]
  exact ⟨rfl, h⟩
end

def RC : Chg → List Value → Prop
  | .app f b, cs => ∃ n, cs = [.int .i64 1, .int .i64 (fi f), .int .i64 n, .string (bstr b)]
  | .cut f n, cs => ∃ b, cs = [.int .i64 2, .int .i64 (fi f), .int .i64 (n : Nat), .string (bstr b)]
  | .ren, cs => ∃ f n b, cs = [.int .i64 3, .int .i64 f, .int .i64 n, .string (bstr b)]
theorem RC.shape {c : Chg} {cs : List Value} (h : RC c cs) : ∃ k f n b, cs = [.int .i64 k, .int .i64 f, .int .i64 n, .string (bstr b)] := by
  cases c with
  | app f b => obtain ⟨n, e⟩ := h; exact ⟨_, _, _, _, e⟩
  | cut f n => obtain ⟨b, e⟩ := h; exact ⟨_, _, _, _, e⟩
  | ren => obtain ⟨f, n, b, e⟩ := h; exact ⟨_, _, _, _, e⟩
def RR (w : World) (B : Nat) (a : Option Addr) (n c : Nat) (l : List Chg) : Prop :=
  ∃ css : List (List Value), w.ownsRow B 74 4 (.slice a n c) n css.flatten ∧ css.length = l.length ∧ l.length = n ∧ ∀ (i : Nat) (ch : Chg) (cs : List Value), l[i]? = some ch → css[i]? = some cs → RC ch cs
def sv (l : List UInt8) : Value := .string (bstr l)
/-- Block p is the document's disk D. -/
def RK (w : World) (B p : Nat) (D : DS) : Prop :=
  ∃ la ln lc, blk w p 40 [sv D.sure.1, sv D.sure.2, .slice la ln lc, .bool D.off, .int .i64 D.fuse] ∧ -1 ≤ D.fuse ∧ D.fuse ≤ 9223372036854775807 ∧ B ≤ p ∧ RR w B la ln lc D.loose ∧ okAll D.loose D.sure

theorem RR.keep {T : List TypeId} {B B2 : Nat} {w w' : World} {a : Option Addr} {n c : Nat} {l : List Chg} (h : RR w B2 a n c l) (hk : Keep T B w w') (h3 : 74 ∉ T) : RR w' B2 a n c l := by
  obtain ⟨css, ho, e1, e2, hc⟩ := h
  exact ⟨css, ownsRow_keep ho hk h3, e1, e2, hc⟩
theorem RK.keep {T : List TypeId} {B B2 p : Nat} {w w' : World} {D : DS} (h : RK w B2 p D) (hk : Keep T B w w') (h1 : 74 ∉ T) (h2 : 40 ∉ T) : RK w' B2 p D := by
  obtain ⟨la, ln, lc, hb, e1, e2, e3, hr, ho⟩ := h
  exact ⟨la, ln, lc, hk.blk hb (.inr h2), e1, e2, e3, hr.keep hk h1, ho⟩
theorem RK.below {B p : Nat} {w w' : World} {D : DS} (h : RK w B p D) (hk : Below w.heap.size w w') : RK w' B p D := h.keep (T := []) (B := 0) (Keep.of hk) (by simp) (by simp)

theorem fA_RDisk_0 {w : World} {K : KV} {b o : Nat} (h : K (.pointer (some ⟨b, o + 0, none⟩)) w) : fldA Try.prog 40 (.pointer (some ⟨b, o, none⟩)) 0 K w := fldA_of (by kernel_rfl) h
theorem fA_RDisk_1 {w : World} {K : KV} {b o : Nat} (h : K (.pointer (some ⟨b, o + 2, none⟩)) w) : fldA Try.prog 40 (.pointer (some ⟨b, o, none⟩)) 1 K w := fldA_of (by kernel_rfl) h
theorem fA_RDisk_2 {w : World} {K : KV} {b o : Nat} (h : K (.pointer (some ⟨b, o + 3, none⟩)) w) : fldA Try.prog 40 (.pointer (some ⟨b, o, none⟩)) 2 K w := fldA_of (by kernel_rfl) h
theorem fA_RDisk_3 {w : World} {K : KV} {b o : Nat} (h : K (.pointer (some ⟨b, o + 4, none⟩)) w) : fldA Try.prog 40 (.pointer (some ⟨b, o, none⟩)) 3 K w := fldA_of (by kernel_rfl) h
theorem fA_RChange_0 {w : World} {K : KV} {b o : Nat} (h : K (.pointer (some ⟨b, o + 0, none⟩)) w) : fldA Try.prog 74 (.pointer (some ⟨b, o, none⟩)) 0 K w := fldA_of (by kernel_rfl) h
theorem fA_RChange_1 {w : World} {K : KV} {b o : Nat} (h : K (.pointer (some ⟨b, o + 1, none⟩)) w) : fldA Try.prog 74 (.pointer (some ⟨b, o, none⟩)) 1 K w := fldA_of (by kernel_rfl) h
theorem fA_RChange_2 {w : World} {K : KV} {b o : Nat} (h : K (.pointer (some ⟨b, o + 2, none⟩)) w) : fldA Try.prog 74 (.pointer (some ⟨b, o, none⟩)) 2 K w := fldA_of (by kernel_rfl) h
theorem fA_RChange_3 {w : World} {K : KV} {b o : Nat} (h : K (.pointer (some ⟨b, o + 3, none⟩)) w) : fldA Try.prog 74 (.pointer (some ⟨b, o, none⟩)) 3 K w := fldA_of (by kernel_rfl) h
theorem ld_RL_0 {w : World} {K : KV} {b o : Nat} {E : TypeId} {cs : List Value} (v : Value) (hb : blk w b E cs) (ho : cs[o]? = some v) (h : K v w) : ld Try.prog 3 (.pointer (some ⟨b, o, none⟩)) K w := ld1 (fun _ => by kernel_rfl) hb ho h
theorem ld_RL_1 {w : World} {K : KV} {b o : Nat} {E : TypeId} {cs : List Value} (v : Value) (hb : blk w b E cs) (ho : cs[o]? = some v) (h : K v w) : ld Try.prog 4 (.pointer (some ⟨b, o, none⟩)) K w := ld1 (fun _ => by kernel_rfl) hb ho h
theorem ld_RL_2 {w : World} {K : KV} {b o : Nat} {E : TypeId} {cs : List Value} (v : Value) (hb : blk w b E cs) (ho : cs[o]? = some v) (h : K v w) : ld Try.prog 9 (.pointer (some ⟨b, o, none⟩)) K w := ld1 (fun _ => by kernel_rfl) hb ho h
theorem ld_RL_3 {w : World} {K : KV} {b o : Nat} {E : TypeId} {cs : List Value} (v : Value) (hb : blk w b E cs) (ho : cs[o]? = some v) (h : K v w) : ld Try.prog 38 (.pointer (some ⟨b, o, none⟩)) K w := ld1 (fun _ => by kernel_rfl) hb ho h
abbrev TRF : TypeId := 37
section
attribute [local irreducible] bin un conv call callV blt slc fldA fld idxA idx lkp mUpd mEnt eSt rng nxt ent ext alc box bld bldS ld sto nilC mkMap mkS ifc pick rdy wts gsel sti cond retM Gives cCode cGrp cSeq cOp

theorem ridx {w : World} {K : KV} {b o : Nat} {f : Bool} (h : K (.pointer (some ⟨b, o + (fi f).toNat * 1, none⟩)) w) : idxA Try.prog TRF (.pointer (some ⟨b, o, none⟩)) (.int .i64 (fi f)) K w :=
  idxArr Try.underlying37 (fun _ => by kernel_rfl) (by cases f <;> decide) (by cases f <;> decide) h
theorem size_str : ∀ w, (sizeOf 9).run Try.prog w = .ok 1 w := fun _ => by kernel_rfl

theorem fi_lt (f : Bool) : 0 + (fi f).toNat * 1 < 2 := by cases f <;> decide
theorem fget_le (F : Fls) (f : Bool) : (fget F f).length ≤ F.1.length + F.2.length := by cases f <;> simp [fget]

/-- Both files behind a change. -/
theorem with_c {c : Chg} {cs : List Value} {F : Fls} {w : World} {K : KV} (hc : RC c cs) (ho : c.ok F) (hF : tot F ≤ 4194304) (h : ∀ w', Below w.heap.size w w' → K (.agg [sv (c.on F).1, sv (c.on F).2].toArray) w') :
    call Try.prog 63 #[.agg [sv F.1, sv F.2].toArray, .agg cs.toArray] K w := by
  refine call_of leatref04_Files_With_go (leatref04_Files_With_in ?_)
  refine box_of ?_
  intro w1 hf1 b1 s1
  have hf1 : blk w1 w.heap.size TRF [sv F.1, sv F.2] := hf1
  refine box_of ?_
  intro w2 hc2 b2 s2
  have hc2 : blk w2 w1.heap.size 74 cs := by simpa [Value.cells] using hc2
  have hf2 := below_blk b2 hf1 hf1.lt
  refine alc_of (z := .agg #[.string (bstr []), .string (bstr [])]) (by kernel_rfl) ?_
  intro w3 hr3 b3 s3
  have hf3 := below_blk b3 hf2 hf2.lt
  have hc3 := below_blk b3 hc2 hc2.lt
  have B3 : Below w.heap.size w w3 := (b1.trans (b2.mono (by omega))).trans (b3.mono (by omega))
  -- how it ends
  have fin : ∀ (w4 : World) (G : Fls), blk w4 w.heap.size TRF [sv G.1, sv G.2] → blk w4 w2.heap.size TRF [.string (bstr []), .string (bstr [])] → Below w.heap.size w w4 → (∀ w', Below w.heap.size w w' → K (.agg [sv G.1, sv G.2].toArray) w') →
      ld Try.prog TRF (ptr w.heap.size) (fun t35 w => sto Try.prog TRF (ptr w2.heap.size) t35 (fun _t w => retM Try.prog [(some TRF, ptr w2.heap.size)] K w) w) w4 := by
    intro w4 G hf4 hr4 b4 hk
    refine ldA (n := 2) Try.underlying37 rfl (by kernel_rfl) hf4 rfl rfl ?_
    refine stoA (n := 2) (by kernel_rfl) rfl hr4 (by show 0 + 2 ≤ 2; omega) (by simp only [List.take, List.drop, List.mem_cons, List.not_mem_nil, or_false]; rintro u (rfl | rfl) <;> rfl) ?_
    intro w5 hr5 ho5
    refine retM1 (vs := [sv G.1, sv G.2]) Try.underlying37 rfl (by kernel_rfl) hr5 rfl ?_
    exact hk w5 (b4.trans (ho5.below.mono (by omega)))
  cases c with
  | app f b =>
    obtain ⟨n, rfl⟩ := hc
    have ho : tot F + b.length ≤ 4194304 := ho
    simp only [tot] at ho
    (repeat (first | refine nilC_p ?_ | refine fA_RDisk_0 ?_ | refine fA_RDisk_1 ?_ | refine fA_RDisk_2 ?_ | refine fA_RDisk_3 ?_ | refine fA_RChange_0 ?_ | refine fA_RChange_1 ?_ | refine fA_RChange_2 ?_ | refine fA_RChange_3 ?_ | (refine ld_RL_0 ?_ (by assumption) ?_ ?_; rotate_left; exact rfl) | (refine ld_RL_1 ?_ (by assumption) ?_ ?_; rotate_left; exact rfl) | (refine ld_RL_2 ?_ (by assumption) ?_ ?_; rotate_left; exact rfl) | (refine ld_RL_3 ?_ (by assumption) ?_ ?_; rotate_left; exact rfl) | refine leatref04_Files_With_P1_r ?_ | refine leatref04_Files_With_A1_r ?_ | refine bin_eql ?_ | refine bin_neq ?_ | refine bin_lss ?_ | refine bin_leq ?_ | refine bin_gtr ?_ | refine bin_geq ?_ | refine add64 (by omega) (by omega) ?_ | refine sub64 (by omega) (by omega) ?_ | refine ext_a ?_ | refine ext_b ?_ | refine ext3_a ?_ | refine ext3_b ?_ | refine ext3_c ?_ | refine un_notD ?_ | refine mul64 (by omega) (by omega) ?_ | refine cvIU (by omega) (by omega) ?_ | refine cvIUint (by omega) (by omega) ?_ | refine cvUI (by omega) (by omega) ?_ | refine cvBU (by omega) (by omega) ?_ | refine len8 ?_ | refine len36 ?_ | refine pick_T ?_ | refine pick_F ?_ | refine cond_T ?_ | refine cond_F ?_ | refine cond_t (by omega) ?_ | refine cond_f (by omega) ?_ | refine gsel_T ?_ | refine gsel_F ?_ | refine gsel_Tn ?_ | refine gsel_Fn ?_ | refine gsel_U ?_ | refine gsel_pt (by omega) ?_ | refine gsel_pf (by omega) ?_ | refine gsel_nt (by omega) ?_ | refine gsel_nf (by omega) ?_ | refine pick_t (by omega) ?_ | refine pick_f (by omega) ?_ | refine sti_of (fun _ hK => bin_eql hK) ?_ | refine sti_of (fun _ hK => bin_neq hK) ?_ | refine sti_of (fun _ hK => bin_lss hK) ?_ | refine sti_of (fun _ hK => bin_leq hK) ?_ | refine sti_of (fun _ hK => bin_gtr hK) ?_ | refine sti_of (fun _ hK => bin_geq hK) ?_ | refine sti_of (fun _ hK => add64 (by omega) (by omega) hK) ?_ | refine sti_of (fun _ hK => sub64 (by omega) (by omega) hK) ?_ | refine sti_of (fun _ hK => un_notD hK) ?_ | refine sti_of (fun _ hK => len8 hK) ?_ | refine sti_of (fun _ hK => pick_T hK) ?_ | refine sti_of (fun _ hK => pick_F hK) ?_))
    have hc3d : blk w3.drew w1.heap.size _ _ := hc3
    have hf3d : blk w3.drew w.heap.size TRF _ := hf3
    have hr3d : blk w3.drew w2.heap.size TRF [.string (bstr []), .string (bstr [])] := hr3
    refine sti_of (fun K hK => fA_RChange_1 hK) ?_
    refine sti_of (fun K hK => ld_RL_0 _ hc3d rfl hK) ?_
    refine sti_of (fun K hK => fA_RChange_1 hK) ?_
    refine sti_of (fun K hK => ld_RL_0 _ hc3d rfl hK) ?_
    refine sti_of (fun K hK => ridx hK) ?_
    refine sti_of (fun K hK => ld_RL_2 (sv (fget F f)) hf3d (by cases f <;> rfl) hK) ?_
    refine sti_of (fun K hK => fA_RChange_3 hK) ?_
    refine sti_of (fun K hK => ld_RL_2 _ hc3d rfl hK) ?_
    refine sti_of (fun K hK => addS (by have := fget_le F f; omega) hK) ?_
    refine sti_of (fun K hK => ridx hK) ?_
    refine sto1 size_str hf3d (fi_lt f) rfl ?_
    intro w4 hf4 ho4
    refine leatref04_Files_With_P1_r ?_
    refine fin w4 _ (by cases f <;> exact hf4) (ho4.blk hr3d (by omega)) (B3.drew.trans (ho4.below.mono (Nat.le_refl _))) h
  | cut f n =>
    obtain ⟨b, rfl⟩ := hc
    have ho : n ≤ (fget F f).length := ho
    (repeat (first | refine nilC_p ?_ | refine fA_RDisk_0 ?_ | refine fA_RDisk_1 ?_ | refine fA_RDisk_2 ?_ | refine fA_RDisk_3 ?_ | refine fA_RChange_0 ?_ | refine fA_RChange_1 ?_ | refine fA_RChange_2 ?_ | refine fA_RChange_3 ?_ | (refine ld_RL_0 ?_ (by assumption) ?_ ?_; rotate_left; exact rfl) | (refine ld_RL_1 ?_ (by assumption) ?_ ?_; rotate_left; exact rfl) | (refine ld_RL_2 ?_ (by assumption) ?_ ?_; rotate_left; exact rfl) | (refine ld_RL_3 ?_ (by assumption) ?_ ?_; rotate_left; exact rfl) | refine leatref04_Files_With_P1_r ?_ | refine leatref04_Files_With_A1_r ?_ | refine bin_eql ?_ | refine bin_neq ?_ | refine bin_lss ?_ | refine bin_leq ?_ | refine bin_gtr ?_ | refine bin_geq ?_ | refine add64 (by omega) (by omega) ?_ | refine sub64 (by omega) (by omega) ?_ | refine ext_a ?_ | refine ext_b ?_ | refine ext3_a ?_ | refine ext3_b ?_ | refine ext3_c ?_ | refine un_notD ?_ | refine mul64 (by omega) (by omega) ?_ | refine cvIU (by omega) (by omega) ?_ | refine cvIUint (by omega) (by omega) ?_ | refine cvUI (by omega) (by omega) ?_ | refine cvBU (by omega) (by omega) ?_ | refine len8 ?_ | refine len36 ?_ | refine pick_T ?_ | refine pick_F ?_ | refine cond_T ?_ | refine cond_F ?_ | refine cond_t (by omega) ?_ | refine cond_f (by omega) ?_ | refine gsel_T ?_ | refine gsel_F ?_ | refine gsel_Tn ?_ | refine gsel_Fn ?_ | refine gsel_U ?_ | refine gsel_pt (by omega) ?_ | refine gsel_pf (by omega) ?_ | refine gsel_nt (by omega) ?_ | refine gsel_nf (by omega) ?_ | refine pick_t (by omega) ?_ | refine pick_f (by omega) ?_ | refine sti_of (fun _ hK => bin_eql hK) ?_ | refine sti_of (fun _ hK => bin_neq hK) ?_ | refine sti_of (fun _ hK => bin_lss hK) ?_ | refine sti_of (fun _ hK => bin_leq hK) ?_ | refine sti_of (fun _ hK => bin_gtr hK) ?_ | refine sti_of (fun _ hK => bin_geq hK) ?_ | refine sti_of (fun _ hK => add64 (by omega) (by omega) hK) ?_ | refine sti_of (fun _ hK => sub64 (by omega) (by omega) hK) ?_ | refine sti_of (fun _ hK => un_notD hK) ?_ | refine sti_of (fun _ hK => len8 hK) ?_ | refine sti_of (fun _ hK => pick_T hK) ?_ | refine sti_of (fun _ hK => pick_F hK) ?_))
    have hc3d : blk w3.drew w1.heap.size _ _ := hc3
    have hf3d : blk w3.drew w.heap.size TRF _ := hf3
    have hr3d : blk w3.drew w2.heap.size TRF [.string (bstr []), .string (bstr [])] := hr3
    refine sti_of (fun K hK => fA_RChange_1 hK) ?_
    refine sti_of (fun K hK => ld_RL_0 _ hc3d rfl hK) ?_
    refine sti_of (fun K hK => fA_RChange_1 hK) ?_
    refine sti_of (fun K hK => ld_RL_0 _ hc3d rfl hK) ?_
    refine sti_of (fun K hK => ridx hK) ?_
    refine sti_of (fun K hK => ld_RL_2 (sv (fget F f)) hf3d (by cases f <;> rfl) hK) ?_
    refine sti_of (fun K hK => fA_RChange_2 hK) ?_
    refine sti_of (fun K hK => ld_RL_0 _ hc3d rfl hK) ?_
    refine sti_of (fun K hK => slcS Try.underlying9 ho hK) ?_
    refine sti_of (fun K hK => ridx hK) ?_
    refine sto1 size_str hf3d (fi_lt f) rfl ?_
    intro w4 hf4 ho4
    refine leatref04_Files_With_P1_r ?_
    refine fin w4 _ (by cases f <;> exact hf4) (ho4.blk hr3d (by omega)) (B3.drew.trans (ho4.below.mono (Nat.le_refl _))) h
  | ren =>
    obtain ⟨f, n, b, rfl⟩ := hc
    (repeat (first | refine nilC_p ?_ | refine fA_RDisk_0 ?_ | refine fA_RDisk_1 ?_ | refine fA_RDisk_2 ?_ | refine fA_RDisk_3 ?_ | refine fA_RChange_0 ?_ | refine fA_RChange_1 ?_ | refine fA_RChange_2 ?_ | refine fA_RChange_3 ?_ | (refine ld_RL_0 ?_ (by assumption) ?_ ?_; rotate_left; exact rfl) | (refine ld_RL_1 ?_ (by assumption) ?_ ?_; rotate_left; exact rfl) | (refine ld_RL_2 ?_ (by assumption) ?_ ?_; rotate_left; exact rfl) | (refine ld_RL_3 ?_ (by assumption) ?_ ?_; rotate_left; exact rfl) | refine leatref04_Files_With_P1_r ?_ | refine leatref04_Files_With_A1_r ?_ | refine bin_eql ?_ | refine bin_neq ?_ | refine bin_lss ?_ | refine bin_leq ?_ | refine bin_gtr ?_ | refine bin_geq ?_ | refine add64 (by omega) (by omega) ?_ | refine sub64 (by omega) (by omega) ?_ | refine ext_a ?_ | refine ext_b ?_ | refine ext3_a ?_ | refine ext3_b ?_ | refine ext3_c ?_ | refine un_notD ?_ | refine mul64 (by omega) (by omega) ?_ | refine cvIU (by omega) (by omega) ?_ | refine cvIUint (by omega) (by omega) ?_ | refine cvUI (by omega) (by omega) ?_ | refine cvBU (by omega) (by omega) ?_ | refine len8 ?_ | refine len36 ?_ | refine pick_T ?_ | refine pick_F ?_ | refine cond_T ?_ | refine cond_F ?_ | refine cond_t (by omega) ?_ | refine cond_f (by omega) ?_ | refine gsel_T ?_ | refine gsel_F ?_ | refine gsel_Tn ?_ | refine gsel_Fn ?_ | refine gsel_U ?_ | refine gsel_pt (by omega) ?_ | refine gsel_pf (by omega) ?_ | refine gsel_nt (by omega) ?_ | refine gsel_nf (by omega) ?_ | refine pick_t (by omega) ?_ | refine pick_f (by omega) ?_ | refine sti_of (fun _ hK => bin_eql hK) ?_ | refine sti_of (fun _ hK => bin_neq hK) ?_ | refine sti_of (fun _ hK => bin_lss hK) ?_ | refine sti_of (fun _ hK => bin_leq hK) ?_ | refine sti_of (fun _ hK => bin_gtr hK) ?_ | refine sti_of (fun _ hK => bin_geq hK) ?_ | refine sti_of (fun _ hK => add64 (by omega) (by omega) hK) ?_ | refine sti_of (fun _ hK => sub64 (by omega) (by omega) hK) ?_ | refine sti_of (fun _ hK => un_notD hK) ?_ | refine sti_of (fun _ hK => len8 hK) ?_ | refine sti_of (fun _ hK => pick_T hK) ?_ | refine sti_of (fun _ hK => pick_F hK) ?_))
    refine ridx (f := true) ?_
    refine ld_RL_2 (sv F.2) hf3 rfl ?_
    refine ridx (f := false) ?_
    refine sto1 size_str hf3 (fi_lt false) rfl ?_
    intro w4 hf4 ho4
    refine ridx (f := true) ?_
    refine sto1 size_str hf4 (fi_lt true) rfl ?_
    intro w5 hf5 ho5
    refine leatref04_Files_With_P1_r ?_
    refine fin w5 (F.2, []) hf5 (ho5.blk (ho4.blk hr3 (by omega)) (by omega)) ((B3.trans (ho4.below.mono (Nat.le_refl _))).trans (ho5.below.mono (Nat.le_refl _))) h

theorem flat4 : ∀ (css : List (List Value)) (i : Nat) (cs : List Value), (∀ x ∈ css, x.length = 4) → css[i]? = some cs → (css.flatten.drop (i * 4)).take 4 = cs := by
  intro css
  induction css with
  | nil => intro i cs _ h; simp at h
  | cons x css ih =>
    intro i cs hx h
    have h4 := hx x (List.mem_cons_self ..)
    cases i with
    | zero => simp at h; subst h; simp [List.take_append, h4, List.take_of_length_le (show x.length ≤ 4 by omega)]
    | succ i =>
      have := ih i cs (fun y hy => hx y (List.mem_cons_of_mem _ hy)) (by simpa using h)
      rw [← this, List.flatten_cons, List.drop_append, show (i + 1) * 4 = x.length + i * 4 by omega, List.drop_of_length_le (by omega), List.nil_append, Nat.add_sub_cancel_left]
theorem RR.get {w : World} {B : Nat} {a : Option Addr} {n c : Nat} {l : List Chg} (h : RR w B a n c l) (i : Nat) (hi : i < n) :
    ∃ g cur ch cs, a = some ⟨g, 0, none⟩ ∧ blk w g 74 cur ∧ (cur.drop (i * 4)).take 4 = cs ∧ l[i]? = some ch ∧ RC ch cs ∧ i < l.length := by
  obtain ⟨css, ho, c1, c2, hc⟩ := h
  rcases ho.2 with ⟨hv, hn⟩ | ⟨g, cap, cur, hv, _, hh, hnc, hm, hs, ht⟩
  · omega
  · cases hv
    have hil : i < l.length := by omega
    have hic : i < css.length := by omega
    have hch := hc i l[i] css[i] (List.getElem?_eq_getElem hil) (List.getElem?_eq_getElem hic)
    refine ⟨g, cur.toList, l[i], css[i], rfl, hh, ?_, List.getElem?_eq_getElem hil, hch, hil⟩
    have h4 : ∀ x ∈ css, x.length = 4 := by
      intro x hx
      obtain ⟨j, hj, rfl⟩ := List.getElem_of_mem hx
      obtain ⟨k, f, n, b, e⟩ := (hc j l[j] css[j] (List.getElem?_eq_getElem (by omega)) (List.getElem?_eq_getElem hj)).shape
      rw [e]; rfl
    have hf := flat4 css i css[i] h4 (List.getElem?_eq_getElem hic)
    rw [← ht] at hf
    rw [List.drop_take, List.take_take] at hf
    rw [show min 4 (n * 4 - i * 4) = 4 by omega] at hf
    exact hf

theorem RR.max {w : World} {B : Nat} {a : Option Addr} {n c : Nat} {l : List Chg} (h : RR w B a n c l) : n ≤ 9223372036854775807 := by
  obtain ⟨css, ho, _⟩ := h
  rcases ho.2 with ⟨hv, hn⟩ | ⟨g, cap, cur, hv, _, _, hnc, hm, _⟩
  · omega
  · simp only [maxLen] at hm; omega

/-- d.Now(). -/
theorem now_c {B p : Nat} {D : DS} {w : World} {K : KV} (hd : RK w B p D) (h : ∀ w', Below w.heap.size w w' → K (.agg [sv D.now.1, sv D.now.2].toArray) w') : call Try.prog 43 #[ptr p] K w := by
  refine call_of leatref04_Disk_Now_go (leatref04_Disk_Now_in ?_)
  obtain ⟨la, ln, lc, hb, e1, e2, e3, hr, ho⟩ := hd
  refine alc_of (z := .agg #[.string (bstr []), .string (bstr [])]) (by kernel_rfl) ?_
  intro w1 hr1 b1 s1
  have hb1 := below_blk b1 hb hb.lt
  (repeat (first | refine nilC_p ?_ | refine fA_RDisk_0 ?_ | refine bin_eql ?_ | refine bin_neq ?_ | refine bin_lss ?_ | refine bin_leq ?_ | refine bin_gtr ?_ | refine bin_geq ?_ | refine add64 (by omega) (by omega) ?_ | refine sub64 (by omega) (by omega) ?_ | refine ext_a ?_ | refine ext_b ?_ | refine ext3_a ?_ | refine ext3_b ?_ | refine ext3_c ?_ | refine un_notD ?_ | refine mul64 (by omega) (by omega) ?_ | refine cvIU (by omega) (by omega) ?_ | refine cvIUint (by omega) (by omega) ?_ | refine cvUI (by omega) (by omega) ?_ | refine cvBU (by omega) (by omega) ?_ | refine len8 ?_ | refine len36 ?_ | refine pick_T ?_ | refine pick_F ?_ | refine cond_T ?_ | refine cond_F ?_ | refine cond_t (by omega) ?_ | refine cond_f (by omega) ?_ | refine gsel_T ?_ | refine gsel_F ?_ | refine gsel_Tn ?_ | refine gsel_Fn ?_ | refine gsel_U ?_ | refine gsel_pt (by omega) ?_ | refine gsel_pf (by omega) ?_ | refine gsel_nt (by omega) ?_ | refine gsel_nf (by omega) ?_ | refine pick_t (by omega) ?_ | refine pick_f (by omega) ?_ | refine sti_of (fun _ hK => bin_eql hK) ?_ | refine sti_of (fun _ hK => bin_neq hK) ?_ | refine sti_of (fun _ hK => bin_lss hK) ?_ | refine sti_of (fun _ hK => bin_leq hK) ?_ | refine sti_of (fun _ hK => bin_gtr hK) ?_ | refine sti_of (fun _ hK => bin_geq hK) ?_ | refine sti_of (fun _ hK => add64 (by omega) (by omega) hK) ?_ | refine sti_of (fun _ hK => sub64 (by omega) (by omega) hK) ?_ | refine sti_of (fun _ hK => un_notD hK) ?_ | refine sti_of (fun _ hK => len8 hK) ?_ | refine sti_of (fun _ hK => pick_T hK) ?_ | refine sti_of (fun _ hK => pick_F hK) ?_))
  refine ldA (n := 2) (vs := [sv D.sure.1, sv D.sure.2]) Try.underlying37 rfl (by kernel_rfl) hb1 rfl rfl ?_
  refine alc_of (z := .agg #[.string (bstr []), .string (bstr [])]) (by kernel_rfl) ?_
  intro w2 hf2 b2 s2
  have hr2 := below_blk b2 hr1 hr1.lt
  refine stoA (n := 2) (by kernel_rfl) rfl hf2 (by show 0 + 2 ≤ 2; omega) (by simp only [List.take, List.drop, List.mem_cons, List.not_mem_nil, or_false]; rintro u (rfl | rfl) <;> rfl) ?_
  intro w3 hf3 o3
  have hf3 : blk w3 w1.heap.size TRF [sv D.sure.1, sv D.sure.2] := hf3
  have hr3 := o3.blk hr2 (by omega)
  have B3 : Below w.heap.size w w3 := (b1.trans (b2.mono (by omega))).trans (o3.below.mono (by omega))
  refine leatref04_Disk_Now_L1_r (Inv := fun i wr => ∃ j : Nat, i = .int .i64 (j : Nat) ∧ j ≤ ln ∧ Below w.heap.size w wr ∧ blk wr w1.heap.size TRF [sv (runs (D.loose.take j) D.sure).1, sv (runs (D.loose.take j) D.sure).2] ∧ blk wr w.heap.size TRF [.string (bstr []), .string (bstr [])])
    (μ := fun i _ => ln - (intOf i).toNat) ⟨0, rfl, by omega, B3, hf3, hr3⟩ ?_
  rintro _ _ w4 m ⟨j, rfl, hj, B4, hf4, hr4⟩ hm
  have hb4 := below_blk B4 hb hb.lt
  have hrow4 := hr.keep (Keep.of B4 : Keep [] 0 w w4) (by simp)
  have hmx := hr.max
  have hlen : D.loose.length = ln := by obtain ⟨_, _, _, e, _⟩ := hr; exact e
  by_cases hjn : j < ln
  · (repeat (first | refine nilC_p ?_ | refine fA_RDisk_1 ?_ | refine ld_RL_3 _ hb4 rfl ?_ | refine len_slc Try.underlying38 ?_ | refine bin_eql ?_ | refine bin_neq ?_ | refine bin_lss ?_ | refine bin_leq ?_ | refine bin_gtr ?_ | refine bin_geq ?_ | refine add64 (by omega) (by omega) ?_ | refine sub64 (by omega) (by omega) ?_ | refine ext_a ?_ | refine ext_b ?_ | refine ext3_a ?_ | refine ext3_b ?_ | refine ext3_c ?_ | refine un_notD ?_ | refine mul64 (by omega) (by omega) ?_ | refine cvIU (by omega) (by omega) ?_ | refine cvIUint (by omega) (by omega) ?_ | refine cvUI (by omega) (by omega) ?_ | refine cvBU (by omega) (by omega) ?_ | refine len8 ?_ | refine len36 ?_ | refine pick_T ?_ | refine pick_F ?_ | refine cond_T ?_ | refine cond_F ?_ | refine cond_t (by omega) ?_ | refine cond_f (by omega) ?_ | refine gsel_T ?_ | refine gsel_F ?_ | refine gsel_Tn ?_ | refine gsel_Fn ?_ | refine gsel_U ?_ | refine gsel_pt (by omega) ?_ | refine gsel_pf (by omega) ?_ | refine gsel_nt (by omega) ?_ | refine gsel_nf (by omega) ?_ | refine pick_t (by omega) ?_ | refine pick_f (by omega) ?_ | refine sti_of (fun _ hK => bin_eql hK) ?_ | refine sti_of (fun _ hK => bin_neq hK) ?_ | refine sti_of (fun _ hK => bin_lss hK) ?_ | refine sti_of (fun _ hK => bin_leq hK) ?_ | refine sti_of (fun _ hK => bin_gtr hK) ?_ | refine sti_of (fun _ hK => bin_geq hK) ?_ | refine sti_of (fun _ hK => add64 (by omega) (by omega) hK) ?_ | refine sti_of (fun _ hK => sub64 (by omega) (by omega) hK) ?_ | refine sti_of (fun _ hK => un_notD hK) ?_ | refine sti_of (fun _ hK => len8 hK) ?_ | refine sti_of (fun _ hK => pick_T hK) ?_ | refine sti_of (fun _ hK => pick_F hK) ?_))
    obtain ⟨g, cur, ch, cs, rfl, hg, hcs, hch, hC, hjl⟩ := hrow4.get j hjn
    obtain ⟨hcok, htot⟩ := okAll_get ho hch
    refine hReg_of (fun w' => blk w' w1.heap.size TRF [sv (runs (D.loose.take j) D.sure).1, sv (runs (D.loose.take j) D.sure).2] ∧ blk w' p 40 [sv D.sure.1, sv D.sure.2, .slice (some ⟨g, 0, none⟩) ln lc, .bool D.off, .int .i64 D.fuse] ∧ blk w' g 74 cur) ⟨hf4, hb4, hg⟩ ?_
    refine hld_of (fun w hw K hK => ldA (n := 2) (vs := [sv (runs (D.loose.take j) D.sure).1, sv (runs (D.loose.take j) D.sure).2]) Try.underlying37 rfl (by kernel_rfl) hw.1 rfl rfl hK) ?_
    refine hld_of (fun w hw K hK => nilC_p hK) ?_
    refine hld_of (fun w hw K hK => fA_RDisk_1 hK) ?_
    refine hld_of (fun w hw K hK => ld_RL_3 _ hw.2.1 rfl hK) ?_
    refine hld_of (fun w hw K hK => idxRow (s := 4) Try.underlying38 (fun _ => by kernel_rfl) (by omega) (by omega) hK) ?_
    have hcl : cs.length = 4 := by obtain ⟨_, _, _, _, e⟩ := hC.shape; rw [e]; rfl
    refine hld_of (fun w hw K hK => ldA (n := 4) (vs := cs) Try.underlying74 rfl (by kernel_rfl) hw.2.2 (by rw [Nat.zero_add]; exact hcs) hcl hK) ?_
    refine with_c hC hcok htot ?_
    intro w5 b5
    have B5 : Below w.heap.size w w5 := (B4.drew).trans (b5.mono B4.drew.size)
    have hf5 : blk w5 w1.heap.size TRF [sv (runs (D.loose.take j) D.sure).1, sv (runs (D.loose.take j) D.sure).2] := below_blk b5 (show blk w4.drew _ _ _ from hf4) hf4.lt
    have hr5 : blk w5 w.heap.size TRF [.string (bstr []), .string (bstr [])] := below_blk b5 (show blk w4.drew _ _ _ from hr4) hr4.lt
    refine hReg_of (fun _ => True) trivial ?_
    refine stoA (n := 2) (by kernel_rfl) rfl hf5 (by show 0 + 2 ≤ 2; omega) (by simp only [List.take, List.drop, List.mem_cons, List.not_mem_nil, or_false]; rintro u (rfl | rfl) <;> rfl) ?_
    intro w6 hf6 o6
    have htk : runs (D.loose.take (j + 1)) D.sure = ch.on (runs (D.loose.take j) D.sure) := by
      rw [List.take_succ_eq_append_getElem hjl, runs_snoc]
      rw [List.getElem?_eq_getElem hjl] at hch
      cases hch; rfl
    (repeat (first | refine bin_eql ?_ | refine bin_neq ?_ | refine bin_lss ?_ | refine bin_leq ?_ | refine bin_gtr ?_ | refine bin_geq ?_ | refine add64 (by omega) (by omega) ?_ | refine sub64 (by omega) (by omega) ?_ | refine ext_a ?_ | refine ext_b ?_ | refine ext3_a ?_ | refine ext3_b ?_ | refine ext3_c ?_ | refine un_notD ?_ | refine mul64 (by omega) (by omega) ?_ | refine cvIU (by omega) (by omega) ?_ | refine cvIUint (by omega) (by omega) ?_ | refine cvUI (by omega) (by omega) ?_ | refine cvBU (by omega) (by omega) ?_ | refine len8 ?_ | refine len36 ?_ | refine pick_T ?_ | refine pick_F ?_ | refine cond_T ?_ | refine cond_F ?_ | refine cond_t (by omega) ?_ | refine cond_f (by omega) ?_ | refine gsel_T ?_ | refine gsel_F ?_ | refine gsel_Tn ?_ | refine gsel_Fn ?_ | refine gsel_U ?_ | refine gsel_pt (by omega) ?_ | refine gsel_pf (by omega) ?_ | refine gsel_nt (by omega) ?_ | refine gsel_nf (by omega) ?_ | refine pick_t (by omega) ?_ | refine pick_f (by omega) ?_ | refine sti_of (fun _ hK => bin_eql hK) ?_ | refine sti_of (fun _ hK => bin_neq hK) ?_ | refine sti_of (fun _ hK => bin_lss hK) ?_ | refine sti_of (fun _ hK => bin_leq hK) ?_ | refine sti_of (fun _ hK => bin_gtr hK) ?_ | refine sti_of (fun _ hK => bin_geq hK) ?_ | refine sti_of (fun _ hK => add64 (by omega) (by omega) hK) ?_ | refine sti_of (fun _ hK => sub64 (by omega) (by omega) hK) ?_ | refine sti_of (fun _ hK => un_notD hK) ?_ | refine sti_of (fun _ hK => len8 hK) ?_ | refine sti_of (fun _ hK => pick_T hK) ?_ | refine sti_of (fun _ hK => pick_F hK) ?_))
    refine ⟨⟨j + 1, by simp, by omega, B5.trans (o6.below.mono (by omega)), by rw [htk]; exact hf6, o6.blk hr5 (by omega)⟩, by rw [hm]; simp only [intOf]; omega⟩
  have hjn : j = ln := by omega
  subst hjn
  rw [List.take_of_length_le (by omega)] at hf4
  (repeat (first | refine nilC_p ?_ | refine fA_RDisk_1 ?_ | refine ld_RL_3 _ hb4 rfl ?_ | refine len_slc Try.underlying38 ?_ | refine bin_eql ?_ | refine bin_neq ?_ | refine bin_lss ?_ | refine bin_leq ?_ | refine bin_gtr ?_ | refine bin_geq ?_ | refine add64 (by omega) (by omega) ?_ | refine sub64 (by omega) (by omega) ?_ | refine ext_a ?_ | refine ext_b ?_ | refine ext3_a ?_ | refine ext3_b ?_ | refine ext3_c ?_ | refine un_notD ?_ | refine mul64 (by omega) (by omega) ?_ | refine cvIU (by omega) (by omega) ?_ | refine cvIUint (by omega) (by omega) ?_ | refine cvUI (by omega) (by omega) ?_ | refine cvBU (by omega) (by omega) ?_ | refine len8 ?_ | refine len36 ?_ | refine pick_T ?_ | refine pick_F ?_ | refine cond_T ?_ | refine cond_F ?_ | refine cond_t (by omega) ?_ | refine cond_f (by omega) ?_ | refine gsel_T ?_ | refine gsel_F ?_ | refine gsel_Tn ?_ | refine gsel_Fn ?_ | refine gsel_U ?_ | refine gsel_pt (by omega) ?_ | refine gsel_pf (by omega) ?_ | refine gsel_nt (by omega) ?_ | refine gsel_nf (by omega) ?_ | refine pick_t (by omega) ?_ | refine pick_f (by omega) ?_ | refine sti_of (fun _ hK => bin_eql hK) ?_ | refine sti_of (fun _ hK => bin_neq hK) ?_ | refine sti_of (fun _ hK => bin_lss hK) ?_ | refine sti_of (fun _ hK => bin_leq hK) ?_ | refine sti_of (fun _ hK => bin_gtr hK) ?_ | refine sti_of (fun _ hK => bin_geq hK) ?_ | refine sti_of (fun _ hK => add64 (by omega) (by omega) hK) ?_ | refine sti_of (fun _ hK => sub64 (by omega) (by omega) hK) ?_ | refine sti_of (fun _ hK => un_notD hK) ?_ | refine sti_of (fun _ hK => len8 hK) ?_ | refine sti_of (fun _ hK => pick_T hK) ?_ | refine sti_of (fun _ hK => pick_F hK) ?_))
  refine leatref04_Disk_Now_P1_r ?_
  refine ldA (n := 2) (vs := [sv D.now.1, sv D.now.2]) Try.underlying37 rfl (by kernel_rfl) hf4 rfl rfl ?_
  refine stoA (n := 2) (by kernel_rfl) rfl hr4 (by show 0 + 2 ≤ 2; omega) (by simp only [List.take, List.drop, List.mem_cons, List.not_mem_nil, or_false]; rintro u (rfl | rfl) <;> rfl) ?_
  intro w5 hr5 o5
  refine retM1 (vs := [sv D.now.1, sv D.now.2]) Try.underlying37 rfl (by kernel_rfl) hr5 rfl ?_
  exact h w5 (B4.trans (o5.below.mono (Nat.le_refl _)))
end
end Go.Proofs.Ytjkmblbonambjaa
