/- Frames, on: a record, a reader, all records; and the reference's. -/
import Derived.Test.YtjkmblbonambjaaFrm
namespace Go.Proofs.Ytjkmblbonambjaa
set_option maxRecDepth 100000
open Go.RowKit
section
attribute [local irreducible] bin un conv call callV blt slc fldA fld idxA idx lkp mUpd mEnt eSt rng nxt ent ext alc box bld bldS ld sto nilC mkMap mkS ifc pick rdy wts gsel sti cond retM Gives cCode cGrp cSeq cOp

theorem recF_none {b : List UInt8} {q : Nat} (h : ¬ (q + 8 ≤ b.length ∧ beNat ((b.drop q).take 4) ≤ 4096 ∧ q + 8 + beNat ((b.drop q).take 4) ≤ b.length ∧
      (crcS 0 (beBytes (beNat ((b.drop q).take 4)) 4 ++ (b.drop (q + 8)).take (beNat ((b.drop q).take 4)))).toNat = beNat ((b.drop (q + 4)).take 4))) : recF b q = none := if_neg h

theorem bv_nat {x : Nat} (h : x < 4294967296) : Value.int .u32 (x : Int) = bv32 (BitVec.ofNat 32 x) := by
  unfold bv32
  congr 1
  rw [BitVec.toNat_ofNat]; omega


theorem ldPB {w : World} {K : KV} {p : Nat} {E : TypeId} {v : Option Addr × Nat × Nat} {x : Value} (hb : blk w p E [slv v, x]) (h : K (.slice v.1 v.2.1 v.2.2) w) : ld Try.prog 29 (.pointer (some ⟨p, 0 + 0, none⟩)) K w := ld1 (fun _ => by kernel_rfl) hb rfl h
theorem ldPA {w : World} {K : KV} {p : Nat} {E : TypeId} {v : Option Addr × Nat × Nat} {x : Value} (hb : blk w p E [slv v, x]) (h : K x w) : ld Try.prog 3 (.pointer (some ⟨p, 0 + 1, none⟩)) K w := ld1 (fun _ => by kernel_rfl) hb rfl h

/-- b[q:]. -/
theorem slcFrom {w : World} {K : KV} {av : Option Addr} {n c q : Nat} {l : List UInt8} (hr : RB w av n c l) (hq : q ≤ n) (h : ∀ a', RB w a' (n - q) (c - q) (l.drop q) → (∀ ad, a' = some ad → ∃ ad2, av = some ad2 ∧ ad.block = ad2.block) → K (.slice a' (n - q) (c - q)) w) :
    slc Try.prog 29 (.slice av n c) (some (.int .i64 (q : Nat))) none none K w := by
  have hcap := RV.cap hr
  have hb : (Instr.sliceBounds true n c (some (.int .i64 (q : Nat))) none none).run Try.prog w = .ok (q, n, c) w := by
    have := run_sliceBound (P := Try.prog) w .i64 (q : Int) n .sliceB (by omega) (by omega)
    simp [Instr.sliceBounds] at this ⊢
    rw [this]; simp
  have hcut := hr.cut q n c hq hcap (Nat.le_refl _) (Nat.le_refl _)
  rw [List.take_of_length_le (by rw [hr.len]; exact Nat.le_refl _)] at hcut
  unfold slc
  refine okV_of (w' := w) ?_ (h (if c = q then av else av.map (·.add (q * 1))) hcut ?_)
  · simp only [Instr.sliceAt, Instr.slice, Sem.run_bind, Sem.run_pure, Result.andThen_ok, run_underlying Try.underlying29, size_u8, hb]
  · intro ad had
    split at had
    · exact ⟨ad, had, rfl⟩
    · cases av with
      | none => cases had
      | some a0 =>
        simp only [Option.map_some, Option.some.injEq] at had
        subst had
        refine ⟨a0, rfl, ?_⟩
        unfold Addr.add; split <;> rfl

/-- x[:m], within. -/
theorem RB.upTo {w : World} {a : Option Addr} {n c m : Nat} {l : List UInt8} (h : RB w a n c l) (hm : m ≤ n) : RB w a m c (l.take m) := by
  have hcap := RV.cap h
  have hl := h.len
  refine ⟨by simp; omega, by omega, fun h0 => RV.some_ h (by omega), fun ha => ?_, fun i u hu => ?_⟩
  · have := RV.nil_ h ha
    omega
  · refine RV.cell h i u ?_
    rw [List.map_take, List.getElem?_take] at hu
    split at hu
    · exact hu
    · cases hu

set_option maxHeartbeats 2000000 in
theorem precord_c {p q : Nat} {E : TypeId} {v : Option Addr × Nat × Nat} {b : List UInt8} {w : World} {K : KV} (hb : blk w p E [slv v, .int .i64 (q : Nat)]) (hr : RB w v.1 v.2.1 v.2.2 b) (hn : v.2.1 ≤ 4294967296) (hq : q ≤ b.length) (hne : 0 < v.2.1 → ∀ ad, v.1 = some ad → ad.block ≠ p)
    (h0 : recF b q = none → ∀ w', Below w.heap.size w w' → blk w' p E [slv v, .int .i64 (q : Nat)] → K (.tuple #[.slice none 0 0, .bool false]) w')
    (h1 : ∀ s q2, recF b q = some (s, q2) → ∀ a n c w', OB w' w.heap.size a n c s → blk w' p E [slv v, .int .i64 (q2 : Nat)] → Keep [E] p w w' → K (.tuple #[.slice a n c, .bool true]) w') :
    call Try.prog 68 #[ptr p] K w := by
  have hl := hr.len
  refine call_of frame_place_record_go (frame_place_record_in ?_)
  refine nilC_p ?_
  refine ldA (n := 2) Try.underlying102 rfl (by kernel_rfl) hb rfl rfl ?_
  refine alc_of (z := .agg #[.slice none 0 0, .int .i64 0]) (by kernel_rfl) ?_
  intro w1 hz1 b1 s1
  refine stoA (n := 2) (by kernel_rfl) rfl hz1 (by show 0 + 2 ≤ 2; omega) (by simp only [List.take, List.drop, List.mem_cons, List.not_mem_nil, or_false]; rintro u (rfl | rfl) <;> rfl) ?_
  intro w2 hz2 ho2
  have hz2 : blk w2 w.heap.size 102 [slv v, .int .i64 (q : Nat)] := hz2
  have B2 : Below w.heap.size w w2 := b1.trans ho2.below
  have S2 := B2.size
  have hlt := hb.lt
  have out0 : ∀ {w' : World}, Below w.heap.size w w' → recF b q = none → K (.tuple #[.slice none 0 0, .bool false]) w' := fun hb' hrec => h0 hrec _ hb' (below_blk hb' hb hlt)
  refine pnumber_c hz2 (hr.below B2 (Nat.le_refl _)) hn ?_ ?_
  · -- not even a length
    intro hshort w3 b3 hz3
    have hrec : recF b q = none := recF_none (by omega)
    have B3 : Below w.heap.size w w3 := B2.trans (b3.mono S2)
    (repeat (first | refine ext_a ?_ | refine ext_b ?_))
    refine pnumber_c hz3 (hr.below B3 (Nat.le_refl _)) hn ?_ ?_
    · intro _ w4 b4 hz4
      (repeat (first | refine ext_a ?_ | refine ext_b ?_))
      refine un_not ?_
      (repeat (first | refine pick_T ?_ | refine cond_T ?_ | refine gsel_Tn ?_))
      exact out0 (B3.trans (b4.mono B3.size)) hrec
    · intro hh
      omega
  intro hq4 w3 hz3 k3
  have B3 : Below w.heap.size w w3 := B2.trans (k3.below (by have := hz2.lt; omega))
  have hlt1 := beNat4 b q
  (repeat (first | refine ext_a ?_ | refine ext_b ?_))
  refine pnumber_c hz3 (hr.below B3 (Nat.le_refl _)) hn ?_ ?_
  · intro hshort w4 b4 hz4
    have hrec : recF b q = none := recF_none (by omega)
    (repeat (first | refine ext_a ?_ | refine ext_b ?_))
    refine un_not ?_
    (repeat (first | refine gsel_Fn ?_))
    refine un_not ?_
    (repeat (first | refine pick_T ?_ | refine pick_F ?_ | refine cond_T ?_ | refine gsel_Tn ?_))
    exact out0 (B3.trans (b4.mono B3.size)) hrec
  intro hq8 w4 hz4 k4
  have B4 : Below w.heap.size w w4 := B3.trans (k4.below (by have := hz3.lt; omega))
  have hlt2 := beNat4 b (q + 4)
  generalize hN : beNat ((b.drop q).take 4) = N at *
  generalize hM : beNat ((b.drop (q + 4)).take 4) = M at *
  (repeat (first | refine ext_a ?_ | refine ext_b ?_))
  refine un_not ?_
  (repeat (first | refine gsel_Fn ?_))
  refine un_not ?_
  (repeat (first | refine bin_gtr ?_ | refine pick_F ?_ | refine gsel_Fn ?_))
  by_cases hbig : 4096 < N
  · have hrec : recF b q = none := recF_none (by rw [hN]; omega)
    (repeat (first | refine cond_T ?_ | refine gsel_nt (by omega) ?_ | refine pick_t (by omega) ?_))
    exact out0 B4 hrec
  have hcN : ∀ {w' : World} {K' : KV}, K' (.int .i64 (N : Int)) w' → conv Try.prog 106 3 (.int .u32 (N : Int)) K' w' := by
    intro w' K' hK
    refine conv_int Try.underlying106 Try.underlying3 ?_
    rw [wrap_i64 (by omega) (by omega)]; exact hK
  (repeat (first | refine gsel_nf (by omega) ?_))
  refine hcN ?_
  refine fA_place_0 ?_
  refine ldPB hz4 ?_
  (repeat (first | refine len8 ?_))
  refine fA_place_1 ?_
  refine ldPA hz4 ?_
  (repeat (first | refine bin_gtr ?_ | refine sub64 (by omega) (by omega) ?_ | refine pick_f (by omega) ?_))
  by_cases hfit : b.length < q + 8 + N
  · have hrec : recF b q = none := recF_none (by rw [hN]; omega)
    (repeat (first | refine cond_t (by omega) ?_))
    exact out0 B4 hrec
  have hr4 := hr.below B4 (Nat.le_refl _)
  (repeat (first | refine cond_f (by omega) ?_))
  refine fA_place_0 ?_
  refine ldPB hz4 ?_
  refine fA_place_1 ?_
  refine ldPA hz4 ?_
  rw [show ((q + 4 + 4 : Nat) : Int) = ((q + 8 : Nat) : Int) by omega] at *
  refine slcFrom hr4 (by omega) ?_
  intro a5 r5 hbl5
  have r6 := r5.upTo (m := N) (by omega)
  refine slcTo (s := 1) (m := N) Try.underlying29 size_u8 (by have := RV.cap hr; omega) ?_
  generalize hs : (b.drop (q + 8)).take N = s at *
  have hsl : s.length = N := by rw [← hs]; simp; omega
  (repeat (first | refine frame_place_record_A1_r ?_))
  refine fnumber_c hlt1 ?_
  intro a7 n7 c7 w7 o7 b7
  have B7 : Below w.heap.size w w7 := B4.trans (b7.mono B4.size)
  have h7 := o7.len
  rw [beBytes_len] at h7
  refine sum_c o7.rb (by omega) ?_
  have r7 := r6.below b7 (Nat.le_refl _)
  refine more_c r7 (by omega) ?_
  rw [crcS_app]
  refine bin_neq ?_
  have hz7 := below_blk b7 hz4 hz4.lt
  by_cases hsum : (crcS 0 (beBytes N 4 ++ s)).toNat = M
  case neg =>
    have hrec : recF b q = none := recF_none (by rw [hN, hM, hs]; omega)
    refine cond_t (by omega) ?_
    exact out0 B7 hrec
  have hrec : recF b q = some (s, q + 8 + N) := by
    unfold recF
    rw [hN, hM, hs, if_pos ⟨by omega, by omega, by omega, hsum⟩]
  refine cond_f (by omega) ?_
  refine fA_place_1 ?_
  refine ldPA hz7 ?_
  refine hcN ?_
  (repeat (first | refine add64 (by omega) (by omega) ?_))
  refine nilC_p ?_
  refine fA_place_1 ?_
  have hp7 := below_blk B7 hb hlt
  refine sto1 size_int hp7 (by simp) rfl ?_
  intro w8 hp8 ho8
  have hp8 : blk w8 p E [slv v, .int .i64 (((q + 8 : Nat) : Int) + (N : Int))] := hp8
  have r8 : RB w8 a5 N (v.2.2 - (q + 8)) s := r7.oth ho8 (fun _ ad had => by
    obtain ⟨ad2, h2, e⟩ := hbl5 ad had
    rw [e]; exact hne (by omega) ad2 h2)
  refine clone_c r8 (by omega) ?_
  intro a9 c9 w9 o9 b9
  have K9 : Keep [E] p w w9 := ((Keep.of B7).trans (ho8.keep hp7 (by simp) (Nat.le_refl _))).trans (Keep.of b9)
  refine h1 s _ hrec a9 N c9 w9 (OV.mono o9 ?_) ?_ K9
  · have e1 := B7.size
    have e2 := ho8.size
    omega
  · have := below_blk b9 hp8 hp8.lt
    rw [show ((q + 8 + N : Nat) : Int) = ((q + 8 : Nat) : Int) + (N : Int) by omega]; exact this

/-! ## A reader, and all records -/
/-- Block p reads the bytes b from place q on. -/
def FR (w : World) (B p : Nat) (b : List UInt8) (q : Nat) : Prop := ∃ v : Option Addr × Nat × Nat, blk w p 104 [slv v, .int .i64 (q : Nat)] ∧ OB w B v.1 v.2.1 v.2.2 b ∧ B ≤ p ∧ (∀ ad, v.1 = some ad → ad.block < p) ∧ q ≤ b.length ∧ b.length ≤ 4294967296

theorem fnew_c {a : Option Addr} {n c : Nat} {b : List UInt8} {w : World} {K : KV} (hr : RB w a n c b) (hn : n ≤ 4294967296) (h : ∀ p w', FR w' w.heap.size p b 0 → Below w.heap.size w w' → K (ptr p) w') : call Try.prog 64 #[.slice a n c] K w := by
  have hl := hr.len
  refine call_of frame_New_go (frame_New_in ?_)
  refine clone_c hr (by omega) ?_
  intro a1 c1 w1 o1 b1
  refine bld_of (vs := [slv (a1, n, c1), .int .i64 0]) (by kernel_rfl) ?_
  refine bld_of (vs := [slv (a1, n, c1), .int .i64 0]) (by kernel_rfl) ?_
  refine box_of ?_
  intro w2 hp2 b2 s2
  refine h _ w2 ⟨(a1, n, c1), hp2, OB.below o1 b2 (Nat.le_refl _), b1.size, fun ad ha => ?_, by omega, by omega⟩ (b1.trans (b2.mono b1.size))
  have := (OV.block o1 ad.block (by rw [show a1 = some ad from ha]; rfl)).2
  exact this

theorem fnext_c {B p q : Nat} {b : List UInt8} {w : World} {K : KV} (hf : FR w B p b q)
    (h0 : recF b q = none → ∀ w', Below w.heap.size w w' → FR w' B p b q → K (.tuple #[.slice none 0 0, .bool false]) w')
    (h1 : ∀ s q2, recF b q = some (s, q2) → ∀ a n c w', OB w' w.heap.size a n c s → FR w' B p b q2 → Keep [104] p w w' → K (.tuple #[.slice a n c, .bool true]) w') :
    call Try.prog 65 #[ptr p] K w := by
  obtain ⟨v, hb, ho, hB, hlt, hq, hbl⟩ := hf
  have hvl := ho.len
  refine call_of frame_Reader_Next_go (frame_Reader_Next_in ?_)
  refine bin_of (v := .bool false) (by unfold eqG eqGuard; rfl) (by kernel_rfl) ?_
  (repeat (first | refine cond_F ?_))
  refine nilC_p ?_
  refine fA_Reader_0 ?_
  refine precord_c (v := v) hb ho.rb (by omega) hq (fun _ ad ha => by have := hlt ad ha; omega) ?_ ?_
  · intro hrec w1 b1 hb1
    (repeat (first | refine ext_a ?_ | refine ext_b ?_))
    exact h0 hrec w1 b1 ⟨v, hb1, OB.below ho b1 (Nat.le_refl _), hB, hlt, hq, hbl⟩
  · intro s q2 hrec a n c w1 o1 hb1 k1
    (repeat (first | refine ext_a ?_ | refine ext_b ?_))
    refine h1 s q2 hrec a n c w1 o1 ⟨v, hb1, ho.keep k1 (by decide), hB, hlt, ?_, hbl⟩ k1
    unfold recF at hrec
    split at hrec
    · rename_i hc
      cases hrec; omega
    · cases hrec

theorem fat_c {B p q : Nat} {b : List UInt8} {w : World} {K : KV} (hf : FR w B p b q) (h : K (.int .i64 (q : Nat)) w) : call Try.prog 66 #[ptr p] K w := by
  obtain ⟨v, hb, ho, hB, hlt, hq, hbl⟩ := hf
  refine call_of frame_Reader_At_go (frame_Reader_At_in ?_)
  refine bin_of (v := .bool false) (by unfold eqG eqGuard; rfl) (by kernel_rfl) ?_
  (repeat (first | refine cond_F ?_))
  refine nilC_p ?_
  refine fA_Reader_0 ?_
  refine fA_place_1 ?_
  refine ld1 (fun _ => by kernel_rfl) hb rfl ?_
  exact h
theorem fnext_nil {w : World} {K : KV} (h : K (.tuple #[.slice none 0 0, .bool false]) w) : call Try.prog 65 #[.pointer none] K w := by
  refine call_of frame_Reader_Next_go (frame_Reader_Next_in ?_)
  refine bin_of (v := .bool true) (by unfold eqG eqGuard; rfl) (by kernel_rfl) ?_
  (repeat (first | refine cond_T ?_))
  exact h
theorem fat_nil {w : World} {K : KV} (h : K (.int .i64 0) w) : call Try.prog 66 #[.pointer none] K w := by
  refine call_of frame_Reader_At_go (frame_Reader_At_in ?_)
  refine bin_of (v := .bool true) (by unfold eqG eqGuard; rfl) (by kernel_rfl) ?_
  (repeat (first | refine cond_T ?_))
  exact h
end
end Go.Proofs.Ytjkmblbonambjaa
