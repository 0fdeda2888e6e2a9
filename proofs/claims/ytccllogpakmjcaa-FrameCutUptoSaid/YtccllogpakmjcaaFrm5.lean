/- The anchor of layer 3, and a store into bytes of the call's own, told whole. -/
import Derived.Test.YtccllogpakmjcaaFrm4
namespace Go.Proofs.Ytccllogpakmjcaa
open Go.RowKit
section
attribute [local irreducible] bin un conv call callV blt slc fldA fld idxA idx lkp mUpd mEnt eSt rng nxt ent ext alc box bld bldS ld sto nilC mkMap mkS ifc pick rdy wts gsel sti cond retM Gives cCode cGrp cSeq cOp

/-- b[i] = z. -/
theorem stoB {w : World} {K : KV} {B : Nat} {a : Option Addr} {n c i : Nat} {l : List UInt8} {v : Value} {z : UInt8} (ho : OB w B a n c l) (hi : i < n) (hv : v = u8v z)
    (h : ∀ w', OB w' B a n c (l.set i z) → Below B w w' → w'.heap.size = w.heap.size → K undef w') : sto Try.prog 5 (.pointer (some (slotA a i))) v K w := by
  have hl := ho.len
  subst hv
  rcases ho.2 with ⟨hv, hn⟩ | ⟨g, cap, cur, hv, hb, hh, h1, h2, h3, h4⟩
  · omega
  · cases hv
    have hb2 : blk w g 5 cur.toList := hh
    rw [slotA_some]
    refine sto1 size_u8 hb2 (by simp; omega) rfl ?_
    intro w' hb' ho'
    refine h w' ⟨by simpa using ho.1, .inr ⟨g, c, (cur.toList.set (0 + i) (u8v z)).toArray, rfl, hb, hb', h1, h2, by simpa using h3, ?_⟩⟩ (ho'.below.mono hb) ho'.size
    rw [Nat.zero_add, List.take_set, h4, List.map_set]

theorem idxB {w : World} {K : KV} {B : Nat} {a : Option Addr} {n c i : Nat} {l : List UInt8} {k : IntKind} (ho : OB w B a n c l) (hi : i < n) (h : w.cell? (slotA a i) = some (.int .u8 ((l.getD i 0).toNat : Int)) → K (.pointer (some (slotA a i))) w) :
    idxA Try.prog 22 (.slice a n c) (.int k (i : Nat)) K w := by
  refine idx8 ho.rb (by omega) (by omega) ?_
  rw [Int.toNat_natCast]; exact h


set_option maxHeartbeats 2000000 in
theorem works_c {w : World} {K : KV} (h : ∀ w', Below w.heap.size w w' → K (.bool true) w') : call Try.prog 8 #[] K w := by
  refine call_of leatlaw03_works_go (leatlaw03_works_in ?_)
  refine const8 [97] rfl rfl (by simp) (by simp) ?_
  intro a1 w1 r1 b1
  have S1 := b1.size
  refine bld36 (v := (a1, 1, 1)) ?_
  intro w2 b2 r2 s2
  have rbb : RBB w2 (some ⟨w1.heap.size, 0, none⟩) 1 1 [(a1, 1, 1)] [[97]] := ⟨r2, rfl, fun i v l hv hl => by
    cases i with
    | zero => simp at hv hl; subst hv hl; exact r1.below b2 (Nat.le_refl _)
    | succ i => simp at hv⟩
  refine fput_c (l := []) (RV.nil w2) rbb (by omega) (by omega) (by decide) ?_
  rw [show putF [] [[97]] = (frameB [97], 0) from by kernel_rfl]
  intro a3 n3 c3 w3 o3 b3
  have h3 := o3.len
  have hf9 : (frameB [97]).length = 9 := by rw [frameB_len]; rfl
  rw [hf9] at h3
  subst h3
  have B3 : Below w.heap.size w w3 := (b1.trans (b2.mono S1)).trans (b3.mono (by omega))
  have S3 := B3.size
  (repeat (first | refine bin_eql ?_ | refine bin_neq ?_ | refine bin_lss ?_ | refine bin_leq ?_ | refine bin_gtr ?_ | refine bin_geq ?_ | refine add64 (by omega) (by omega) ?_ | refine sub64 (by omega) (by omega) ?_ | refine ext_a ?_ | refine ext_b ?_ | refine ext3_a ?_ | refine ext3_b ?_ | refine ext3_c ?_ | refine un_notD ?_ | refine mul64 (by omega) (by omega) ?_ | refine cvIU (by omega) (by omega) ?_ | refine cvIUint (by omega) (by omega) ?_ | refine cvUI (by omega) (by omega) ?_ | refine cvBU (by omega) (by omega) ?_ | refine len8 ?_ | refine len36 ?_ | refine pick_T ?_ | refine pick_F ?_ | refine cond_T ?_ | refine cond_F ?_ | refine cond_t (by omega) ?_ | refine cond_f (by omega) ?_ | refine gsel_T ?_ | refine gsel_F ?_ | refine gsel_Tn ?_ | refine gsel_Fn ?_ | refine gsel_U ?_ | refine gsel_pt (by omega) ?_ | refine gsel_pf (by omega) ?_ | refine gsel_nt (by omega) ?_ | refine gsel_nf (by omega) ?_ | refine pick_t (by omega) ?_ | refine pick_f (by omega) ?_ | refine sti_of (fun _ hK => bin_eql hK) ?_ | refine sti_of (fun _ hK => bin_neq hK) ?_ | refine sti_of (fun _ hK => bin_lss hK) ?_ | refine sti_of (fun _ hK => bin_leq hK) ?_ | refine sti_of (fun _ hK => bin_gtr hK) ?_ | refine sti_of (fun _ hK => bin_geq hK) ?_ | refine sti_of (fun _ hK => add64 (by omega) (by omega) hK) ?_ | refine sti_of (fun _ hK => sub64 (by omega) (by omega) hK) ?_ | refine sti_of (fun _ hK => un_notD hK) ?_ | refine sti_of (fun _ hK => len8 hK) ?_ | refine sti_of (fun _ hK => pick_T hK) ?_ | refine sti_of (fun _ hK => pick_F hK) ?_))
  refine empty8 w3.heap.size (Nat.le_refl _) ?_
  intro a4 w4 o4 b4
  have r4 := (OB.below o3 b4 (Nat.le_refl _)).rb
  refine app8 w3.heap.size o4 r4 (by omega) b4.size ?_
  intro a5 c5 w5 o5 g5
  have B5 : Below w3.heap.size w3 w5 := b4.trans (below_of_grown g5 b4.size (fun k hk => (OV.block o4 k hk).1))
  have S5 := B5.size
  refine app8 w3.heap.size o5 (OB.below o3 B5 (Nat.le_refl _)).rb (by omega) S5 ?_
  intro a6 c6 w6 o6 g6
  have B6 : Below w3.heap.size w3 w6 := B5.trans (below_of_grown g6 S5 (fun k hk => (OV.block o5 k hk).1))
  have S6 := B6.size
  rw [List.nil_append] at o6
  (repeat (first | refine leatlaw03_works_A1_r ?_ | refine bin_eql ?_ | refine bin_neq ?_ | refine bin_lss ?_ | refine bin_leq ?_ | refine bin_gtr ?_ | refine bin_geq ?_ | refine add64 (by omega) (by omega) ?_ | refine sub64 (by omega) (by omega) ?_ | refine ext_a ?_ | refine ext_b ?_ | refine ext3_a ?_ | refine ext3_b ?_ | refine ext3_c ?_ | refine un_notD ?_ | refine mul64 (by omega) (by omega) ?_ | refine cvIU (by omega) (by omega) ?_ | refine cvIUint (by omega) (by omega) ?_ | refine cvUI (by omega) (by omega) ?_ | refine cvBU (by omega) (by omega) ?_ | refine len8 ?_ | refine len36 ?_ | refine pick_T ?_ | refine pick_F ?_ | refine cond_T ?_ | refine cond_F ?_ | refine cond_t (by omega) ?_ | refine cond_f (by omega) ?_ | refine gsel_T ?_ | refine gsel_F ?_ | refine gsel_Tn ?_ | refine gsel_Fn ?_ | refine gsel_U ?_ | refine gsel_pt (by omega) ?_ | refine gsel_pf (by omega) ?_ | refine gsel_nt (by omega) ?_ | refine gsel_nf (by omega) ?_ | refine pick_t (by omega) ?_ | refine pick_f (by omega) ?_ | refine sti_of (fun _ hK => bin_eql hK) ?_ | refine sti_of (fun _ hK => bin_neq hK) ?_ | refine sti_of (fun _ hK => bin_lss hK) ?_ | refine sti_of (fun _ hK => bin_leq hK) ?_ | refine sti_of (fun _ hK => bin_gtr hK) ?_ | refine sti_of (fun _ hK => bin_geq hK) ?_ | refine sti_of (fun _ hK => add64 (by omega) (by omega) hK) ?_ | refine sti_of (fun _ hK => sub64 (by omega) (by omega) hK) ?_ | refine sti_of (fun _ hK => un_notD hK) ?_ | refine sti_of (fun _ hK => len8 hK) ?_ | refine sti_of (fun _ hK => pick_T hK) ?_ | refine sti_of (fun _ hK => pick_F hK) ?_))
  refine idxB (i := 17) o6 (by omega) ?_
  intro hc
  refine ld8 hc ?_
  rw [show (((frameB [97] ++ frameB [97]).getD 17 0).toNat : Int) = 97 from by decide +kernel]
  refine bin_xor ?_
  refine idxB (i := 17) o6 (by omega) ?_
  intro _
  refine stoB (z := 96) o6 (by omega) (by show Value.int .u8 _ = Value.int .u8 _; congr 1) ?_
  intro w7 o7 b7 s7
  have B7 : Below w3.heap.size w3 w7 := B6.trans b7
  have o37 := OB.below o3 B7 (Nat.le_refl _)
  have q3 := o37.rb
  refine slcTo (s := 1) (m := 8) Try.underlying22 size_u8 (by have := RV.cap q3; omega) ?_
  refine fall_c (q3.upTo (m := 8) (by omega)) (by omega) ?_
  rw [show allB ((frameB [97]).take 8) = ([], 0) from by decide +kernel]
  intro a8 n8 c8 vs8 w8 L8 b8
  have h8 := obb_len L8
  have h8 : 0 = n8 := h8
  (repeat (first | refine bin_eql ?_ | refine bin_neq ?_ | refine bin_lss ?_ | refine bin_leq ?_ | refine bin_gtr ?_ | refine bin_geq ?_ | refine add64 (by omega) (by omega) ?_ | refine sub64 (by omega) (by omega) ?_ | refine ext_a ?_ | refine ext_b ?_ | refine ext3_a ?_ | refine ext3_b ?_ | refine ext3_c ?_ | refine un_notD ?_ | refine mul64 (by omega) (by omega) ?_ | refine cvIU (by omega) (by omega) ?_ | refine cvIUint (by omega) (by omega) ?_ | refine cvUI (by omega) (by omega) ?_ | refine cvBU (by omega) (by omega) ?_ | refine len8 ?_ | refine len36 ?_ | refine pick_T ?_ | refine pick_F ?_ | refine cond_T ?_ | refine cond_F ?_ | refine cond_t (by omega) ?_ | refine cond_f (by omega) ?_ | refine gsel_T ?_ | refine gsel_F ?_ | refine gsel_Tn ?_ | refine gsel_Fn ?_ | refine gsel_U ?_ | refine gsel_pt (by omega) ?_ | refine gsel_pf (by omega) ?_ | refine gsel_nt (by omega) ?_ | refine gsel_nf (by omega) ?_ | refine pick_t (by omega) ?_ | refine pick_f (by omega) ?_ | refine sti_of (fun _ hK => bin_eql hK) ?_ | refine sti_of (fun _ hK => bin_neq hK) ?_ | refine sti_of (fun _ hK => bin_lss hK) ?_ | refine sti_of (fun _ hK => bin_leq hK) ?_ | refine sti_of (fun _ hK => bin_gtr hK) ?_ | refine sti_of (fun _ hK => bin_geq hK) ?_ | refine sti_of (fun _ hK => add64 (by omega) (by omega) hK) ?_ | refine sti_of (fun _ hK => sub64 (by omega) (by omega) hK) ?_ | refine sti_of (fun _ hK => un_notD hK) ?_ | refine sti_of (fun _ hK => len8 hK) ?_ | refine sti_of (fun _ hK => pick_T hK) ?_ | refine sti_of (fun _ hK => pick_F hK) ?_))
  have o7' := OB.below o7 b8 (Nat.le_refl _)
  have e18 : 0 + 9 + 9 = 18 := rfl
  refine fall_c o7'.rb (by omega) ?_
  rw [show allB ((frameB [97] ++ frameB [97]).set 17 96) = ([[97]], 9) from by decide +kernel]
  intro a9 n9 c9 vs9 w9 L9 b9
  have h9 := obb_len L9
  have h9 : 1 = n9 := h9
  have B8 : Below w.heap.size w w8 := (B3.trans (B7.mono S3)).trans (b8.mono (by have := B7.size; omega))
  have B9 : Below w.heap.size w w9 := B8.trans (b9.mono B8.size)
  have q3 := (OB.below (OB.below o37 b8 (Nat.le_refl _)) b9 (Nat.le_refl _))
  (repeat (first | refine bin_eql ?_ | refine bin_neq ?_ | refine bin_lss ?_ | refine bin_leq ?_ | refine bin_gtr ?_ | refine bin_geq ?_ | refine add64 (by omega) (by omega) ?_ | refine sub64 (by omega) (by omega) ?_ | refine ext_a ?_ | refine ext_b ?_ | refine ext3_a ?_ | refine ext3_b ?_ | refine ext3_c ?_ | refine un_notD ?_ | refine mul64 (by omega) (by omega) ?_ | refine cvIU (by omega) (by omega) ?_ | refine cvIUint (by omega) (by omega) ?_ | refine cvUI (by omega) (by omega) ?_ | refine cvBU (by omega) (by omega) ?_ | refine len8 ?_ | refine len36 ?_ | refine pick_T ?_ | refine pick_F ?_ | refine cond_T ?_ | refine cond_F ?_ | refine cond_t (by omega) ?_ | refine cond_f (by omega) ?_ | refine gsel_T ?_ | refine gsel_F ?_ | refine gsel_Tn ?_ | refine gsel_Fn ?_ | refine gsel_U ?_ | refine gsel_pt (by omega) ?_ | refine gsel_pf (by omega) ?_ | refine gsel_nt (by omega) ?_ | refine gsel_nf (by omega) ?_ | refine pick_t (by omega) ?_ | refine pick_f (by omega) ?_ | refine sti_of (fun _ hK => bin_eql hK) ?_ | refine sti_of (fun _ hK => bin_neq hK) ?_ | refine sti_of (fun _ hK => bin_lss hK) ?_ | refine sti_of (fun _ hK => bin_leq hK) ?_ | refine sti_of (fun _ hK => bin_gtr hK) ?_ | refine sti_of (fun _ hK => bin_geq hK) ?_ | refine sti_of (fun _ hK => add64 (by omega) (by omega) hK) ?_ | refine sti_of (fun _ hK => sub64 (by omega) (by omega) hK) ?_ | refine sti_of (fun _ hK => un_notD hK) ?_ | refine sti_of (fun _ hK => len8 hK) ?_ | refine sti_of (fun _ hK => pick_T hK) ?_ | refine sti_of (fun _ hK => pick_F hK) ?_))
  refine slcTo (s := 1) (m := 4) Try.underlying22 size_u8 (by have := RV.cap q3.rb; omega) ?_
  refine str8 (q3.rb.upTo (m := 4) (by omega)) ?_
  refine bin_eqlS ?_
  rw [show (frameB [97]).take 4 = [0, 0, 0, 1] from by decide +kernel]
  (repeat (first | refine gsel_pt rfl ?_ | refine pick_t rfl ?_ | refine bin_eql ?_ | refine bin_neq ?_ | refine bin_lss ?_ | refine bin_leq ?_ | refine bin_gtr ?_ | refine bin_geq ?_ | refine add64 (by omega) (by omega) ?_ | refine sub64 (by omega) (by omega) ?_ | refine ext_a ?_ | refine ext_b ?_ | refine ext3_a ?_ | refine ext3_b ?_ | refine ext3_c ?_ | refine un_notD ?_ | refine mul64 (by omega) (by omega) ?_ | refine cvIU (by omega) (by omega) ?_ | refine cvIUint (by omega) (by omega) ?_ | refine cvUI (by omega) (by omega) ?_ | refine cvBU (by omega) (by omega) ?_ | refine len8 ?_ | refine len36 ?_ | refine pick_T ?_ | refine pick_F ?_ | refine cond_T ?_ | refine cond_F ?_ | refine cond_t (by omega) ?_ | refine cond_f (by omega) ?_ | refine gsel_T ?_ | refine gsel_F ?_ | refine gsel_Tn ?_ | refine gsel_Fn ?_ | refine gsel_U ?_ | refine gsel_pt (by omega) ?_ | refine gsel_pf (by omega) ?_ | refine gsel_nt (by omega) ?_ | refine gsel_nf (by omega) ?_ | refine pick_t (by omega) ?_ | refine pick_f (by omega) ?_ | refine sti_of (fun _ hK => bin_eql hK) ?_ | refine sti_of (fun _ hK => bin_neq hK) ?_ | refine sti_of (fun _ hK => bin_lss hK) ?_ | refine sti_of (fun _ hK => bin_leq hK) ?_ | refine sti_of (fun _ hK => bin_gtr hK) ?_ | refine sti_of (fun _ hK => bin_geq hK) ?_ | refine sti_of (fun _ hK => add64 (by omega) (by omega) hK) ?_ | refine sti_of (fun _ hK => sub64 (by omega) (by omega) hK) ?_ | refine sti_of (fun _ hK => un_notD hK) ?_ | refine sti_of (fun _ hK => len8 hK) ?_ | refine sti_of (fun _ hK => pick_T hK) ?_ | refine sti_of (fun _ hK => pick_F hK) ?_))
  refine idxB (i := 8) q3 (by omega) ?_
  intro hc
  refine ld8 hc ?_
  rw [show (((frameB [97]).getD 8 0).toNat : Int) = 97 from by decide +kernel]
  (repeat (first | refine gsel_pt rfl ?_ | refine pick_t rfl ?_ | refine len26 ?_ | refine bin_eql ?_ | refine bin_neq ?_ | refine bin_lss ?_ | refine bin_leq ?_ | refine bin_gtr ?_ | refine bin_geq ?_ | refine add64 (by omega) (by omega) ?_ | refine sub64 (by omega) (by omega) ?_ | refine ext_a ?_ | refine ext_b ?_ | refine ext3_a ?_ | refine ext3_b ?_ | refine ext3_c ?_ | refine un_notD ?_ | refine mul64 (by omega) (by omega) ?_ | refine cvIU (by omega) (by omega) ?_ | refine cvIUint (by omega) (by omega) ?_ | refine cvUI (by omega) (by omega) ?_ | refine cvBU (by omega) (by omega) ?_ | refine len8 ?_ | refine len36 ?_ | refine pick_T ?_ | refine pick_F ?_ | refine cond_T ?_ | refine cond_F ?_ | refine cond_t (by omega) ?_ | refine cond_f (by omega) ?_ | refine gsel_T ?_ | refine gsel_F ?_ | refine gsel_Tn ?_ | refine gsel_Fn ?_ | refine gsel_U ?_ | refine gsel_pt (by omega) ?_ | refine gsel_pf (by omega) ?_ | refine gsel_nt (by omega) ?_ | refine gsel_nf (by omega) ?_ | refine pick_t (by omega) ?_ | refine pick_f (by omega) ?_ | refine sti_of (fun _ hK => bin_eql hK) ?_ | refine sti_of (fun _ hK => bin_neq hK) ?_ | refine sti_of (fun _ hK => bin_lss hK) ?_ | refine sti_of (fun _ hK => bin_leq hK) ?_ | refine sti_of (fun _ hK => bin_gtr hK) ?_ | refine sti_of (fun _ hK => bin_geq hK) ?_ | refine sti_of (fun _ hK => add64 (by omega) (by omega) hK) ?_ | refine sti_of (fun _ hK => sub64 (by omega) (by omega) hK) ?_ | refine sti_of (fun _ hK => un_notD hK) ?_ | refine sti_of (fun _ hK => len8 hK) ?_ | refine sti_of (fun _ hK => pick_T hK) ?_ | refine sti_of (fun _ hK => pick_F hK) ?_))
  refine idx36 L9.rbb (by omega) (by omega) ?_
  intro v l hv hl hc hr
  have hl : ([[97]] : List (List UInt8))[0]? = some l := hl
  simp at hl
  subst hl
  refine ldSl hc ?_
  refine str8 hr ?_
  refine bin_eqlS ?_
  (repeat (first | refine gsel_pt rfl ?_ | refine pick_t rfl ?_ | refine len26 ?_ | refine bin_eql ?_ | refine bin_neq ?_ | refine bin_lss ?_ | refine bin_leq ?_ | refine bin_gtr ?_ | refine bin_geq ?_ | refine add64 (by omega) (by omega) ?_ | refine sub64 (by omega) (by omega) ?_ | refine ext_a ?_ | refine ext_b ?_ | refine ext3_a ?_ | refine ext3_b ?_ | refine ext3_c ?_ | refine un_notD ?_ | refine mul64 (by omega) (by omega) ?_ | refine cvIU (by omega) (by omega) ?_ | refine cvIUint (by omega) (by omega) ?_ | refine cvUI (by omega) (by omega) ?_ | refine cvBU (by omega) (by omega) ?_ | refine len8 ?_ | refine len36 ?_ | refine pick_T ?_ | refine pick_F ?_ | refine cond_T ?_ | refine cond_F ?_ | refine cond_t (by omega) ?_ | refine cond_f (by omega) ?_ | refine gsel_T ?_ | refine gsel_F ?_ | refine gsel_Tn ?_ | refine gsel_Fn ?_ | refine gsel_U ?_ | refine gsel_pt (by omega) ?_ | refine gsel_pf (by omega) ?_ | refine gsel_nt (by omega) ?_ | refine gsel_nf (by omega) ?_ | refine pick_t (by omega) ?_ | refine pick_f (by omega) ?_ | refine sti_of (fun _ hK => bin_eql hK) ?_ | refine sti_of (fun _ hK => bin_neq hK) ?_ | refine sti_of (fun _ hK => bin_lss hK) ?_ | refine sti_of (fun _ hK => bin_leq hK) ?_ | refine sti_of (fun _ hK => bin_gtr hK) ?_ | refine sti_of (fun _ hK => bin_geq hK) ?_ | refine sti_of (fun _ hK => add64 (by omega) (by omega) hK) ?_ | refine sti_of (fun _ hK => sub64 (by omega) (by omega) hK) ?_ | refine sti_of (fun _ hK => un_notD hK) ?_ | refine sti_of (fun _ hK => len8 hK) ?_ | refine sti_of (fun _ hK => pick_T hK) ?_ | refine sti_of (fun _ hK => pick_F hK) ?_))
  exact h _ B9
end
end Go.Proofs.Ytccllogpakmjcaa
