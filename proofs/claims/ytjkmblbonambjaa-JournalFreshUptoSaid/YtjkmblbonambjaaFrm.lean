/- Frames: plain, and what the program's functions and the reference's give. -/
import Derived.Test.YtjkmblbonambjaaCrc
import Derived.Test.YtjkmblbonambjaaBe
import Derived.Test.YtjkmblbonambjaaRef2
import Derived.Test.YtjkmblbonambjaaMem3
import Derived.Test.YtjkmblbonambjaaStore
namespace Go.Proofs.Ytjkmblbonambjaa
set_option maxRecDepth 100000
open Go.RowKit

def sumB (l : List UInt8) : List UInt8 := beBytes (crcS 0 l).toNat 4
/-- P3.1: the frame of a record. -/
def frameB (s : List UInt8) : List UInt8 := beBytes s.length 4 ++ sumB (beBytes s.length 4 ++ s) ++ s
def framesB : List (List UInt8) → List UInt8
  | [] => []
  | s :: r => frameB s ++ framesB r
def putF (l : List UInt8) (L : List (List UInt8)) : List UInt8 × Int := if L.all (fun s => decide (s.length ≤ 4096)) then (l ++ framesB L, 0) else ([], 6)
/-- The record of the frame at a place, and where it ends. -/
def recF (b : List UInt8) (p : Nat) : Option (List UInt8 × Nat) :=
  if p + 8 ≤ b.length ∧ beNat ((b.drop p).take 4) ≤ 4096 ∧ p + 8 + beNat ((b.drop p).take 4) ≤ b.length ∧
      (crcS 0 (beBytes (beNat ((b.drop p).take 4)) 4 ++ (b.drop (p + 8)).take (beNat ((b.drop p).take 4)))).toNat = beNat ((b.drop (p + 4)).take 4)
  then some ((b.drop (p + 8)).take (beNat ((b.drop p).take 4)), p + 8 + beNat ((b.drop p).take 4)) else none
def allF (b : List UInt8) : Nat → Nat → List (List UInt8) × Nat
  | 0, p => ([], p)
  | f + 1, p => match recF b p with | none => ([], p) | some (s, q) => (s :: (allF b f q).1, (allF b f q).2)
def takeF (b : List UInt8) (at_ : Int) : List UInt8 × Int × Int :=
  if at_ < 0 ∨ (b.length : Int) < at_ then ([], 0, 1) else match recF b at_.toNat with | none => ([], 0, 5) | some (s, q) => (s, q, 0)

theorem frameB_len (s : List UInt8) : (frameB s).length = 8 + s.length := by simp [frameB, sumB, beBytes_len]; omega
theorem framesB_app (x y : List (List UInt8)) : framesB (x ++ y) = framesB x ++ framesB y := by
  induction x with
  | nil => rfl
  | cons s r ih => simp [framesB, ih]
theorem framesB_len (L : List (List UInt8)) : (framesB L).length = 8 * L.length + vast L := by
  induction L with
  | nil => rfl
  | cons s r ih => simp only [framesB, List.length_append, frameB_len, ih, List.length_cons, vast]; omega
theorem framesB_snoc (L : List (List UInt8)) (j : Nat) (s : List UInt8) (h : L[j]? = some s) : framesB (L.take (j + 1)) = framesB (L.take j) ++ frameB s := by
  have hl := List.getElem?_eq_some_iff.1 h
  rw [List.take_succ_eq_append_getElem hl.1, framesB_app, hl.2]
  simp [framesB]

theorem takeS4_ok {l : List UInt8} {p : Nat} (h : p + 4 ≤ l.length) : takeS l p 4 = (beNat ((l.drop p).take 4), (p : Int) + 4, 0) := by
  unfold takeS
  rw [if_neg (by rintro (h1 | h1 | h1) <;> first | exact absurd h1 (by decide) | omega), if_neg (by omega)]
  rfl
theorem takeS4_err {l : List UInt8} {p : Nat} (h : l.length < p + 4) : (takeS l p 4).2.2 ≠ 0 := by
  unfold takeS
  split
  · decide
  · rw [if_pos (by omega)]; decide

theorem beNat4 (l : List UInt8) (p : Nat) : beNat ((l.drop p).take 4) < 4294967296 := by
  have := beNat_lt ((l.drop p).take 4)
  have h2 : ((l.drop p).take 4).length ≤ 4 := by simp; omega
  have h3 : 256 ^ ((l.drop p).take 4).length ≤ 256 ^ 4 := Nat.pow_le_pow_right (by omega) h2
  omega

section
attribute [local irreducible] bin un conv call callV blt slc fldA fld idxA idx lkp mUpd mEnt eSt rng nxt ent ext alc box bld bldS ld sto nilC mkMap mkS ifc pick rdy wts gsel sti cond retM Gives cCode cGrp cSeq cOp

theorem len26 {ty : TypeId} {cs : Array Bool} {av : Option Addr} {n c : Nat} {w : World} {K : KV} (h : K (.int .i64 (n : Int)) w) : blt Try.prog .len #[50] ty cs #[.slice av n c] K w := len36 h

theorem fnumber_c {x : Nat} {w : World} {K : KV} (hx : x < 4294967296) (h : ∀ a' n' c' w', OB w' w.heap.size a' n' c' (beBytes x 4) → Below w.heap.size w w' → K (.slice a' n' c') w') :
    call Try.prog 69 #[.int .u32 (x : Int)] K w := by
  refine call_of frame_number_go (frame_number_in ?_)
  refine conv_int Try.underlying106 Try.underlying113 ?_
  rw [wrap_u64, show (x : Int) % 18446744073709551616 = ((x : Nat) : Int) by omega]
  refine put_c (l := []) (k := 4) (RV.nil w) (by omega) (by omega) ?_
  rw [show putS [] x 4 = (beBytes x 4, 0) by unfold putS; rw [if_neg (by decide), if_neg (by show ¬ 256 ^ 4 ≤ x; omega)]; rfl]
  intro a1 n1 c1 w1 o1 b1
  (repeat (first | refine ext_a ?_ | refine ext_b ?_))
  exact h _ _ _ _ o1 b1

theorem u32_of {x : Nat} (h : x < 4294967296) : IntKind.u32.wrap (x : Int) = (x : Int) := by rw [wrap_u32]; omega

set_option maxHeartbeats 1000000 in
theorem fput_c {a : Option Addr} {n c : Nat} {l : List UInt8} {a2 : Option Addr} {n2 c2 : Nat} {vs : List (Option Addr × Nat × Nat)} {L : List (List UInt8)} {w : World} {K : KV} (hb : RB w a n c l) (hL : RBB w a2 n2 c2 vs L) (hn : n ≤ 4294967296) (hn2 : n2 ≤ 4294967296) (hv : vast L ≤ 1000000000000)
    (h : ∀ a' n' c' w', OB w' w.heap.size a' n' c' (putF l L).1 → Below w.heap.size w w' → K (.tuple #[.slice a' n' c', .int .i64 (putF l L).2]) w') :
    call Try.prog 67 #[.slice a n c, .slice a2 n2 c2] K w := by
  have hl := hb.len
  have hlL := hL.lenL
  refine call_of frame_Put_go (frame_Put_in ?_)
  refine clone_c hb (by omega) ?_
  intro a1 c1 w1 o1 b1
  refine len26 ?_
  refine frame_Put_L1_r (Inv := fun out i wr => ∃ (j : Nat) (a' : Option Addr) (n' c' : Nat), j ≤ n2 ∧ i = .int .i64 (j : Nat) ∧ out = .slice a' n' c' ∧ OB wr w.heap.size a' n' c' (l ++ framesB (L.take j)) ∧ Below w.heap.size w wr ∧ ∀ s ∈ L.take j, s.length ≤ 4096)
    (μ := fun _ i _ => n2 - (intOf i).toNat) ⟨0, _, _, _, by omega, rfl, rfl, by simpa [framesB] using o1, b1, by simp⟩ ?_
  rintro _ _ _ w2 m ⟨j, a3, n3, c3, hj, rfl, rfl, o3, b3, hs3⟩ hm
  by_cases hjn : j < n2
  · (repeat (first | refine bin_lss ?_ | refine cond_t (by omega) ?_))
    refine idx36 (hL.below b3 (Nat.le_refl _)) (by omega) (by omega) ?_
    intro v s hvj hsj hc hr
    rw [Int.toNat_natCast] at hvj hsj
    refine ldSl hc ?_
    have hsl := hr.len
    have hl3 := o3.len
    rw [List.length_append, framesB_len, List.length_take] at hl3
    have hvj2 := vast_take L j s hsj
    by_cases hbig : 4096 < v.2.1
    · rw [show putF l L = ([], 6) by
        unfold putF
        rw [if_neg]
        intro hall
        have := List.all_eq_true.1 hall s (List.mem_of_getElem? hsj)
        simp at this; omega] at h
      (repeat (first | refine bin_gtr ?_ | refine len8 ?_ | refine cond_t (by omega) ?_))
      exact h _ _ _ _ (OB.nil _ _) b3
    · (repeat (first | refine bin_gtr ?_ | refine len8 ?_ | refine cond_f (by omega) ?_))
      refine conv_int Try.underlying3 Try.underlying106 ?_
      rw [u32_of (by omega)]
      refine fnumber_c (by omega) ?_
      intro a4 n4 c4 w4 o4 b4
      have h4 := o4.len
      rw [beBytes_len] at h4
      refine sum_c o4.rb (by omega) ?_
      have hr4 := hr.below b4 (Nat.le_refl _)
      refine more_c hr4 (by omega) ?_
      have s3 := b3.size
      have s4 := b4.size
      refine app8 w.heap.size (o3.below b4 (Nat.le_refl _)) o4.rb (by omega) (by omega) ?_
      intro a5 c5 w5 o5 g5
      have k5 : Below w.heap.size w4 w5 := below_of_grown g5 (by omega) (fun k hk => (OV.block (OB.below o3 b4 (Nat.le_refl _)) k hk).1)
      refine fnumber_c (BitVec.isLt _) ?_
      intro a6 n6 c6 w6 o6 b6
      have h6 := o6.len
      rw [beBytes_len] at h6
      have s5 := k5.size
      have s6 := b6.size
      refine app8 w.heap.size (OB.below o5 b6 (Nat.le_refl _)) o6.rb (by omega) (by omega) ?_
      intro a7 c7 w7 o7 g7
      have k7 : Below w.heap.size w6 w7 := below_of_grown g7 (by omega) (fun k hk => (OV.block (OB.below o5 b6 (Nat.le_refl _)) k hk).1)
      have s7 := k7.size
      have B7 : Below w.heap.size w w7 := (((b3.trans (b4.mono s3)).trans k5).trans (b6.mono (by omega))).trans k7
      have r7 : RB w7 v.1 v.2.1 v.2.2 s := (hL.below B7 (Nat.le_refl _)).each j v s hvj hsj
      refine app8 w.heap.size o7 r7 (by omega) (by omega) ?_
      intro a8 c8 w8 o8 g8
      have k8 : Below w.heap.size w7 w8 := below_of_grown g8 (by omega) (fun k hk => (OV.block o7 k hk).1)
      (repeat (first | refine add64 (by omega) (by omega) ?_))
      refine ⟨⟨j + 1, _, _, _, by omega, by simp, rfl, ?_, B7.trans k8, ?_⟩, by rw [hm]; simp only [intOf]; omega⟩
      · rw [framesB_snoc L j s hsj]
        have e : l ++ (framesB (L.take j) ++ frameB s) = l ++ framesB (L.take j) ++ beBytes v.2.1 4 ++ beBytes (crcS (crcS 0 (beBytes v.2.1 4)) s).toNat 4 ++ s := by
          rw [crcS_app]
          simp only [frameB, sumB, hsl, List.append_assoc]
        rw [e]; exact o8
      · intro t ht
        rw [List.take_succ_eq_append_getElem (by omega)] at ht
        rcases List.mem_append.1 ht with ht | ht
        · exact hs3 t ht
        · rw [List.mem_singleton] at ht
          have := List.getElem?_eq_some_iff.1 hsj
          rw [ht, this.2]; omega
  · have : j = n2 := by omega
    subst this
    have ht : L.take j = L := List.take_of_length_le (by omega)
    rw [ht] at o3 hs3
    rw [show putF l L = (l ++ framesB L, 0) by
      unfold putF
      rw [if_pos]
      exact List.all_eq_true.2 fun s hs => by simpa using hs3 s hs] at h
    (repeat (first | refine frame_Put_P1_r ?_ | refine bin_lss ?_ | refine cond_f (by omega) ?_))
    exact h _ _ _ _ o3 b3

/-! ## Taking -/
theorem fA_place_0 {w : World} {K : KV} {b o : Nat} (h : K (.pointer (some ⟨b, o + 0, none⟩)) w) : fldA Try.prog 102 (.pointer (some ⟨b, o, none⟩)) 0 K w := fldA_of (by kernel_rfl) h
theorem fA_place_1 {w : World} {K : KV} {b o : Nat} (h : K (.pointer (some ⟨b, o + 1, none⟩)) w) : fldA Try.prog 102 (.pointer (some ⟨b, o, none⟩)) 1 K w := fldA_of (by kernel_rfl) h
theorem fA_Reader_0 {w : World} {K : KV} {b o : Nat} (h : K (.pointer (some ⟨b, o + 0, none⟩)) w) : fldA Try.prog 104 (.pointer (some ⟨b, o, none⟩)) 0 K w := fldA_of (by kernel_rfl) h
theorem RB.oth {w w' : World} {p : Nat} {a : Option Addr} {n c : Nat} {l : List UInt8} (h : RB w a n c l) (ho : Oth p w w') (hp : 0 < n → ∀ ad, a = some ad → ad.block ≠ p) : RB w' a n c l :=
  ⟨RV.len h, RV.cap h, RV.some_ h, RV.nil_ h, fun i v hv => by
    have hc := RV.cell h i v hv
    have hi : i < n := by have := (List.getElem?_eq_some_iff.1 hv).1; rw [RV.len h] at this; exact this
    obtain ⟨b, o, rfl⟩ := RV.some_ h (by omega)
    rw [slotA_some] at hc ⊢
    rw [World.cell?_of_block (w := w) (ho.other b (hp (by omega) _ rfl))]; exact hc⟩

theorem pnumber_c {p q : Nat} {E : TypeId} {v : Option Addr × Nat × Nat} {b : List UInt8} {w : World} {K : KV} (hb : blk w p E [slv v, .int .i64 (q : Nat)]) (hr : RB w v.1 v.2.1 v.2.2 b) (hn : v.2.1 ≤ 4294967296)
    (h0 : b.length < q + 4 → ∀ w', Below w.heap.size w w' → blk w' p E [slv v, .int .i64 (q : Nat)] → K (.tuple #[.int .u32 0, .bool false]) w')
    (h1 : q + 4 ≤ b.length → ∀ w', blk w' p E [slv v, .int .i64 ((q + 4 : Nat) : Int)] → Keep [E] p w w' → K (.tuple #[.int .u32 (beNat ((b.drop q).take 4) : Nat), .bool true]) w') :
    call Try.prog 72 #[ptr p] K w := by
  have hl := hr.len
  refine call_of frame_place_number_go (frame_place_number_in ?_)
  refine hReg_of (fun w => blk w p E [slv v, .int .i64 (q : Nat)]) hb ?_
  refine hld_of (fun w hw K hK => nilC_p hK) ?_
  refine hld_of (fun w hw K hK => fA_place_0 hK) ?_
  refine hld_of (fun w hw K hK => ld1 (fun _ => by kernel_rfl) hw rfl hK) ?_
  refine hld_of (fun w hw K hK => nilC_p hK) ?_
  refine hld_of (fun w hw K hK => fA_place_1 hK) ?_
  refine hld_of (fun w hw K hK => ld1 (fun _ => by kernel_rfl) hw rfl hK) ?_
  refine take_c (w := w.drew) (l := b) hr.drew (by omega) ?_
  refine hReg_of (fun _ => True) trivial ?_
  refine hld_of (fun w hw K hK => ext3_a hK) ?_
  refine hld_of (fun w hw K hK => ext3_b hK) ?_
  refine hld_of (fun w hw K hK => ext3_c hK) ?_
  have hb' : blk w.drew p E [slv v, .int .i64 (q : Nat)] := hb
  by_cases hq : q + 4 ≤ b.length
  · rw [takeS4_ok hq]
    (repeat (first | refine bin_neq ?_ | refine cond_F ?_))
    refine nilC_p ?_
    refine fA_place_1 ?_
    refine sto1 size_int hb' (by simp) rfl ?_
    intro w1 hb1 ho1
    refine conv_int Try.underlying113 Try.underlying106 ?_
    have hlt := beNat4 b q
    rw [u32_of hlt]
    refine h1 hq w1 ?_ (ho1.keep (w := w.drew) hb' (by simp) (Nat.le_refl _)).undrew
    have hb1 : blk w1 p E [slv v, .int .i64 ((q : Int) + 4)] := hb1
    rw [show ((q + 4 : Nat) : Int) = (q : Int) + 4 by omega]; exact hb1
  · have he := takeS4_err (l := b) (p := q) (by omega)
    refine bin_neq ?_
    refine cond_t he ?_
    exact h0 (by omega) _ ((Below.refl _ w).drew) hb'
end
end Go.Proofs.Ytjkmblbonambjaa
