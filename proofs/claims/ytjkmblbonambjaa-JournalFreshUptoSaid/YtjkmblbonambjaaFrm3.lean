/- Frames, on: Take and All of the program; the reference's functions. -/
import Derived.Test.YtjkmblbonambjaaFrm2
namespace Go.Proofs.Ytjkmblbonambjaa
set_option maxRecDepth 100000
open Go.RowKit

/-- P3.2: all records, and where they end. -/
def allB (b : List UInt8) : List (List UInt8) × Nat := allF b (b.length + 1) 0

theorem recF_some {b : List UInt8} {q : Nat} {s : List UInt8} {q2 : Nat} (h : recF b q = some (s, q2)) : q2 = q + 8 + s.length ∧ q2 ≤ b.length ∧ s.length ≤ 4096 ∧ s = (b.drop (q + 8)).take s.length ∧ s.length = beNat ((b.drop q).take 4) ∧ (crcS 0 (beBytes s.length 4 ++ s)).toNat = beNat ((b.drop (q + 4)).take 4) := by
  unfold recF at h
  split at h
  · rename_i hc
    obtain ⟨c1, c2, c3, c4⟩ := hc
    simp only [Option.some.injEq, Prod.mk.injEq] at h
    obtain ⟨rfl, rfl⟩ := h
    have hl : ((b.drop (q + 8)).take (beNat ((b.drop q).take 4))).length = beNat ((b.drop q).take 4) := by rw [List.length_take, List.length_drop]; omega
    rw [hl]
    exact ⟨rfl, by omega, c2, rfl, rfl, c4⟩
  · cases h

section
attribute [local irreducible] bin un conv call callV blt slc fldA fld idxA idx lkp mUpd mEnt eSt rng nxt ent ext alc box bld bldS ld sto nilC mkMap mkS ifc pick rdy wts gsel sti cond retM Gives cCode cGrp cSeq cOp

theorem OBB.keep {T : List TypeId} {B B2 : Nat} {w w' : World} {a : Option Addr} {n c : Nat} {vs : List (Option Addr × Nat × Nat)} {L : List (List UInt8)} (h : OBB w B2 a n c vs L) (hk : Keep T B w w') (h1 : 5 ∉ T) (h2 : 29 ∉ T) : OBB w' B2 a n c vs L := by
  refine ⟨⟨h.row.1, ?_⟩, h.len, fun i v l hv hl => (h.each i v l hv hl).keep hk h1⟩
  rcases h.row.2 with h3 | ⟨g, cap, cur, hv, hb, hh, r⟩
  · exact .inl h3
  · exact .inr ⟨g, cap, cur, hv, hb, hk.block _ _ hh (.inr fun cs E' z e => by cases e; exact h2), r⟩
theorem FR.keep {T : List TypeId} {B B2 p q : Nat} {w w' : World} {b : List UInt8} (h : FR w B2 p b q) (hk : Keep T B w w') (h1 : 5 ∉ T) (h2 : 104 ∉ T) : FR w' B2 p b q := by
  obtain ⟨v, hb, ho, r⟩ := h
  exact ⟨v, hk.blk hb (.inr h2), ho.keep hk h1, r⟩
theorem FR.below {B p q : Nat} {w w' : World} {b : List UInt8} (h : FR w B p b q) (hb : Below w.heap.size w w') : FR w' B p b q := h.keep (Keep.of hb : Keep [] 0 w w') (by simp) (by simp)


theorem obb_len {w : World} {B : Nat} {a : Option Addr} {n c : Nat} {vs : List (Option Addr × Nat × Nat)} {L : List (List UInt8)} (h : OBB w B a n c vs L) : L.length = n := h.rbb.lenL

set_option maxHeartbeats 1000000 in
theorem fall_c {a : Option Addr} {n c : Nat} {b : List UInt8} {w : World} {K : KV} (hr : RB w a n c b) (hn : n ≤ 4294967296)
    (h : ∀ a' n' c' vs w', OBB w' w.heap.size a' n' c' vs (allB b).1 → Below w.heap.size w w' → K (.tuple #[.slice a' n' c', .int .i64 (allB b).2]) w') :
    call Try.prog 44 #[.slice a n c] K w := by
  have hl := hr.len
  refine call_of frame_All_go (frame_All_in ?_)
  refine fnew_c hr hn ?_
  intro p w1 f1 b1
  refine frame_All_L1_r (Inv := fun x wr => ∃ (a' : Option Addr) (n' c' : Nat) (vs : List (Option Addr × Nat × Nat)) (L : List (List UInt8)) (f q : Nat), x = .slice a' n' c' ∧ OBB wr w.heap.size a' n' c' vs L ∧ FR wr w.heap.size p b q ∧ Below w.heap.size w wr ∧
      q ≤ b.length ∧ b.length < q + f ∧ 8 * L.length ≤ q ∧ allB b = (L ++ (allF b f q).1, (allF b f q).2)) (μ := fun x _ => match x with | .slice _ n' _ => 4294967297 - n' | _ => 0) ⟨none, 0, 0, [], [], b.length + 1, 0, rfl, OBB.nil _ _, f1, b1, by omega, by omega, by simp, by simp [allB]⟩ ?_
  rintro _ _ w2 m ⟨a2, n2, c2, vs, L, f, q, rfl, hL, hf, b2, hq, hfu, h8, hall⟩ hm
  obtain ⟨f', rfl⟩ : ∃ f', f = f' + 1 := ⟨f - 1, by omega⟩
  have hLl := obb_len hL
  refine fnext_c hf ?_ ?_
  · intro hrec w3 b3 f3
    have hall' : allB b = (L, q) := by rw [hall]; simp [allF, hrec]
    rw [hall'] at h
    (repeat (first | refine ext_a ?_ | refine ext_b ?_))
    refine un_not ?_
    (repeat (first | refine cond_T ?_))
    refine fat_c f3 ?_
    skip
    exact h _ _ _ _ _ (hL.below b3 (Nat.le_refl _)) (b2.trans (b3.mono b2.size))
  · intro s q2 hrec a3 n3 c3 w3 o3 f3 k3
    have hs := recF_some hrec
    have hpB : w.heap.size ≤ p := by obtain ⟨v, _, _, hB, _⟩ := hf; exact hB
    have L3 := hL.keep k3 (by decide) (by decide)
    have B3 : Below w.heap.size w w3 := b2.trans ((k3.mono (T' := [104]) (by simp) hpB).below b2.size)
    (repeat (first | refine ext_a ?_ | refine ext_b ?_))
    refine un_not ?_
    (repeat (first | refine cond_F ?_))
    refine bld36 (v := (a3, n3, c3)) ?_
    intro w4 b4 r4 s4
    have o4 : OB w4 w.heap.size a3 n3 c3 s := OB.below (OV.mono o3 b2.size) b4 (Nat.le_refl _)
    refine push36 (v := (a3, n3, c3)) w.heap.size (L3.below b4 (Nat.le_refl _)) r4 o4 (by omega) (by have := B3.size; omega) ?_
    intro a5 c5 w5 L5 g5
    have k5 : Keep [29] w.heap.size w4 w5 := Keep.grown g5 (L3.below b4 (Nat.le_refl _)).row (by simp) (Nat.le_refl _)
    refine ⟨⟨a5, n2 + 1, c5, _, L ++ [s], f', q2, rfl, L5, (f3.below b4).keep k5 (by decide) (by decide), (B3.trans (b4.mono B3.size)).trans (k5.below (by have := B3.size; omega)), by omega, by omega, by simp; omega, ?_⟩, ?_⟩
    · rw [hall]; simp [allF, hrec]
    · rw [hm]; show 4294967297 - (n2 + 1) < 4294967297 - n2; omega

/-! ## The reference -/

theorem putS4 (l : List UInt8) {x : Nat} (hx : x < 4294967296) : putS l x 4 = (l ++ beBytes x 4, 0) := by
  unfold putS; rw [if_neg (by decide), if_neg (by show ¬ 256 ^ 4 ≤ x; omega)]; rfl



end
end Go.Proofs.Ytjkmblbonambjaa
