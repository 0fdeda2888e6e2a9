/- Which blocks a call leaves as they were, with a guard: some blocks are never turned, whatever their number and type. -/
import Derived.Test.YtjkmblbonambjaaMem3
import Derived.Maps.AppendAt
namespace Go.Proofs.Ytjkmblbonambjaa
set_option maxRecDepth 100000
open Go.RowKit
/-- The blocks that are not turned. -/
class Guard where
  prot : Nat → Prop
/-- Of what was there nothing has turned, but in blocks from B on that are not guarded and whose elements are of a type of T. -/
structure Kg [G : Guard] (T : List TypeId) (B : Nat) (w w' : World) : Prop where
  os : w'.os = w.os
  tape : w'.tape = w.tape
  output : w'.output = w.output
  size : w.heap.size ≤ w'.heap.size
  block : ∀ (k : Nat) (o : Obj), w.heap[k]? = some o → ((k < B ∨ G.prot k) ∨ ∀ cs E z, o = .cells cs E z → E ∉ T) → w'.heap[k]? = some o
section
variable [G : Guard] {T : List TypeId} {B : Nat} {w w' : World}
theorem Kg.refl (T : List TypeId) (B : Nat) (w : World) : Kg T B w w := ⟨rfl, rfl, rfl, Nat.le_refl _, fun _ _ h _ => h⟩
theorem Kg.trans {a b c : World} (h : Kg T B a b) (k : Kg T B b c) : Kg T B a c :=
  ⟨k.os.trans h.os, k.tape.trans h.tape, k.output.trans h.output, Nat.le_trans h.size k.size, fun i o ho hk => k.block i o (h.block i o ho hk) hk⟩
theorem Kg.mono {T' : List TypeId} {B' : Nat} (h : Kg T B w w') (hT : ∀ t ∈ T, t ∈ T') (hB : B' ≤ B) : Kg T' B' w w' :=
  ⟨h.os, h.tape, h.output, h.size, fun k o ho hk => h.block k o ho (hk.elim (fun h => .inl (h.imp (fun h => Nat.lt_of_lt_of_le h hB) id)) (fun h => .inr fun cs E z e hm => h cs E z e (hT E hm)))⟩
theorem Kg.of (h : Below w.heap.size w w') : Kg T B w w' :=
  ⟨h.os, h.tape, h.output, h.size, fun k o ho _ => by rw [h.block k (Array.getElem?_eq_some_iff.1 ho).1]; exact ho⟩
theorem Kg.toKeep (h : Kg T B w w') : Keep T B w w' := ⟨h.os, h.tape, h.output, h.size, fun k o ho hk => h.block k o ho (hk.imp .inl id)⟩
theorem Kg.below (h : Kg T B w w') (hB : B ≤ w.heap.size) : Below B w w' := h.toKeep.below hB
theorem Kg.belowNone (h : Kg [] B w w') : Below w.heap.size w w' := h.toKeep.belowNone
theorem Kg.drew {a w : World} (h : Kg T B a w) : Kg T B a w.drew := ⟨h.os, h.tape, h.output, h.size, h.block⟩
theorem Kg.undrew {a w : World} (h : Kg T B a.drew w) : Kg T B a w := ⟨h.os, h.tape, h.output, h.size, h.block⟩
theorem Kg.blk {b : Nat} {E : TypeId} {cs : List Value} (h : Kg T B w w') (hb : blk w b E cs) (hE : b < B ∨ E ∉ T) : blk w' b E cs :=
  h.block _ _ hb (hE.imp .inl fun h cs E z e => by cases e; exact h)
theorem Kg.blkP {b : Nat} {E : TypeId} {cs : List Value} (h : Kg T B w w') (hb : Go.Proofs.Ytjkmblbonambjaa.blk w b E cs) (hp : G.prot b) : Go.Proofs.Ytjkmblbonambjaa.blk w' b E cs := h.block _ _ hb (.inl (.inr hp))
theorem Oth.kg {b : Nat} {E : TypeId} {cs : List Value} (h : Oth b w w') (hb : Go.Proofs.Ytjkmblbonambjaa.blk w b E cs) (hE : E ∈ T) (hB : B ≤ b) (hp : ¬ G.prot b) : Kg T B w w' :=
  ⟨h.os, h.tape, h.output, by rw [h.size]; exact Nat.le_refl _, fun k o ho hk => by
    have : k ≠ b := by
      rintro rfl
      rcases hk with (hk | hk) | hk
      · omega
      · exact hp hk
      · unfold Go.Proofs.Ytjkmblbonambjaa.blk at hb
        rw [hb] at ho
        cases ho
        exact hk _ _ _ rfl hE
    rw [h.other k this]; exact ho⟩
theorem Kg.grown {B2 : Nat} {E : TypeId} {a : Option Addr} {n c : Nat} {xs : List Value} {s : Nat} (hg : w.grownBy w' (Value.slice a n c).ownBlock) (ho : w.ownsRow B2 E s (.slice a n c) n xs) (hE : E ∈ T) (hB : B ≤ B2) (hp : ∀ ad, a = some ad → ¬ G.prot ad.block) : Kg T B w w' :=
  ⟨hg.os, hg.tape, hg.output, hg.size, fun k o hk h => by
    have hlt : k < w.heap.size := (Array.getElem?_eq_some_iff.1 hk).1
    rw [hg.block k hlt ?_]; exact hk
    rcases ho.2 with ⟨hv, _⟩ | ⟨g, cap, cur, hv, hb, hh, _⟩
    · cases hv; simp [Value.ownBlock]
    · cases hv
      simp only [Value.ownBlock, ne_eq, Option.some.injEq]
      rintro rfl
      rcases h with (h | h) | h
      · omega
      · exact hp _ rfl h
      · rw [hh] at hk; cases hk; exact h _ _ _ rfl hE⟩
theorem ownsRow_kg {B2 : Nat} {E : TypeId} {s : Nat} {v : Value} {n : Nat} {xs : List Value} (h : w.ownsRow B2 E s v n xs) (hk : Kg T B w w') (hE : E ∉ T) : w'.ownsRow B2 E s v n xs := ownsRow_keep h hk.toKeep hE
end
section
variable {P : Program} {w w' : World} {K : KV} {t : TypeId}
theorem app_at {e ty : TypeId} {cs : Array Bool} {base : Nat} {i : TypeInfo} {z : Value} {bytes s : Nat} (ht : P.underlying t = some (.slice e)) (hi : P.info? e = some i) (hz : i.zero = some z)
    (hsize : i.size = s) (hby : i.bytes = bytes) (hzs : z.cells.size = s) (hs0 : 0 < s)
    {av : Option Addr} {n c : Nat} {xs : List Value} (hown : w.ownsRow base e s (.slice av n c) n xs) {g : Nat} {m c2 : Nat} {ys : List Value} (hy : blk w g e ys) (hyl : ys.length = m * s) (h1 : ∀ u ∈ ys, u.oneCell' = true)
    (hbytes : (n + m) * bytes ≤ 140737488355328) (h63 : n + m ≤ 9223372036854775807) (hbase : base ≤ w.heap.size)
    (h : ∀ a' c' w', w'.ownsRow base e s (.slice a' (n + m) c') (n + m) (xs ++ ys) → w.grownBy w' (Value.slice av n c).ownBlock → ((Value.slice a' (n + m) c').ownBlock = (Value.slice av n c).ownBlock ∨ (Value.slice a' (n + m) c').ownBlock = some w.heap.size) → K (.slice a' (n + m) c') w') :
    blt P .append #[t, t] ty cs #[.slice av n c, .slice (some ⟨g, 0, none⟩) m c2] K w := by
  have hn : ∀ j u, ys[j]? = some u → w.cell? ((⟨g, 0, none⟩ : Addr).add j) = some u := by
    intro j u hj
    rw [add_p, hy.cell, Nat.zero_add]
    exact hj
  obtain ⟨v', w', hr, h2, h3, _, h5⟩ := run_append_own_at (P := P) w base t ty e i z s bytes ht hi hz hsize hby hzs hs0 _ n xs hown ⟨g, 0, none⟩ m c2 ys hyl hn h1 (by simp only [maxLen]; omega) hbytes hbase
  obtain ⟨a', c', rfl⟩ : ∃ a' c', v' = .slice a' (n + m) c' := by
    rcases h2.2 with ⟨hv, hn⟩ | ⟨g, cap, cur, hv, _⟩
    · exact ⟨none, 0, by rw [hv, hn]⟩
    · exact ⟨_, cap, hv⟩
  exact blt_of (by rw [BigFrame.builtin_append]; simp only [Sem.run_bind, hr, Result.andThen_ok, Sem.run_pure]) (h a' c' w' h2 h3 h5)
end
end Go.Proofs.Ytjkmblbonambjaa
