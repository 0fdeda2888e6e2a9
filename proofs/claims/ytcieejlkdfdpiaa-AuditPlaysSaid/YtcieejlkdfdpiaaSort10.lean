/- slices.Sort of numbers, whole: distinct ones, fewer than 256. -/
import Derived.Test.YtcieejlkdfdpiaaSort9
namespace Go.Proofs.Ytcieejlkdfdpiaa
set_option maxRecDepth 100000
open Go.RowKit
theorem G_ne {xs : List Int} (hn : xs.Nodup) {i k : Nat} (hi : i < xs.length) (hk : k < xs.length) (h : i ≠ k) : G xs i ≠ G xs k := by
  have e1 : G xs i = xs[i] := by simp [G, List.getD, hi]
  have e2 : G xs k = xs[k] := by simp [G, List.getD, hk]
  rw [e1, e2]
  have hp := List.pairwise_iff_getElem.1 hn
  rcases Nat.lt_or_ge i k with h1 | h1
  · exact hp i k hi hk h1
  · exact fun e => hp k i hk hi (by omega) e.symm
theorem Srt.join {ys : List Int} {a b m : Nat} (h1 : Srt ys a m) (h2 : Srt ys (m + 1) b) (lo : ∀ k, a ≤ k → k < m → G ys k ≤ G ys m) (up : ∀ k, m < k → k < b → G ys m ≤ G ys k) : Srt ys a b := by
  intro i hi hb
  by_cases e1 : i + 1 < m
  · exact h1 i hi e1
  by_cases e2 : i + 1 = m
  · rw [e2]; exact lo i hi (by omega)
  by_cases e3 : i = m
  · rw [e3]; exact up (m + 1) (by omega) (by omega)
  · exact h2 i (by omega) hb
/-- What is left to be done is to sort from a2 to b2. -/
structure NX (a b : Nat) (z : List Int) (a2 b2 : Nat) (z2 : List Int) : Prop where
  le : a2 ≤ b2
  ha : a ≤ a2
  hb : b2 ≤ b
  lt : b2 - a2 < b - a
  rng : Rng a b z z2
  low : Low a2 b2 z2
  fin : ∀ ys, Rng a2 b2 z2 ys → Srt ys a2 b2 → Rng a b z ys ∧ Srt ys a b
section
variable {a b m : Nat} {z z2 z3 : List Int}
theorem PR.lowL (q : PR z2 a b m) (hl : Low a b z2) : Low a m z2 := fun i k h1 h2 h3 => hl i k h1 h2 (by have := q.hm; omega)
theorem PR.lowR (q : PR z2 a b m) (hl : Low a b z2) (hn : z2.Nodup) (hb : b ≤ z2.length) : Low (m + 1) b z2 := by
  intro i k h1 h2 h3
  have hm := q.hm
  by_cases e1 : i < a
  · exact hl i k e1 (by omega) h3
  have hu := q.up k (by omega) h3
  by_cases e2 : i = m
  · subst e2
    have := G_ne hn (i := i) (k := k) (by omega) (by omega) (by omega)
    omega
  · have := q.lo i (by omega) (by omega)
    omega
theorem nx_left (r : Rng a b z z2) (q : PR z2 a b m) (hl : Low a b z) (hn : z.Nodup) (hb : b ≤ z.length) (r3 : Rng a m z2 z3) (s3 : Srt z3 a m) : NX a b z (m + 1) b z3 := by
  have hm := q.hm
  have hn2 : z2.Nodup := r.perm.nodup_iff.2 hn
  have hl2 := r.len
  have hl3 := r3.len
  have hn3 : z3.Nodup := r3.perm.nodup_iff.2 hn2
  have lo3 : ∀ k, a ≤ k → k < m → G z3 k < G z2 m := by
    intro k h1 h2
    obtain ⟨j, j1, j2, j3⟩ := r3.from (by omega) hn2 k h1 h2
    rw [j3]; exact q.lo j j1 j2
  have em : G z3 m = G z2 m := r3.out m (by omega)
  have low2 := hl.rng r hb hn
  have low3 := low2.rng (r3.mono (c := a) (d := b) (by omega) (by omega)) (by omega) hn2
  refine ⟨by omega, by omega, by omega, by omega, r.trans (r3.mono (by omega) (by omega)), ?_, fun ys ry sy => ⟨(r.trans (r3.mono (by omega) (by omega))).trans (ry.mono (by omega) (by omega)), Srt.join (m := m) ?_ sy ?_ ?_⟩⟩
  · refine PR.lowR ⟨hm, fun k h1 h2 => by rw [em]; exact lo3 k h1 h2, fun k h1 h2 => ?_⟩ low3 hn3 (by omega)
    rw [em, r3.out k (by omega)]; exact q.up k h1 h2
  · intro i h1 h2
    rw [ry.out i (by omega), ry.out (i + 1) (by omega)]; exact s3 i h1 h2
  · intro k h1 h2
    rw [ry.out k (by omega), ry.out m (by omega), em]
    have := lo3 k h1 h2; omega
  · intro k h1 h2
    obtain ⟨j, j1, j2, j3⟩ := ry.from (by omega) hn3 k (by omega) h2
    rw [ry.out m (by omega), em, j3, r3.out j (by omega)]
    exact q.up j (by omega) j2
theorem nx_right (r : Rng a b z z2) (q : PR z2 a b m) (hl : Low a b z) (hn : z.Nodup) (hb : b ≤ z.length) (r3 : Rng (m + 1) b z2 z3) (s3 : Srt z3 (m + 1) b) : NX a b z a m z3 := by
  have hm := q.hm
  have hn2 : z2.Nodup := r.perm.nodup_iff.2 hn
  have hl2 := r.len
  have hl3 := r3.len
  have hn3 : z3.Nodup := r3.perm.nodup_iff.2 hn2
  have em : G z3 m = G z2 m := r3.out m (by omega)
  have low2 := hl.rng r hb hn
  have low3 := low2.rng (r3.mono (c := a) (d := b) (by omega) (by omega)) (by omega) hn2
  refine ⟨by omega, by omega, by omega, by omega, r.trans (r3.mono (by omega) (by omega)), fun i k h1 h2 h3 => low3 i k h1 h2 (by omega), fun ys ry sy => ⟨(r.trans (r3.mono (by omega) (by omega))).trans (ry.mono (by omega) (by omega)), Srt.join (m := m) sy ?_ ?_ ?_⟩⟩
  · intro i h1 h2
    rw [ry.out i (by omega), ry.out (i + 1) (by omega)]; exact s3 i h1 h2
  · intro k h1 h2
    obtain ⟨j, j1, j2, j3⟩ := ry.from (by omega) hn3 k h1 h2
    rw [ry.out m (by omega), em, j3, r3.out j (by omega)]
    have := q.lo j j1 j2; omega
  · intro k h1 h2
    rw [ry.out k (by omega), ry.out m (by omega), em]
    obtain ⟨j, j1, j2, j3⟩ := r3.from (by omega) hn2 k (by omega) h2
    rw [j3]
    exact q.up j (by omega) j2
end
attribute [local irreducible] bin un conv call callV blt slc fldA fld idxA idx lkp mUpd mEnt eSt rng nxt ent ext alc box bld bldS ld sto nilC mkMap mkS ifc pick rdy wts gsel sti cond retM Gives cCode cGrp cSeq cOp
/-- That shorter ranges are sorted. -/
def RecH (d g n c : Nat) : Prop := ∀ {a b : Nat} {lm : Int} {z : List Int} {w : World} {K : KV}, b - a < d → SD w g n c z → a ≤ b → b ≤ n → z.Nodup → Low a b z → (∀ w' ys, SD w' g n c ys → Ots g w w' → Rng a b z ys → Srt ys a b → K (.tuple #[]) w') →
  call Try.prog 24 #[.slice (some ⟨g, 0, none⟩) n c, .int .i64 (a : Nat), .int .i64 (b : Nat), .int .i64 lm] K w
/-- The loop goes on. -/
def GoOn (g n c : Nat) (w0 : World) (a b : Nat) (z : List Int) (B1 : List Value → World → Prop) : Prop := ∀ (e : List Value) (w' : World) (a2 b2 : Nat) (lm : Int) (wb wp : Bool) (z2 : List Int),
  gd e 1 = .int .i64 (a2 : Nat) → gd e 2 = .int .i64 (b2 : Nat) → gd e 3 = .int .i64 lm → gd e 8 = .bool wb → gd e 9 = .bool wp → SD w' g n c z2 → Ots g w0 w' → NX a b z a2 b2 z2 → B1 e w'
section
variable {w w0 w' : World} {K : KV} {g n c : Nat} {xs z : List Int}
set_option maxHeartbeats 1000000 in
theorem pdq3_c {a b p : Nat} {lm : Int} {wb wp : Bool} {B1 : List Value → World → Prop} {data0 a1 b2 limit3 data4 a5 b6 limit7 wasBalanced8 wasPartitioned9 length10 pivot11 hint12 mid13 mid14 alreadyPartitioned15 leftLen16 rightLen17 balanceThreshold18 t19 t20 t21 t22 t23 t24 t25 t26 t27 t28 t29 t30 t31 t32 t33 t34 t35 t36 t37 t38 t39 t40 t41 t42 t43 t44 t45 t46 t47 t48 t49 t50 t51 t52 t53 t54 t55 t56 t57 t58 t59 t60 t61 t62 t63 t64 t65 t66 t67 t68 t69 t70 t71 t72 t73 t74 t75 t76 t77 t78 t79 t80 t81 t82 t83 t84 t85 t86 t87 t88 t89 t90 t91 t92 t93 t94 t95 t96 t97 t98 t99 t100 t101 t102 t103 t104 t105 t106 t107 t108 t109 t110 t111 t112 t113 t114 t115 t116 t117 t118 t119 t120 t121 t122 t123 t124 t125 t126 t127 t128 t129 t130 t131 t132 t133 : Value} (e0 : data0 = .slice (some ⟨g, 0, none⟩) n c) (e1 : a1 = .int .i64 (a : Nat)) (e2 : b2 = .int .i64 (b : Nat)) (e3 : limit3 = .int .i64 lm) (e8 : wasBalanced8 = .bool wb) (e9 : wasPartitioned9 = .bool wp)
    (e10 : length10 = .int .i64 ((b - a : Nat) : Int)) (e11 : pivot11 = .int .i64 (p : Nat))
    (hd : SD w g n c z) (ho : Ots g w0 w) (hr : Rng a b xs z) (hap : a ≤ p) (hpb : p < b) (hb : b ≤ n) (hlow : Low a b xs) (hn : xs.Nodup) (hrec : RecH (b - a) g n c) (hB : GoOn g n c w0 a b xs B1) :
    slices_pdqsortOrdered_uint64_P3 K B1 ((data0 :: a1 :: b2 :: limit3 :: data4 :: a5 :: b6 :: limit7 :: wasBalanced8 :: wasPartitioned9 :: length10 :: pivot11 :: hint12 :: mid13 :: mid14 :: alreadyPartitioned15 :: leftLen16 :: rightLen17 :: balanceThreshold18 :: t19 :: t20 :: t21 :: t22 :: t23 :: t24 :: t25 :: t26 :: t27 :: t28 :: t29 :: t30 :: t31 :: t32 :: t33 :: t34 :: t35 :: t36 :: t37 :: t38 :: t39 :: t40 :: t41 :: t42 :: t43 :: t44 :: t45 :: t46 :: t47 :: t48 :: t49 :: t50 :: t51 :: t52 :: t53 :: t54 :: t55 :: t56 :: t57 :: t58 :: t59 :: t60 :: t61 :: t62 :: t63 :: t64 :: t65 :: t66 :: t67 :: t68 :: t69 :: t70 :: t71 :: t72 :: t73 :: t74 :: t75 :: t76 :: t77 :: t78 :: t79 :: t80 :: t81 :: t82 :: t83 :: t84 :: t85 :: t86 :: t87 :: t88 :: t89 :: t90 :: t91 :: t92 :: t93 :: t94 :: t95 :: t96 :: t97 :: t98 :: t99 :: t100 :: t101 :: t102 :: t103 :: t104 :: t105 :: t106 :: t107 :: t108 :: t109 :: t110 :: t111 :: t112 :: t113 :: t114 :: t115 :: t116 :: t117 :: t118 :: t119 :: t120 :: t121 :: t122 :: t123 :: t124 :: t125 :: t126 :: t127 :: t128 :: t129 :: t130 :: t131 :: t132 :: t133 :: [])) w := by
  subst e0 e1 e2 e3 e8 e9 e10 e11
  have hm : n ≤ 4611686018427387904 := by obtain ⟨_, _, _, _, hm⟩ := hd; exact hm
  have lz := hd.len
  have hlx := hr.len
  have lowz := hlow.rng hr (by omega) hn
  refine slices_pdqsortOrdered_uint64_P3_r ?_
  refine sti_of (fun K hK => bin_gtr hK) ?_
  have rest : ∀ {w2 : World} {K2 : KV}, SD w2 g n c z → (∀ w' ys m f, SD w' g n c ys → Oth g w2 w' → Rng a b xs ys → PR ys a b m → K2 (.tuple #[.int .i64 (m : Nat), .bool f]) w') →
      call Try.prog 34 #[.slice (some ⟨g, 0, none⟩) n c, .int .i64 (a : Nat), .int .i64 (b : Nat), .int .i64 (p : Nat)] K2 w2 := by
    intro w2 K2 d2 h2
    exact part_c d2 hap hpb hb (fun w' ys m f h3 h4 h5 h6 => h2 w' ys m f h3 h4 (hr.trans h5) h6)
  have last : ∀ {m : Nat} {f : Bool} {ys : List Int} {w3 : World} {data0 a1 b2 limit3 data4 a5 b6 limit7 wasBalanced8 wasPartitioned9 length10 pivot11 hint12 mid13 mid14 alreadyPartitioned15 leftLen16 rightLen17 balanceThreshold18 t19 t20 t21 t22 t23 t24 t25 t26 t27 t28 t29 t30 t31 t32 t33 t34 t35 t36 t37 t38 t39 t40 t41 t42 t43 t44 t45 t46 t47 t48 t49 t50 t51 t52 t53 t54 t55 t56 t57 t58 t59 t60 t61 t62 t63 t64 t65 t66 t67 t68 t69 t70 t71 t72 t73 t74 t75 t76 t77 t78 t79 t80 t81 t82 t83 t84 t85 t86 t87 t88 t89 t90 t91 t92 t93 t94 t95 t96 t97 t98 t99 t100 t101 t102 t103 t104 t105 t106 t107 t108 t109 t110 t111 t112 t113 t114 t115 t116 t117 t118 t119 t120 t121 t122 t123 t124 t125 t126 t127 t128 t129 t130 t131 t132 t133 : Value}, data0 = .slice (some ⟨g, 0, none⟩) n c → a1 = .int .i64 (a : Nat) → b2 = .int .i64 (b : Nat) → limit3 = .int .i64 lm → alreadyPartitioned15 = .bool f →
      length10 = .int .i64 ((b - a : Nat) : Int) → mid14 = .int .i64 (m : Nat) → SD w3 g n c ys → Ots g w0 w3 → Rng a b xs ys → PR ys a b m → slices_pdqsortOrdered_uint64_A4 K B1 ((data0 :: a1 :: b2 :: limit3 :: data4 :: a5 :: b6 :: limit7 :: wasBalanced8 :: wasPartitioned9 :: length10 :: pivot11 :: hint12 :: mid13 :: mid14 :: alreadyPartitioned15 :: leftLen16 :: rightLen17 :: balanceThreshold18 :: t19 :: t20 :: t21 :: t22 :: t23 :: t24 :: t25 :: t26 :: t27 :: t28 :: t29 :: t30 :: t31 :: t32 :: t33 :: t34 :: t35 :: t36 :: t37 :: t38 :: t39 :: t40 :: t41 :: t42 :: t43 :: t44 :: t45 :: t46 :: t47 :: t48 :: t49 :: t50 :: t51 :: t52 :: t53 :: t54 :: t55 :: t56 :: t57 :: t58 :: t59 :: t60 :: t61 :: t62 :: t63 :: t64 :: t65 :: t66 :: t67 :: t68 :: t69 :: t70 :: t71 :: t72 :: t73 :: t74 :: t75 :: t76 :: t77 :: t78 :: t79 :: t80 :: t81 :: t82 :: t83 :: t84 :: t85 :: t86 :: t87 :: t88 :: t89 :: t90 :: t91 :: t92 :: t93 :: t94 :: t95 :: t96 :: t97 :: t98 :: t99 :: t100 :: t101 :: t102 :: t103 :: t104 :: t105 :: t106 :: t107 :: t108 :: t109 :: t110 :: t111 :: t112 :: t113 :: t114 :: t115 :: t116 :: t117 :: t118 :: t119 :: t120 :: t121 :: t122 :: t123 :: t124 :: t125 :: t126 :: t127 :: t128 :: t129 :: t130 :: t131 :: t132 :: t133 :: [])) w3 := by
    intro m f ys w3
    intros
    rename_i e0 e1 e2 e3 e9 e10 e14 d3 o3 r3 q3
    subst e0 e1 e2 e3 e9 e10 e14
    have hmm := q3.hm
    have hny : ys.Nodup := r3.perm.nodup_iff.2 hn
    have lowy := hlow.rng r3 (by omega) hn
    have ly := d3.len
    refine slices_pdqsortOrdered_uint64_A4_r ?_
    refine sub64 (by omega) (by omega) ?_
    refine sub64 (by omega) (by omega) ?_
    refine quo64 (by omega) (by omega) (by omega) ?_
    refine bin_lss ?_
    refine cond_p (fun _ => ?_) (fun _ => ?_)
    · refine bin_geq ?_
      refine hrec (by omega) d3 hmm.1 (by omega) hny (q3.lowL lowy) ?_
      intro w4 y4 d4 o4 r4 s4
      refine add64 (by omega) (by omega) ?_
      exact hB _ _ (m + 1) b lm _ f y4 rfl rfl rfl rfl rfl d4 (o3.trans o4) (nx_left r3 q3 hlow hn (by omega) r4 s4)
    · refine bin_geq ?_
      refine add64 (by omega) (by omega) ?_
      rw [cadd1]
      refine hrec (by omega) d3 (by omega) (by omega) hny (q3.lowR lowy hny (by omega)) ?_
      intro w4 y4 d4 o4 r4 s4
      exact hB _ _ a m lm _ f y4 rfl rfl rfl rfl rfl d4 (o3.trans o4) (nx_right r3 q3 hlow hn (by omega) r4 s4)
  by_cases ha : 0 < a
  · refine gsel_pt (by omega) ?_
    refine sti_of (fun K hK => sub64 (by omega) (by omega) hK) ?_
    rw [csub1 ha]
    refine sti_of (fun K hK => idxS (by omega) hK) ?_
    refine sti_of (fun K hK => ldS hd.drew (by omega) hK) ?_
    refine sti_of (fun K hK => idxS (by omega) hK) ?_
    refine sti_of (fun K hK => ldS hd.drew (by omega) hK) ?_
    refine sti_of (fun K hK => less_c hK) ?_
    refine sti_of (fun K hK => un_notD hK) ?_
    refine sti_of (fun K hK => pick_t (by omega) hK) ?_
    have hlt := lowz (a - 1) p (by omega) hap hpb
    refine cond_f (by omega) ?_
    refine rest hd.drew ?_
    intro w3 ys m f d3 o3 r3 q3
    refine ext_a ?_
    refine ext_b ?_
    exact last rfl rfl rfl rfl rfl rfl rfl d3 (ho.drew.trans (Ots.of_oth o3)) r3 q3
  · refine gsel_pf (by omega) ?_
    refine sti_of (fun K hK => pick_f (by omega) hK) ?_
    refine cond_F ?_
    refine rest hd.drew ?_
    intro w3 ys m f d3 o3 r3 q3
    refine ext_a ?_
    refine ext_b ?_
    exact last rfl rfl rfl rfl rfl rfl rfl d3 (ho.drew.trans (Ots.of_oth o3)) r3 q3

set_option maxHeartbeats 1000000 in
theorem pdq2_c {a b p : Nat} {lm hnt : Int} {wb wp : Bool} {B1 : List Value → World → Prop} {data0 a1 b2 limit3 data4 a5 b6 limit7 wasBalanced8 wasPartitioned9 length10 pivot11 hint12 mid13 mid14 alreadyPartitioned15 leftLen16 rightLen17 balanceThreshold18 t19 t20 t21 t22 t23 t24 t25 t26 t27 t28 t29 t30 t31 t32 t33 t34 t35 t36 t37 t38 t39 t40 t41 t42 t43 t44 t45 t46 t47 t48 t49 t50 t51 t52 t53 t54 t55 t56 t57 t58 t59 t60 t61 t62 t63 t64 t65 t66 t67 t68 t69 t70 t71 t72 t73 t74 t75 t76 t77 t78 t79 t80 t81 t82 t83 t84 t85 t86 t87 t88 t89 t90 t91 t92 t93 t94 t95 t96 t97 t98 t99 t100 t101 t102 t103 t104 t105 t106 t107 t108 t109 t110 t111 t112 t113 t114 t115 t116 t117 t118 t119 t120 t121 t122 t123 t124 t125 t126 t127 t128 t129 t130 t131 t132 t133 : Value} (e0 : data0 = .slice (some ⟨g, 0, none⟩) n c) (e1 : a1 = .int .i64 (a : Nat)) (e2 : b2 = .int .i64 (b : Nat)) (e3 : limit3 = .int .i64 lm) (e8 : wasBalanced8 = .bool wb) (e9 : wasPartitioned9 = .bool wp)
    (e10 : length10 = .int .i64 ((b - a : Nat) : Int)) (e11 : pivot11 = .int .i64 (p : Nat)) (e12 : hint12 = .int .i64 hnt)
    (hd : SD w g n c z) (ho : Ots g w0 w) (hr : Rng a b xs z) (hap : a ≤ p) (hpb : p < b) (hb : b ≤ n) (hlow : Low a b xs) (hn : xs.Nodup) (hrec : RecH (b - a) g n c) (hB : GoOn g n c w0 a b xs B1)
    (hF : ∀ w' ys, SD w' g n c ys → Ots g w0 w' → Rng a b xs ys → Srt ys a b → K (.tuple #[]) w') :
    slices_pdqsortOrdered_uint64_P2 K B1 ((data0 :: a1 :: b2 :: limit3 :: data4 :: a5 :: b6 :: limit7 :: wasBalanced8 :: wasPartitioned9 :: length10 :: pivot11 :: hint12 :: mid13 :: mid14 :: alreadyPartitioned15 :: leftLen16 :: rightLen17 :: balanceThreshold18 :: t19 :: t20 :: t21 :: t22 :: t23 :: t24 :: t25 :: t26 :: t27 :: t28 :: t29 :: t30 :: t31 :: t32 :: t33 :: t34 :: t35 :: t36 :: t37 :: t38 :: t39 :: t40 :: t41 :: t42 :: t43 :: t44 :: t45 :: t46 :: t47 :: t48 :: t49 :: t50 :: t51 :: t52 :: t53 :: t54 :: t55 :: t56 :: t57 :: t58 :: t59 :: t60 :: t61 :: t62 :: t63 :: t64 :: t65 :: t66 :: t67 :: t68 :: t69 :: t70 :: t71 :: t72 :: t73 :: t74 :: t75 :: t76 :: t77 :: t78 :: t79 :: t80 :: t81 :: t82 :: t83 :: t84 :: t85 :: t86 :: t87 :: t88 :: t89 :: t90 :: t91 :: t92 :: t93 :: t94 :: t95 :: t96 :: t97 :: t98 :: t99 :: t100 :: t101 :: t102 :: t103 :: t104 :: t105 :: t106 :: t107 :: t108 :: t109 :: t110 :: t111 :: t112 :: t113 :: t114 :: t115 :: t116 :: t117 :: t118 :: t119 :: t120 :: t121 :: t122 :: t123 :: t124 :: t125 :: t126 :: t127 :: t128 :: t129 :: t130 :: t131 :: t132 :: t133 :: [])) w := by
  subst e0 e1 e2 e3 e8 e9 e10 e11 e12
  have lz := hd.len
  have hlx := hr.len
  have lowz := hlow.rng hr (by omega) hn
  have hnz : z.Nodup := hr.perm.nodup_iff.2 hn
  have a3 : ∀ {t : Bool} {data0 a1 b2 limit3 data4 a5 b6 limit7 wasBalanced8 wasPartitioned9 length10 pivot11 hint12 mid13 mid14 alreadyPartitioned15 leftLen16 rightLen17 balanceThreshold18 t19 t20 t21 t22 t23 t24 t25 t26 t27 t28 t29 t30 t31 t32 t33 t34 t35 t36 t37 t38 t39 t40 t41 t42 t43 t44 t45 t46 t47 t48 t49 t50 t51 t52 t53 t54 t55 t56 t57 t58 t59 t60 t61 t62 t63 t64 t65 t66 t67 t68 t69 t70 t71 t72 t73 t74 t75 t76 t77 t78 t79 t80 t81 t82 t83 t84 t85 t86 t87 t88 t89 t90 t91 t92 t93 t94 t95 t96 t97 t98 t99 t100 t101 t102 t103 t104 t105 t106 t107 t108 t109 t110 t111 t112 t113 t114 t115 t116 t117 t118 t119 t120 t121 t122 t123 t124 t125 t126 t127 t128 t129 t130 t131 t132 t133 : Value}, data0 = .slice (some ⟨g, 0, none⟩) n c → a1 = .int .i64 (a : Nat) → b2 = .int .i64 (b : Nat) → limit3 = .int .i64 lm → wasBalanced8 = .bool wb → wasPartitioned9 = .bool wp →
      length10 = .int .i64 ((b - a : Nat) : Int) → pivot11 = .int .i64 (p : Nat) → t68 = .bool t → slices_pdqsortOrdered_uint64_A3 K B1 ((data0 :: a1 :: b2 :: limit3 :: data4 :: a5 :: b6 :: limit7 :: wasBalanced8 :: wasPartitioned9 :: length10 :: pivot11 :: hint12 :: mid13 :: mid14 :: alreadyPartitioned15 :: leftLen16 :: rightLen17 :: balanceThreshold18 :: t19 :: t20 :: t21 :: t22 :: t23 :: t24 :: t25 :: t26 :: t27 :: t28 :: t29 :: t30 :: t31 :: t32 :: t33 :: t34 :: t35 :: t36 :: t37 :: t38 :: t39 :: t40 :: t41 :: t42 :: t43 :: t44 :: t45 :: t46 :: t47 :: t48 :: t49 :: t50 :: t51 :: t52 :: t53 :: t54 :: t55 :: t56 :: t57 :: t58 :: t59 :: t60 :: t61 :: t62 :: t63 :: t64 :: t65 :: t66 :: t67 :: t68 :: t69 :: t70 :: t71 :: t72 :: t73 :: t74 :: t75 :: t76 :: t77 :: t78 :: t79 :: t80 :: t81 :: t82 :: t83 :: t84 :: t85 :: t86 :: t87 :: t88 :: t89 :: t90 :: t91 :: t92 :: t93 :: t94 :: t95 :: t96 :: t97 :: t98 :: t99 :: t100 :: t101 :: t102 :: t103 :: t104 :: t105 :: t106 :: t107 :: t108 :: t109 :: t110 :: t111 :: t112 :: t113 :: t114 :: t115 :: t116 :: t117 :: t118 :: t119 :: t120 :: t121 :: t122 :: t123 :: t124 :: t125 :: t126 :: t127 :: t128 :: t129 :: t130 :: t131 :: t132 :: t133 :: [])) w := by
    intro t
    intros
    rename_i e0 e1 e2 e3 e8 e9 e10 e11 e68
    subst e0 e1 e2 e3 e8 e9 e10 e11 e68
    refine slices_pdqsortOrdered_uint64_A3_r ?_
    cases t
    · refine cond_F ?_
      exact pdq3_c rfl rfl rfl rfl rfl rfl rfl rfl hd ho hr hap hpb hb hlow hn hrec hB
    · refine cond_T ?_
      refine pis_c hd (by omega) hb lowz hnz ?_
      intro w2 ys f d2 o2 r2 s2
      cases f
      · refine cond_F ?_
        exact pdq3_c rfl rfl rfl rfl rfl rfl rfl rfl d2 (ho.trans (Ots.of_oth o2)) (hr.trans r2) hap hpb hb hlow hn hrec hB
      · refine cond_T ?_
        exact hF _ ys d2 (ho.trans (Ots.of_oth o2)) (hr.trans r2) (s2 rfl)
  refine slices_pdqsortOrdered_uint64_P2_r ?_
  cases wb
  · refine gsel_F ?_
    refine pick_F ?_
    refine gsel_F ?_
    refine pick_F ?_
    exact a3 rfl rfl rfl rfl rfl rfl rfl rfl rfl
  · refine gsel_T ?_
    refine pick_T ?_
    cases wp
    · refine gsel_F ?_
      refine pick_F ?_
      exact a3 rfl rfl rfl rfl rfl rfl rfl rfl rfl
    · refine gsel_T ?_
      refine bin_eql ?_
      refine pick_T ?_
      exact a3 rfl rfl rfl rfl rfl rfl rfl rfl rfl

set_option maxHeartbeats 1000000 in
theorem pdq1_go {a b : Nat} {lm : Int} {wb wp : Bool} {B1 : List Value → World → Prop} {data0 a1 b2 limit3 data4 a5 b6 limit7 wasBalanced8 wasPartitioned9 length10 pivot11 hint12 mid13 mid14 alreadyPartitioned15 leftLen16 rightLen17 balanceThreshold18 t19 t20 t21 t22 t23 t24 t25 t26 t27 t28 t29 t30 t31 t32 t33 t34 t35 t36 t37 t38 t39 t40 t41 t42 t43 t44 t45 t46 t47 t48 t49 t50 t51 t52 t53 t54 t55 t56 t57 t58 t59 t60 t61 t62 t63 t64 t65 t66 t67 t68 t69 t70 t71 t72 t73 t74 t75 t76 t77 t78 t79 t80 t81 t82 t83 t84 t85 t86 t87 t88 t89 t90 t91 t92 t93 t94 t95 t96 t97 t98 t99 t100 t101 t102 t103 t104 t105 t106 t107 t108 t109 t110 t111 t112 t113 t114 t115 t116 t117 t118 t119 t120 t121 t122 t123 t124 t125 t126 t127 t128 t129 t130 t131 t132 t133 : Value} (e0 : data0 = .slice (some ⟨g, 0, none⟩) n c) (e1 : a1 = .int .i64 (a : Nat)) (e2 : b2 = .int .i64 (b : Nat)) (e3 : limit3 = .int .i64 lm) (e8 : wasBalanced8 = .bool wb) (e9 : wasPartitioned9 = .bool wp)
    (e10 : length10 = .int .i64 ((b - a : Nat) : Int))
    (hd : SD w g n c z) (ho : Ots g w0 w) (hr : Rng a b xs z) (hab : a + 12 < b) (hb : b ≤ n) (hn8 : n < 256) (hlow : Low a b xs) (hn : xs.Nodup) (hrec : RecH (b - a) g n c) (hB : GoOn g n c w0 a b xs B1)
    (hF : ∀ w' ys, SD w' g n c ys → Ots g w0 w' → Rng a b xs ys → Srt ys a b → K (.tuple #[]) w') :
    slices_pdqsortOrdered_uint64_P1 K B1 ((data0 :: a1 :: b2 :: limit3 :: data4 :: a5 :: b6 :: limit7 :: wasBalanced8 :: wasPartitioned9 :: length10 :: pivot11 :: hint12 :: mid13 :: mid14 :: alreadyPartitioned15 :: leftLen16 :: rightLen17 :: balanceThreshold18 :: t19 :: t20 :: t21 :: t22 :: t23 :: t24 :: t25 :: t26 :: t27 :: t28 :: t29 :: t30 :: t31 :: t32 :: t33 :: t34 :: t35 :: t36 :: t37 :: t38 :: t39 :: t40 :: t41 :: t42 :: t43 :: t44 :: t45 :: t46 :: t47 :: t48 :: t49 :: t50 :: t51 :: t52 :: t53 :: t54 :: t55 :: t56 :: t57 :: t58 :: t59 :: t60 :: t61 :: t62 :: t63 :: t64 :: t65 :: t66 :: t67 :: t68 :: t69 :: t70 :: t71 :: t72 :: t73 :: t74 :: t75 :: t76 :: t77 :: t78 :: t79 :: t80 :: t81 :: t82 :: t83 :: t84 :: t85 :: t86 :: t87 :: t88 :: t89 :: t90 :: t91 :: t92 :: t93 :: t94 :: t95 :: t96 :: t97 :: t98 :: t99 :: t100 :: t101 :: t102 :: t103 :: t104 :: t105 :: t106 :: t107 :: t108 :: t109 :: t110 :: t111 :: t112 :: t113 :: t114 :: t115 :: t116 :: t117 :: t118 :: t119 :: t120 :: t121 :: t122 :: t123 :: t124 :: t125 :: t126 :: t127 :: t128 :: t129 :: t130 :: t131 :: t132 :: t133 :: [])) w := by
  subst e0 e1 e2 e3 e8 e9 e10
  refine slices_pdqsortOrdered_uint64_P1_r ?_
  refine cpiv_c hd (by omega) hb hn8 ?_
  intro w2 p u hp1 hp2 d2 o2
  refine ext_a ?_
  refine ext_b ?_
  refine bin_eql ?_
  refine slices_pdqsortOrdered_uint64_A2_r ?_
  refine cond_p (fun _ => ?_) (fun _ => ?_)
  · refine rev_c d2 hb ?_
    intro w3 ys d3 o3 r3
    refine sub64 (by omega) (by omega) ?_
    refine sub64 (by omega) (by omega) ?_
    refine sub64 (by omega) (by omega) ?_
    rw [show ((b : Int) - 1 - ((p : Int) - (a : Int))) = ((b - 1 - (p - a) : Nat) : Int) by omega]
    exact pdq2_c rfl rfl rfl rfl rfl rfl rfl rfl rfl d3 ((ho.trans o2).trans (Ots.of_oth o3)) (hr.trans r3) (by omega) (by omega) hb hlow hn hrec hB hF
  · exact pdq2_c rfl rfl rfl rfl rfl rfl rfl rfl rfl d2 (ho.trans o2) hr hp1 hp2 hb hlow hn hrec hB hF

set_option maxHeartbeats 1000000 in
theorem pdqA_c (hn8 : n < 256) : ∀ d, RecH d g n c := by
  intro d
  induction d with
  | zero => intro a b lm z w K h; omega
  | succ d ih =>
    intro a b lm xs w K hdd hd hab hb hn hlow h
    have lx := hd.len
    refine call_of slices_pdqsortOrdered_uint64_go (slices_pdqsortOrdered_uint64_in ?_)
    refine slices_pdqsortOrdered_uint64_L1_r (Inv := fun x y l b1 b2 _ _ _ _ _ _ _ _ _ _ _ _ _ _ wr => ∃ (a' b' : Nat) (lm : Int) (wb wp : Bool) (z : List Int), x = .int .i64 (a' : Nat) ∧ y = .int .i64 (b' : Nat) ∧ l = .int .i64 lm ∧ b1 = .bool wb ∧ b2 = .bool wp ∧
        a ≤ a' ∧ a' ≤ b' ∧ b' ≤ b ∧ SD wr g n c z ∧ Ots g w wr ∧ z.Nodup ∧ Low a' b' z ∧ ∀ ys, Rng a' b' z ys → Srt ys a' b' → Rng a b xs ys ∧ Srt ys a b)
      (μ := fun x y l b1 b2 _ _ _ _ _ _ _ _ _ _ _ _ _ _ _ => (intOf y).toNat - (intOf x).toNat) ⟨a, b, lm, true, true, xs, rfl, rfl, rfl, rfl, rfl, Nat.le_refl _, hab, Nat.le_refl _, hd, Ots.refl _ _, hn, hlow, fun ys h1 h2 => ⟨h1, h2⟩⟩ ?_
    rintro _ _ _ _ _ _ _ _ _ _ _ _ _ _ _ _ _ _ _ _ w1 m ⟨a', b', lm, wb, wp, z, rfl, rfl, rfl, rfl, rfl, h1, h2, h3, hd1, o1, hn1, low1, fin1⟩ hm1
    have lz := hd1.len
    refine sub64 (by omega) (by omega) ?_
    rw [csub h2]
    refine bin_leq ?_
    by_cases h12 : b' - a' ≤ 12
    · refine cond_t (by omega) ?_
      refine isortS_c hd1 h2 (by omega) ?_
      intro w2 ys d2 o2 r2 s2
      obtain ⟨f1, f2⟩ := fin1 ys r2 s2
      exact h _ ys d2 (o1.trans (Ots.of_oth o2)) f1 f2
    refine cond_f (by omega) ?_
    refine bin_eql ?_
    refine cond_p (fun _ => ?_) (fun _ => ?_)
    · refine heap_c hd1 (by omega) (by omega) hn1 ?_
      intro w2 ys d2 o2 r2 s2
      obtain ⟨f1, f2⟩ := fin1 ys r2 s2
      exact h _ ys d2 (o1.trans (Ots.of_oth o2)) f1 f2
    have hF : ∀ w' ys, SD w' g n c ys → Ots g w w' → Rng a' b' z ys → Srt ys a' b' → K (.tuple #[]) w' := by
      intro w2 ys d2 o2 r2 s2
      obtain ⟨f1, f2⟩ := fin1 ys r2 s2
      exact h _ ys d2 o2 f1 f2
    have hrec : RecH (b' - a') g n c := by
      intro a2 b2 lm2 z2 w2 K2 q1 q2 q3 q4 q5 q6 q7
      exact ih (by omega) q2 q3 q4 q5 q6 q7
    have hB : GoOn g n c w a' b' z (fun e2 w2 => (∃ (a' b' : Nat) (lm : Int) (wb wp : Bool) (z : List Int), gd e2 1 = .int .i64 (a' : Nat) ∧ gd e2 2 = .int .i64 (b' : Nat) ∧ gd e2 3 = .int .i64 lm ∧ gd e2 8 = .bool wb ∧ gd e2 9 = .bool wp ∧
        a ≤ a' ∧ a' ≤ b' ∧ b' ≤ b ∧ SD w2 g n c z ∧ Ots g w w2 ∧ z.Nodup ∧ Low a' b' z ∧ ∀ ys, Rng a' b' z ys → Srt ys a' b' → Rng a b xs ys ∧ Srt ys a b) ∧ (intOf (gd e2 2)).toNat - (intOf (gd e2 1)).toNat < m) := by
      intro e w2 a2 b2 lm2 wb2 wp2 z2 e1 e2 e3 e8 e9 d2 o2 x2
      have := x2.ha
      have := x2.hb
      have := x2.lt
      refine ⟨⟨a2, b2, lm2, wb2, wp2, z2, e1, e2, e3, e8, e9, by omega, x2.le, by omega, d2, o2, x2.rng.perm.nodup_iff.2 hn1, x2.low, fun ys r s => ?_⟩, ?_⟩
      · obtain ⟨f1, f2⟩ := x2.fin ys r s
        exact fin1 ys f1 f2
      · rw [e1, e2, hm1]; simp only [intOf]; omega
    refine un_not ?_
    refine slices_pdqsortOrdered_uint64_A1_r ?_
    cases wb
    · refine cond_T ?_
      refine bpat_c hd1 h2 (by omega) hn8 ?_
      intro w2 ys d2 o2 r2
      refine bin_sub ?_
      exact pdq1_go rfl rfl rfl rfl rfl rfl rfl d2 (o1.trans o2) r2 (by omega) (by omega) hn8 low1 hn1 hrec hB hF
    · refine cond_F ?_
      exact pdq1_go rfl rfl rfl rfl rfl rfl rfl hd1 o1 (Rng.refl _ _ _) (by omega) (by omega) hn8 low1 hn1 hrec hB hF

theorem sortA_c (hd : SD w g n c xs) (hn8 : n < 256) (hn : xs.Nodup) (h : ∀ w' ys, SD w' g n c ys → Ots g w w' → ys.Perm xs → Srt ys 0 n → K (.tuple #[]) w') :
    call Try.prog 23 #[.slice (some ⟨g, 0, none⟩) n c] K w := by
  refine call_of slices_Sort_uint64_uint64_go (slices_Sort_uint64_uint64_in ?_)
  refine lenS ?_
  refine conv_int Try.underlying3 Try.underlying56 ?_
  rw [wrap_u64, show ((n : Nat) : Int) % 18446744073709551616 = (n : Nat) by omega]
  refine lenb_c hn8 ?_
  intro r hr
  refine pdqA_c hn8 (n + 1) (a := 0) (by omega) hd (by omega) (Nat.le_refl _) hn (fun i k h => by omega) ?_
  intro w2 ys d2 o2 r2 s2
  exact h w2 ys d2 o2 r2.perm s2
end
end Go.Proofs.Ytcieejlkdfdpiaa
