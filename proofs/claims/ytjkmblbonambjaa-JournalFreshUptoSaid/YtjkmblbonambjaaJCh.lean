/- The disk and the journal, told by footprints: a call on one turns none of another's blocks. -/
import Derived.Test.YtjkmblbonambjaaJLaw
namespace Go.Proofs.Ytjkmblbonambjaa
set_option maxRecDepth 100000
open Go.RowKit
/-- Of the blocks below M only those of F may turn. -/
abbrev fgd (F : List Nat) (M : Nat) : Guard := ⟨fun k => k < M ∧ k ∉ F⟩
/-- A disk, and the block of its row of loose changes. -/
def DKR (Z : Nat → Prop) (w : World) (B p : Nat) (r : List Nat) (D : DS) : Prop :=
  ∃ (s0 s1 n0 n1 : Option Addr × Nat × Nat) (la : Option Addr) (ln lc : Nat) (fz : Int) (css : List (List Value)), blk w p 70 [slv s0, slv s1, slv n0, slv n1, .slice la ln lc, .bool D.off, .bool (decide (0 ≤ D.fuse)), .int .i64 fz] ∧
    (0 ≤ D.fuse → fz = D.fuse) ∧ -1 ≤ D.fuse ∧ D.fuse ≤ 9223372036854775807 ∧ B ≤ p ∧ r = (la.map (·.block)).toList ∧ TB Z w s0 D.sure.1 ∧ TB Z w s1 D.sure.2 ∧ TB Z w n0 (runs D.loose D.sure).1 ∧ TB Z w n1 (runs D.loose D.sure).2 ∧
    w.ownsRow B 90 3 (.slice la ln lc) ln css.flatten ∧ css.length = D.loose.length ∧ D.loose.length = ln ∧ (∀ (i : Nat) (ch : Chg) (cs : List Value), D.loose[i]? = some ch → css[i]? = some cs → CH Z w ch cs) ∧ okAll D.loose D.sure ∧ ∀ b, w.heap.size ≤ b → Z b
section
variable {Z : Nat → Prop} {T : List TypeId} {B B2 p : Nat} {w w' : World} {D : DS} {r : List Nat}
theorem DKR.lt (h : DKR Z w B p r D) : ∀ k ∈ p :: r, k < w.heap.size := by
  obtain ⟨s0, s1, n0, n1, la, ln, lc, fz, css, hb, e1, e2, e3, e4, er, t0, t1, t2, t3, ho, c1, c2, hc, hok, hz⟩ := h
  intro k hk
  rcases List.mem_cons.1 hk with rfl | hk
  · exact hb.lt
  · rw [er, Option.mem_toList] at hk
    rcases ho.2 with ⟨hv, _⟩ | ⟨g, cap, cur, hv, _, hg, _⟩
    · cases hv; cases hk
    · cases hv
      simp only [Option.map_some, Option.mem_def, Option.some.injEq] at hk
      subst hk
      exact (Array.getElem?_eq_some_iff.1 hg).1
theorem DKR.base (h : DKR Z w B p r D) : B ≤ p := by
  obtain ⟨s0, s1, n0, n1, la, ln, lc, fz, css, hb, e1, e2, e3, e4, _⟩ := h
  exact e4
end
section
variable [G : Guard] {Z : Nat → Prop} {T : List TypeId} {B B2 p : Nat} {w w' : World} {D : DS} {r : List Nat}
theorem DK.raw (h : DK Z w B p D) : ∃ r, DKR Z w B p r D ∧ ∀ k ∈ p :: r, ¬ G.prot k := by
  obtain ⟨s0, s1, n0, n1, la, ln, lc, fz, hb, e1, e2, e3, e4, hh⟩ := h
  obtain ⟨css, ho, hgd, c1, c2, hc⟩ := hh.row
  refine ⟨_, ⟨s0, s1, n0, n1, la, ln, lc, fz, css, hb, e1, e2, e3, e4.1, rfl, hh.sure0, hh.sure1, hh.now0, hh.now1, ho, c1, c2, hc, hh.ok, hh.fresh⟩, fun k hk => ?_⟩
  rcases List.mem_cons.1 hk with rfl | hk
  · exact e4.2
  · rw [Option.mem_toList] at hk
    cases la with
    | none => cases hk
    | some ad =>
      simp only [Option.map_some, Option.mem_def, Option.some.injEq] at hk
      subst hk
      exact hgd _ rfl
theorem DKR.dk (h : DKR Z w B p r D) (hp : ∀ k ∈ p :: r, ¬ G.prot k) (hf : ∀ b, w.heap.size ≤ b → ¬ G.prot b) : DK Z w B p D := by
  obtain ⟨s0, s1, n0, n1, la, ln, lc, fz, css, hb, e1, e2, e3, e4, er, t0, t1, t2, t3, ho, c1, c2, hc, hok, hz⟩ := h
  refine ⟨s0, s1, n0, n1, la, ln, lc, fz, hb, e1, e2, e3, ⟨e4, hp p (by simp)⟩, t0, t1, t2, t3, ⟨css, ho, fun ad ha => ?_, c1, c2, hc⟩, hok, hz, hf⟩
  exact hp ad.block (by rw [er, ha]; simp)
/-- Where another's blocks turned. -/
theorem DKR.keep (h : DKR Z w B2 p r D) (hk : Kg T B w w') (h1 : 5 ∉ T) (h2 : 3 ∉ T) (hp : ∀ k ∈ p :: r, G.prot k) : DKR Z w' B2 p r D := by
  obtain ⟨s0, s1, n0, n1, la, ln, lc, fz, css, hb, e1, e2, e3, e4, er, t0, t1, t2, t3, ho, c1, c2, hc, hok, hz⟩ := h
  refine ⟨s0, s1, n0, n1, la, ln, lc, fz, css, hk.blkP hb (hp p (by simp)), e1, e2, e3, e4, er, t0.keep hk h1, t1.keep hk h1, t2.keep hk h1, t3.keep hk h1, ?_, c1, c2, fun i ch cs hi hcs => (hc i ch cs hi hcs).keep hk h1 h2, hok, fun b hb => hz b (Nat.le_trans hk.size hb)⟩
  rcases ho.2 with ⟨hv, hn⟩ | ⟨g, cap, cur, hv, hb, hh, q⟩
  · exact ⟨ho.1, .inl ⟨hv, hn⟩⟩
  · have hg : g ∈ p :: r := by
      simp only [Value.slice.injEq] at hv
      obtain ⟨rfl, _⟩ := hv
      rw [er]; simp
    exact ⟨ho.1, .inr ⟨g, cap, cur, hv, hb, hk.block _ _ hh (.inl (.inr (hp g hg))), q⟩⟩
end
section
variable {B M p q : Nat} {w w' : World} {D : DS} {F F2 : List Nat} {J : JD} {K : KV} {T : List TypeId}
/-- A disk of these blocks. -/
structure KD (B : Nat) (w : World) (F : List Nat) (p : Nat) (D : DS) : Prop where
  disk : ∃ r, DKR (fun _ => True) w B p r D ∧ ∀ k ∈ p :: r, k ∈ F
  lt : ∀ k ∈ F, k < w.heap.size
/-- A journal on it. -/
structure JK (B : Nat) (w : World) (F : List Nat) (p q : Nat) (J : JD) : Prop where
  kd : KD B w F p J.disk
  jr : JR w p q J.size J.br
  hq : q ∈ F
  hB : B ≤ q
theorem fgd_not {k : Nat} (h : ¬ (fgd F M).prot k) : k ∈ F ∨ M ≤ k := by
  by_cases hk : k ∈ F
  · exact .inl hk
  · right
    rcases Nat.lt_or_ge k M with h1 | h1
    · exact absurd ⟨h1, hk⟩ h
    · exact h1
theorem KD.of (h : @DK (fgd F M) (fun _ => True) w B p D) : ∃ r : List Nat, (∀ k ∈ p :: r, (k ∈ F ∨ M ≤ k) ∧ k < w.heap.size) ∧ ∀ F2 : List Nat, (∀ k ∈ p :: r, k ∈ F2) → (∀ k ∈ F2, k < w.heap.size) → KD B w F2 p D := by
  obtain ⟨r, hr, hg⟩ := DK.raw (G := fgd F M) h
  exact ⟨r, fun k hk => ⟨fgd_not (hg k hk), hr.lt k hk⟩, fun F2 h1 h2 => ⟨⟨r, hr, h1⟩, h2⟩⟩
theorem KD.dk (h : KD B w F p D) : @DK (fgd F w.heap.size) (fun _ => True) w B p D := by
  obtain ⟨⟨r, hr, hF⟩, _⟩ := h
  exact DKR.dk (G := fgd F w.heap.size) hr (fun k hk hh => hh.2 (hF k hk)) (fun b hb hh => by have := hh.1; omega)
theorem KD.base (h : KD B w F p D) : B ≤ p ∧ p < w.heap.size := by
  obtain ⟨⟨r, hr, hF⟩, _⟩ := h
  exact ⟨hr.base, hr.lt p (by simp)⟩
theorem KD.other (h : KD B w F p D) (hk : @Kg (fgd F2 w.heap.size) T M w w') (dis : ∀ k ∈ F, k ∉ F2) (h1 : 5 ∉ T) (h2 : 3 ∉ T) : KD B w' F p D := by
  obtain ⟨⟨r, hr, hF⟩, hlt⟩ := h
  have hsz := Kg.size (G := fgd F2 w.heap.size) hk
  exact ⟨⟨r, DKR.keep (G := fgd F2 w.heap.size) hr hk h1 h2 (fun k hk => ⟨hr.lt k hk, dis k (hF k hk)⟩), hF⟩, fun k hkF => Nat.lt_of_lt_of_le (hlt k hkF) hsz⟩
theorem kg_of {F2 : List Nat} {N : Nat} (hb : Below w.heap.size w w') : @Kg (fgd F2 N) T M w w' := Kg.of (G := fgd F2 N) hb
theorem KD.below (h : KD B w F p D) (hb : Below w.heap.size w w') : KD B w' F p D := h.other (F2 := []) (T := []) (M := 0) (kg_of hb) (by simp) (by simp) (by simp)
theorem JK.other (h : JK B w F p q J) (hk : @Kg (fgd F2 w.heap.size) T M w w') (dis : ∀ k ∈ F, k ∉ F2) (h1 : 5 ∉ T) (h2 : 3 ∉ T) : JK B w' F p q J :=
  ⟨h.kd.other hk dis h1 h2, Kg.blkP (G := fgd F2 w.heap.size) hk h.jr ⟨h.kd.lt q h.hq, dis q h.hq⟩, h.hq, h.hB⟩
theorem JK.below (h : JK B w F p q J) (hb : Below w.heap.size w w') : JK B w' F p q J := h.other (F2 := []) (T := []) (M := 0) (kg_of hb) (by simp) (by simp) (by simp)

theorem new_kd (h : ∀ w' F p, KD w.heap.size w' F p ⟨([], []), [], false, -1⟩ → Below w.heap.size w w' → (∀ k ∈ F, w.heap.size ≤ k) → K (ptr p) w') : call Try.prog 11 #[] K w := by
  refine new_c (G := fgd [] w.heap.size) (fun b hb hh => by have := hh.1; omega) ?_
  intro w1 p hd b1 hp
  obtain ⟨r, hr, hmk⟩ := KD.of hd
  exact h w1 (p :: r) p (hmk _ (fun k hk => hk) (fun k hk => (hr k hk).2)) b1 (fun k hk => ((hr k hk).1).resolve_left (by simp))
theorem open_jk (hd : KD B w F p D) (hlen : D.loose.length < 1000000) (he : (jopenS D).e = 0)
    (h : ∀ w' F' q a n c vs, JK B w' F' p q ⟨(jopenS D).disk, ((jopenS D).at_ : Nat), false⟩ → (∀ k ∈ F', k ∈ F ∨ w.heap.size ≤ k) → @Kg (fgd F w.heap.size) DT B w w' → OBB w' w.heap.size a n c vs (jopenS D).l → K (.tuple #[ptr q, .slice a n c, .int .i64 0]) w') :
    call Try.prog 21 #[ptr p] K w := by
  have hBw : B ≤ w.heap.size := by have := hd.base; omega
  refine open_c (G := fgd F w.heap.size) hd.dk hlen ?_ (fun hh => absurd he hh)
  intro _ w1 q a n c vs hd1 k1 L1 hj1 hq1
  obtain ⟨r, hr, hmk⟩ := KD.of hd1
  have hql : q < w1.heap.size := blk.lt hj1
  refine h w1 (q :: p :: r) q a n c vs ⟨hmk _ (fun k hk => List.mem_cons_of_mem _ hk) (fun k hk => ?_), hj1, by simp, by omega⟩ (fun k hk => ?_) k1 L1
  · rcases List.mem_cons.1 hk with rfl | hk
    · exact hql
    · exact (hr k hk).2
  · rcases List.mem_cons.1 hk with rfl | hk
    · exact .inr hq1
    · exact (hr k hk).1
theorem add_jk {a : Option Addr} {n c : Nat} {vs : List (Option Addr × Nat × Nat)} {L : List (List UInt8)} (hj : JK B w F p q J) (hL : RBB w a n c vs L) (hn : n ≤ 4294967296) (hv : vast L ≤ 1000000000000) (hlen : J.disk.loose.length < 1000000) (hsz : 0 ≤ J.size ∧ J.size ≤ 9000000000000000000)
    (h : ∀ w' F', JK B w' F' p q (jaddS J L).1 → (∀ k ∈ F', k ∈ F ∨ w.heap.size ≤ k) → @Kg (fgd F w.heap.size) JT B w w' → K (.int .i64 (jaddS J L).2) w') : call Try.prog 23 #[ptr q, .slice a n c] K w := by
  refine add_c (G := fgd F w.heap.size) hj.kd.dk hj.jr hL hn hv hlen hsz hj.hB (fun hh => hh.2 hj.hq) ?_
  intro w1 hd1 hj1 k1
  obtain ⟨r, hr, hmk⟩ := KD.of hd1
  refine h w1 (q :: p :: r) ⟨hmk _ (fun k hk => List.mem_cons_of_mem _ hk) (fun k hk => ?_), hj1, by simp, hj.hB⟩ (fun k hk => ?_) k1
  · rcases List.mem_cons.1 hk with rfl | hk
    · exact blk.lt hj1
    · exact (hr k hk).2
  · rcases List.mem_cons.1 hk with rfl | hk
    · exact .inl hj.hq
    · exact (hr k hk).1
theorem compact_jk {a : Option Addr} {n c : Nat} {vs : List (Option Addr × Nat × Nat)} {L : List (List UInt8)} (hj : JK B w F p q J) (hL : RBB w a n c vs L) (hn : n ≤ 4294967296) (hv : vast L ≤ 1000000000000) (hlen : J.disk.loose.length < 1000000)
    (h : ∀ w' F', JK B w' F' p q (jcompS J L).1 → (∀ k ∈ F', k ∈ F ∨ w.heap.size ≤ k) → @Kg (fgd F w.heap.size) JT B w w' → K (.int .i64 (jcompS J L).2) w') : call Try.prog 24 #[ptr q, .slice a n c] K w := by
  refine compact_c (G := fgd F w.heap.size) hj.kd.dk hj.jr hL hn hv hlen hj.hB (fun hh => hh.2 hj.hq) ?_
  intro w1 hd1 hj1 k1
  obtain ⟨r, hr, hmk⟩ := KD.of hd1
  refine h w1 (q :: p :: r) ⟨hmk _ (fun k hk => List.mem_cons_of_mem _ hk) (fun k hk => ?_), hj1, by simp, hj.hB⟩ (fun k hk => ?_) k1
  · rcases List.mem_cons.1 hk with rfl | hk
    · exact blk.lt hj1
    · exact (hr k hk).2
  · rcases List.mem_cons.1 hk with rfl | hk
    · exact .inl hj.hq
    · exact (hr k hk).1
end
end Go.Proofs.Ytjkmblbonambjaa
