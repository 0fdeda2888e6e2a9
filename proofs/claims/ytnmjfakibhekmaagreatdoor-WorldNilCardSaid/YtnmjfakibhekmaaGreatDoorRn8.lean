/- Runs in which all is known but where blocks stand: rows, append. Nothing of the program is named here. -/
import Derived.Test.YtnmjfakibhekmaaGreatDoorRn7
import Derived.ArgAppend
namespace Go.Proofs.YtnmjfakibhekmaaGreatDoor
set_option maxRecDepth 100000
open Go.RowKit

section
variable {P : Program} {G : Glo} {B0 : Nat} {R : Lay} {H H' : AH} {w w' : World} {t : TypeId} {x y r : GV} {u v : Value}
/-! ## A row that is written out. -/
def inRow : List (Nat × GV) → Nat → Bool
  | [], _ => true
  | (i, _) :: r, k => match Nat.beq i k with | true => inRow r (k + 1) | false => false
def rowCs (s : Nat) : List (Nat × GV) → Option (List CV)
  | [] => some []
  | (_, x) :: r => match cellsG x, rowCs s r with
    | some cs, some l => match Nat.beq cs.length s with | true => some (cs ++ l) | false => none
    | _, _ => none
theorem inRow_ok : ∀ {ps : List (Nat × GV)} {qs : List (Nat × Value)} {k : Nat}, inRow ps k = true → All2 (PartR R) ps qs → qs = ((qs.map (·.2)).zipIdx k).map fun x => (x.2, x.1)
  | [], _, _, _, h => by cases h; rfl
  | (i, a) :: r, qs, k, h, hr => by
    unfold inRow at h
    split at h
    · rename_i e
      have e := Nat.eq_of_beq_eq_true e
      subst e
      cases hr with
      | @cons _ b _ m h1 h2 =>
        obtain ⟨j, q⟩ := b
        obtain ⟨h3, h4⟩ := h1
        simp only at h3
        subst h3
        simp only [List.map_cons, List.zipIdx_cons]
        rw [← inRow_ok h h2]
    · cases h
theorem rowCs_ok {s : Nat} : ∀ {ps : List (Nat × GV)} {qs : List (Nat × Value)} {cs : List CV}, rowCs s ps = some cs → All2 (PartR R) ps qs →
    All2 (CR R) cs ((qs.map (·.2)).flatMap fun v => v.cells.toList) ∧ ∀ v ∈ qs.map (·.2), v.cells.size = s
  | [], _, _, h, hr => by cases h; cases hr; exact ⟨.nil, by simp⟩
  | (i, a) :: r, qs, cs, h, hr => by
    unfold rowCs at h
    split at h
    · rename_i c l hc hl
      split at h
      · rename_i e
        have e := Nat.eq_of_beq_eq_true e
        cases h
        cases hr with
        | @cons _ b _ m h1 h2 =>
          obtain ⟨g1, g2⟩ := rowCs_ok hl h2
          have g3 := cellsG_ok hc h1.2
          refine ⟨?_, ?_⟩
          · simp only [List.map_cons, List.flatMap_cons]
            exact g3.append g1
          · intro v hv
            simp only [List.map_cons, List.mem_cons] at hv
            rcases hv with rfl | hv
            · have := g3.len; simp at this; omega
            · exact g2 v hv
      · cases h
    · cases h
def bldSG' (P : Program) (H : AH) (t : TypeId) (n : Nat) (ps : List (Nat × GV)) : Option (GV × AH) :=
  match P.underlying t with
  | some (.slice e) => match P.info? e, zeroCs P e with
    | some ie, some _ => match Nat.beq ps.length n, Nat.blt 0 ie.size, Nat.ble (n * ie.size) 16777216, inRow ps 0, rowCs ie.size ps, Nat.blt H.n 8192 with
      | true, true, true, true, some cs, true => some (oneG (.s H.n 0 0 n (some n)), H.new (.cells e ie.size false cs))
      | _, _, _, _, _, _ => none
    | _, _ => none
  | _ => none
theorem bldSE {e : TypeId} {ie : TypeInfo} {K : KV} (ht : P.underlying t = some (.slice e)) (hie : P.info? e = some ie)
    (h : ∀ w', blk w' w.heap.size e [] → Below w.heap.size w w' → K (.slice (some ⟨w.heap.size, 0, none⟩) 0 0) w') : bldS P t 0 #[] K w := by
  unfold bldS
  refine okV_of (w' := w.alloc (.cells #[] e)) (v := .slice (some ⟨w.heap.size, 0, none⟩) 0 0) ?_ (h _ ?_ (below_of_grown (World.grownBy_alloc _ _ none) (Nat.le_refl _) (fun k hk => by cases hk)))
  · have : (Array.range 0).map (fun _ => (default : Value)) = #[] := by simp
    simp [Instr.buildSlice, run_underlying ht, size_run hie, Instr.fill, newRow, this]
  · unfold blk; rw [heap_alloc_new]
theorem bldS_yls {n : Nat} {ps : List (Nat × GV)} {qs : List (Nat × Value)} (h : bldSG' P H t n ps = some (r, H')) (hs : Sim G B0 R H w) (hp : All2 (PartR R) ps qs) : Yls G B0 (bldS P t n qs.toArray) R H r H' w := by
  intro K hK
  unfold bldSG' at h
  split at h
  · rename_i e ht
    split at h
    · rename_i ie zc hie hz
      obtain ⟨z, hz1, _⟩ := zeroCs_ok (R := R) hz
      split at h
      · rename_i cs h1 h2 h3 h4 h5 h6
        cases h
        have h1 := Nat.eq_of_beq_eq_true h1
        have h2 := blt_iff.1 h2
        have h3 := Nat.le_of_ble_eq_true h3
        obtain ⟨g1, g2⟩ := rowCs_ok h5 hp
        have hl := hp.len
        have hle := hs.upd_le ⟨w.heap.size, 0⟩
        have fin : ∀ w', blk w' w.heap.size e ((qs.map (·.2)).flatMap fun v => v.cells.toList) → Below w.heap.size w w' → K (.slice (some ⟨w.heap.size, 0, none⟩) n n) w' := by
          intro w' hb hbl
          refine hK _ _ w' hle ⟨_, upd_self, Nat.le_refl _, rfl⟩ (hs.new (o := .cells e ie.size false cs) (L := ⟨w.heap.size, 0⟩) hbl (Nat.le_refl _) ⟨_, hb, ?_⟩ (blt_iff.1 h6)) (Fr.new hs hbl (Nat.le_refl _) (blt_iff.1 h6))
          have hl := g1.len
          refine ⟨?_, by omega, fun _ => hl, (fun hg => by cases hg)⟩
          rw [← hl, List.take_length]
          exact g1.mono fun _ _ => CR.mono hle
        cases n with
        | zero =>
          have : qs = [] := List.eq_nil_of_length_eq_zero (by omega)
          subst this
          exact bldSE ht hie fun w' hb hbl => fin w' (by simpa using hb) hbl
        | succ n =>
          refine bldSG (qs.map (·.2)) ht (by simp [hie]) (by rw [hz1]; rfl) h2 (by rw [List.length_map]; omega) (by rw [List.length_map]; omega) h3 ?_ g2 fun w' hb hbl _ => fin w' hb hbl
          exact inRow_ok h4 hp
      · cases h
    · cases h
  · cases h

/-! ## append. -/
def killG (H : AH) : Option Nat → AH
  | none => H
  | some b => H.put b .dead
theorem Sim.app {dead row : Option Nat} {L : Loc} {o : AO} (h : Sim G B0 R H w) (hd : ∀ b, dead = some b → ∃ o L, H.get b = some o ∧ o.live = true ∧ R b = some L ∧ row = some L.B) (hdn : dead = none → row = none) (hg : w.grownBy w' row)
    (hL : row = some L.B ∨ L.B = w.heap.size) (ho : objR (upd R H.n L) w' L o) (hn : H.n < 8192) : Sim G B0 (upd R H.n L) ((killG H dead).new o) w' := by
  have hle := h.upd_le L
  -- what lives on
  have live : ∀ i o', (killG H dead).get i = some o' → o'.live = true → H.get i = some o' ∧ ∃ M, R i = some M ∧ B0 ≤ M.B ∧ objR R w M o' ∧ row ≠ some M.B ∧ M.B < w.heap.size := by
    intro i o' hi hl
    cases dead with
    | none =>
      obtain ⟨M, h1, h2, h3⟩ := h.obj i o' hi hl
      exact ⟨hi, M, h1, h2, h3, by rw [hdn rfl]; simp, h3.lt hl⟩
    | some b =>
      obtain ⟨ob, Lb, g1, g2, g3, g4⟩ := hd b rfl
      unfold killG at hi
      simp only at hi
      rw [AH.get_put (AH.get_lt g1) h.big] at hi
      split at hi
      · cases hi; cases hl
      · rename_i hne
        obtain ⟨M, h1, h2, h3⟩ := h.obj i o' hi hl
        refine ⟨hi, M, h1, h2, h3, ?_, h3.lt hl⟩
        rw [g4]
        intro he
        exact h.inj b i ob o' Lb M g1 hi g2 hl hne g3 h1 (Option.some.inj he)
  have hn' : (killG H dead).n = H.n := by cases dead <;> rfl
  have hB : B0 ≤ L.B := by
    rcases hL with hL | hL
    · cases dead with
      | none => rw [hdn rfl] at hL; cases hL
      | some b =>
        obtain ⟨ob, Lb, g1, g2, g3, g4⟩ := hd b rfl
        obtain ⟨M, h1, h2, h3⟩ := h.obj b ob g1 g2
        rw [g3] at h1; cases h1
        rw [hL] at g4
        have := Option.some.inj g4
        omega
    · rw [hL]; exact h.size
  constructor
  · intro i o' hi hl
    rw [AH.get_new (by omega)] at hi
    split at hi
    · rename_i e; cases hi; rw [hn'] at e; subst e; exact ⟨L, upd_self, hB, ho⟩
    · obtain ⟨_, M, h1, h2, h3, h4, h5⟩ := live i o' hi hl
      exact ⟨M, hle _ _ h1, h2, (h3.same (hg.block _ h5 (fun he => h4 he.symm))).mono hle⟩
  · intro i j oi oj Li Lj hi hj li lj hij ri rj
    rw [AH.get_new (by omega)] at hi hj
    rw [hn'] at hi hj
    unfold upd at ri rj
    split at hi <;> split at hj
    · rename_i a b; omega
    · rename_i a b
      rw [if_pos a] at ri; cases ri
      rw [if_neg b] at rj
      obtain ⟨_, M, h1, h2, h3, h4, h5⟩ := live j oj hj lj
      rw [h1] at rj; cases rj
      intro he
      rcases hL with hL | hL
      · rw [he] at hL; exact h4 hL
      · omega
    · rename_i a b
      rw [if_pos b] at rj; cases rj
      rw [if_neg a] at ri
      obtain ⟨_, M, h1, h2, h3, h4, h5⟩ := live i oi hi li
      rw [h1] at ri; cases ri
      intro he
      rcases hL with hL | hL
      · rw [← he] at hL; exact h4 hL
      · omega
    · rename_i a b
      rw [if_neg a] at ri; rw [if_neg b] at rj
      exact h.inj i j oi oj Li Lj (live i oi hi li).1 (live j oj hj lj).1 li lj hij ri rj
  · intro i M hi
    show i < (killG H dead).n + 1
    unfold upd at hi
    split at hi
    · omega
    · have := h.dom i M hi; omega
  · show (killG H dead).n + 1 ≤ 8192; omega
  · exact Nat.le_trans h.size hg.size
  · intro g e cs hgl
    obtain ⟨h1, h2⟩ := h.glob g e cs hgl
    refine ⟨h1, h2.same (hg.block g (Nat.lt_of_lt_of_le h1 h.size) ?_)⟩
    · intro he
      cases dead with
      | none => rw [hdn rfl] at he; cases he
      | some b =>
        obtain ⟨ob, Lb, g1, g2, g3, g4⟩ := hd b rfl
        obtain ⟨M, k1, k2, k3⟩ := h.obj b ob g1 g2
        rw [g3] at k1; cases k1
        rw [g4] at he
        have := Option.some.inj he
        omega

theorem Fr.app {dead row : Option Nat} {L : Loc} {o : AO} (h : Sim G B0 R H w) (hd : ∀ b, dead = some b → ∃ o L, H.get b = some o ∧ o.live = true ∧ R b = some L ∧ row = some L.B) (hdn : dead = none → row = none) (hg : w.grownBy w' row)
    (hL : row = some L.B ∨ L.B = w.heap.size) (hn : H.n < 8192) : Fr B0 R H w (upd R H.n L) ((killG H dead).new o) w' where
  below := by
    refine ⟨hg.os, hg.tape, hg.output, hg.size, fun k hk => hg.block k (Nat.lt_of_lt_of_le hk h.size) ?_⟩
    intro he
    cases hb : dead with
    | none => rw [hdn hb] at he; cases he
    | some b' =>
      obtain ⟨o, L, q1, q2, q3, q4⟩ := hd b' hb
      obtain ⟨M, p1, p2, p3⟩ := h.obj b' o q1 q2
      rw [q3] at p1; cases p1
      rw [q4] at he
      have := Option.some.inj he
      omega
  keep k hk hno := by
    refine hg.block k hk ?_
    intro he
    cases hb : dead with
    | none => rw [hdn hb] at he; cases he
    | some b' =>
      obtain ⟨o, L, q1, q2, q3, q4⟩ := hd b' hb
      rw [q4] at he
      exact hno b' o L q1 q2 q3 (Option.some.inj he).symm
  fresh i o' M hi hl hM := by
    have hn' : (killG H dead).n = H.n := by cases dead <;> rfl
    rw [AH.get_new (by omega), hn'] at hi
    unfold upd at hM
    split at hi
    · rename_i e
      rw [if_pos e] at hM; cases hM
      rcases hL with hL | hL
      · cases hb : dead with
        | none => rw [hdn hb] at hL; cases hL
        | some b' =>
          obtain ⟨o, L', q1, q2, q3, q4⟩ := hd b' hb
          rw [q4] at hL
          exact .inl ⟨b', o, L', q1, q2, q3, Option.some.inj hL⟩
      · exact .inr (by omega)
    · rename_i e
      rw [if_neg e] at hM
      cases hb : dead with
      | none => rw [hb] at hi; exact .inl ⟨i, o', M, hi, hl, hM, rfl⟩
      | some b' =>
        obtain ⟨o, L', q1, q2, q3, q4⟩ := hd b' hb
        rw [hb] at hi
        unfold killG at hi
        simp only at hi
        rw [AH.get_put (AH.get_lt q1) h.big] at hi
        split at hi
        · cases hi; cases hl
        · exact .inl ⟨i, o', M, hi, hl, hM, rfl⟩

/-- What is appended to: its cells, how many elements, and the block that ends. -/
def appDst (H : AH) (e s : Nat) (x : GV) : Option (List CV × Nat × Option Nat) :=
  match x with
  | .val (.one (.k (.slice none 0 0))) => some ([], 0, none)
  | .val (.one (.s b 0 0 n c)) => match H.get b with
    | some (.cells e' z g cs) => match Nat.beq e' e, g, c with
      | true, true, none => match Nat.beq z s, Nat.beq cs.length (n * s), Nat.ble (n * s) cs.length with | true, true, _ => some (cs, n, some b) | true, false, true => some (cs.take (n * s), n, some b) | _, _, _ => none
      | true, false, some C => match Nat.beq cs.length (C * s), Nat.ble n C, Nat.ble C maxLen with | true, true, true => some (cs.take (n * s), n, some b) | _, _, _ => none
      | _, _, _ => none
    | _ => none
  | _ => none
def appSrc (H : AH) (s : Nat) (y : GV) : Option (List CV × Nat) :=
  match y with
  | .val (.one (.s b o _ m _)) => match H.get b with
    | some (.cells _ _ _ cs) => match Nat.beq ((cs.drop o).take (m * s)).length (m * s) with | true => some ((cs.drop o).take (m * s), m) | false => none
    | _ => none
  | _ => none
def slG : GV → Bool
  | .val (.one (.k (.slice none 0 0))) => true
  | .val (.one (.s ..)) => true
  | .val (.one (.se ..)) => true
  | _ => false
def noneG : GV → Bool
  | .val (.one (.k (.slice none 0 0))) => true
  | .val (.one (.se ..)) => true
  | _ => false
def appG (P : Program) (H : AH) (t : TypeId) (x y : GV) : Option (GV × AH) :=
  match P.underlying t, slG x with
  | some (.slice e), true => match P.info? e, zeroCs P e with
    | some i, some zc => match noneG y with
      | true => some (x, H)
      | false => match Nat.beq zc.length i.size, Nat.blt 0 i.size, appDst H e i.size x, appSrc H i.size y with
        | true, true, some (xs, n, b), some (ys, m) => match m, Nat.ble ((n + m) * i.bytes) 140737488355328, Nat.ble (n + m) maxLen, Nat.blt H.n 8192 with
          | 0, _, _, _ => some (x, H)
          | m + 1, true, true, true => some (oneG (.s H.n 0 0 (n + (m + 1)) none), (killG H b).new (.cells e i.size true (xs ++ ys)))
          | _, _, _, _ => none
        | _, _, _, _ => none
    | _, _ => none
  | _, _ => none
theorem slG_ok (h : slG x = true) (hx : x.rel R u) : ∃ a n c, u = .slice a n c ∧ n ≤ c := by
  unfold slG at h
  split at h
  · cases hx; exact ⟨_, _, _, rfl, Nat.le_refl _⟩
  · obtain ⟨L, _, hn, rfl⟩ := hx; exact ⟨_, _, _, rfl, hn⟩
  · obtain ⟨L, _, rfl⟩ := hx; exact ⟨_, _, _, rfl, Nat.zero_le _⟩
  · cases h
theorem noneG_ok (h : noneG y = true) (hy : y.rel R v) : ∃ a c, v = .slice a 0 c := by
  unfold noneG at h
  split at h
  · cases hy; exact ⟨_, _, rfl⟩
  · obtain ⟨L, _, rfl⟩ := hy; exact ⟨_, _, rfl⟩
  · cases h
theorem run_app0 {e ty : TypeId} {i : TypeInfo} {a b : Option Addr} {n c c2 : Nat} (ht : P.underlying t = some (.slice e)) (hi : P.info? e = some i) (hn : n ≤ c) :
    (Builtin.append_ #[t, t] ty #[.slice a n c, .slice b 0 c2]).run P w = .ok (.slice a n c) w := by
  cases a <;> cases b <;> simp [Builtin.append_, run_underlying ht, sizeOf, typeInfo, hi, Builtin.lenOf, Builtin.firstCells, loadCells, loadCellsFrom, storeCells, hn]
theorem app_yls {cs : Array Bool} {ty : TypeId} (h : appG P H t x y = some (r, H')) (hs : Sim G B0 R H w) (hx : x.rel R u) (hy : y.rel R v) : Yls G B0 (blt P .append #[t, t] ty cs #[u, v]) R H r H' w := by
  intro K hK
  unfold appG at h
  split at h
  · rename_i e ht hsl
    split at h
    · rename_i i zc hi hz
      have none_ : ∀ {a n c b c2}, u = .slice a n c → n ≤ c → v = .slice b 0 c2 → r = x → H' = H → blt P .append #[t, t] ty cs #[u, v] K w := by
        rintro a n c b c2 rfl hn rfl rfl rfl
        exact blt_of (by rw [BigFrame.builtin_append]; simp only [Sem.run_bind, run_app0 ht hi hn, Result.andThen_ok, Sem.run_pure]) (hK R _ w (Lay.le.refl R) hx hs (Fr.refl ..))
      split at h
      · rename_i hno
        cases h
        obtain ⟨a, n, c, hu, hn⟩ := slG_ok hsl hx
        obtain ⟨b, c2, hv⟩ := noneG_ok hno hy
        exact none_ hu hn hv rfl rfl
      · split at h
        · rename_i xs n b ys m h1 h2 hd hsr
          have h1 := Nat.eq_of_beq_eq_true h1
          have h2 := blt_iff.1 h2
          -- the source
          obtain ⟨L2, o2, c2, vs2, hv, hcell, hys⟩ : ∃ L2 o2 c2 vs2, v = .slice (some ⟨L2, o2, none⟩) m c2 ∧ (∀ j q, vs2[j]? = some q → w.cell? ((⟨L2, o2, none⟩ : Addr).add j) = some q) ∧ All2 (CR R) ys vs2 := by
            unfold appSrc at hsr
            split at hsr
            · rename_i b2 o2 lo2 m2 c2
              split at hsr
              · rename_i e2 z2 g2 cs2 hg
                split at hsr
                · rename_i hb
                  cases hsr
                  obtain ⟨L, hL, hnc, rfl⟩ := hy
                  obtain ⟨c, hbk, hc, _⟩ := hs.cells hg hL
                  refine ⟨_, _, _, _, rfl, ?_, take_cells hc.rel (Nat.eq_of_beq_eq_true hb)⟩
                  intro j q hq
                  rw [add_p, hbk.cell, ← hq, List.getElem?_take, List.getElem?_drop, if_pos]
                  have := (List.getElem?_eq_some_iff.1 hq).1
                  rw [List.length_take] at this
                  omega
                · cases hsr
              · cases hsr
            · cases hsr
          have hyl : ys.length = m * i.size := by
            unfold appSrc at hsr
            split at hsr
            · split at hsr
              · split at hsr
                · rename_i hb; cases hsr; exact Nat.eq_of_beq_eq_true hb
                · cases hsr
              · cases hsr
            · cases hsr
          split at h
          · cases h
            obtain ⟨a, n, c, hu, hn⟩ := slG_ok hsl hx
            exact none_ hu hn hv rfl rfl
          · rename_i m h5 h3 h4
            cases h
            have hyl : ys.length = (m + 1) * i.size := hyl
            have h3 : Nat.ble ((n + (m + 1)) * i.bytes) 140737488355328 = true := h3
            have h4 : Nat.ble (n + (m + 1)) maxLen = true := h4
            subst hv
            have h3 := Nat.le_of_ble_eq_true h3
            have h4 := Nat.le_of_ble_eq_true h4
            obtain ⟨z, hz1, hz2⟩ := zeroCs_ok (R := R) hz
            have hz' : i.zero = some z := by rw [hi] at hz1; exact hz1
            have hzl : z.cells.size = i.size := by have := hz2.len; simp at this; omega
            have hvl := hys.len
            -- where it is appended
            obtain ⟨us, hus, hown, hdead, hnone⟩ : ∃ us, All2 (CR R) xs us ∧ w.ownsRow B0 e i.size u n us ∧ (∀ b', b = some b' → ∃ o L, H.get b' = some o ∧ o.live = true ∧ R b' = some L ∧ u.ownBlock = some L.B) ∧ (b = none → u.ownBlock = none) := by
              unfold appDst at hd
              split at hd
              · cases hd; cases hx
                exact ⟨[], .nil, World.ownsRow_nil w B0 e i.size, (fun b' hb' => by cases hb'), fun _ => rfl⟩
              · rename_i b' n' c'
                split at hd
                · rename_i e' z' g' cs' hg
                  obtain ⟨L, hL, hnc, rfl⟩ := hx
                  obtain ⟨c0, hbk, hc, hB⟩ := hs.cells hg hL
                  have hd2 : ∀ b2, some b' = some b2 → ∃ o L', H.get b2 = some o ∧ o.live = true ∧ R b2 = some L' ∧ (Value.slice (some ⟨L.B, 0, none⟩) n' (capOf L 0 c')).ownBlock = some L'.B := by
                    intro b2 hb2; cases hb2; exact ⟨_, L, hg, rfl, hL, rfl⟩
                  split at hd
                  · rename_i e1
                    split at hd
                    · rename_i e2 e3
                      cases hd
                      have e1 := Nat.eq_of_beq_eq_true e1
                      have e2 := Nat.eq_of_beq_eq_true e2
                      have e3 := Nat.eq_of_beq_eq_true e3
                      subst e1
                      obtain ⟨r1, r2, r3⟩ := hc.room rfl
                      refine ⟨_, hc.rel, ⟨?_, .inr ⟨L.B, L.cap, c0.toArray, rfl, hB, hbk, hnc, r2, ?_, ?_⟩⟩, hd2, (fun hb => by cases hb)⟩
                      · rw [← e3, hc.rel.len]
                      · simp [r3, e2]
                      · simp [e3]
                    · rename_i e2 _ e3
                      cases hd
                      have e1 := Nat.eq_of_beq_eq_true e1
                      have e2 := Nat.eq_of_beq_eq_true e2
                      have e3 := Nat.le_of_ble_eq_true e3
                      subst e1
                      obtain ⟨r1, r2, r3⟩ := hc.room rfl
                      have hrel := hc.rel.take (n * i.size)
                      rw [List.take_take, Nat.min_eq_left e3] at hrel
                      have hle := hc.le
                      refine ⟨_, hrel, ⟨?_, .inr ⟨L.B, L.cap, c0.toArray, rfl, hB, hbk, hnc, r2, ?_, ?_⟩⟩, hd2, (fun hb => by cases hb)⟩
                      · rw [List.length_take]; omega
                      · simp [r3, e2]
                      · simp
                    · cases hd
                  · rename_i C e1
                    split at hd
                    · rename_i e2 e3 e4
                      cases hd
                      have e1 := Nat.eq_of_beq_eq_true e1
                      have e2 := Nat.eq_of_beq_eq_true e2
                      have e3 := Nat.le_of_ble_eq_true e3
                      have e4 := Nat.le_of_ble_eq_true e4
                      subst e1
                      have hlen := hc.eq rfl
                      have hle : n * i.size ≤ C * i.size := Nat.mul_le_mul_right _ e3
                      have hrel := hc.rel.take (n * i.size)
                      rw [List.take_take, Nat.min_eq_left (by omega)] at hrel
                      refine ⟨_, hrel, ⟨?_, .inr ⟨L.B, C, c0.toArray, rfl, hB, hbk, e3, e4, ?_, ?_⟩⟩, hd2, (fun hb => by cases hb)⟩
                      · rw [List.length_take]; omega
                      · simp; omega
                      · simp
                    · cases hd
                  · cases hd
                · cases hd
              · cases hd
            obtain ⟨v', w', hr, k2, k3, _, k5⟩ := run_append_own_at (P := P) w B0 t ty e i z i.size i.bytes ht hi hz' rfl rfl hzl h2 u n us hown ⟨L2, o2, none⟩ (m + 1) c2 vs2 (by omega) hcell (hys.all fun _ _ h => h.2) h4 h3 hs.size
            rcases k2.2 with ⟨_, hbad⟩ | ⟨g, cap, cur, hv', hgB, hgh, hnc, hcm, hcs, htk⟩
            · omega
            · have hun := hs.upd_le ⟨g, cap⟩
              have hul := hus.len
              have hsum : (xs ++ ys).length = (n + (m + 1)) * i.size := by
                have := k2.1
                rw [List.length_append, hvl, hul] at this
                rw [List.length_append]; omega
              refine blt_of (by rw [BigFrame.builtin_append]; simp only [Sem.run_bind, hr, Result.andThen_ok, Sem.run_pure]) (hK _ v' w' hun ?_ ?_ ?_)
              · rw [hv']
                exact ⟨_, upd_self, by simpa [capOf] using hnc, by simp [capOf]⟩
              · refine hs.app (row := u.ownBlock) (L := ⟨g, cap⟩) hdead hnone k3 ?_ ⟨cur.toList, hgh, ?_⟩ (blt_iff.1 h5)
                · rw [hv'] at k5
                  rcases k5 with k5 | k5
                  · exact .inl k5.symm
                  · exact .inr (Option.some.inj k5)
                · refine ⟨?_, ?_, (fun hh => by cases hh), fun _ => ⟨h2, hcm, by simpa using hcs⟩⟩
                  · rw [hsum, htk]
                    exact (hus.append hys).mono fun _ _ => CR.mono hun
                  · rw [hsum]
                    have : (n + (m + 1)) * i.size ≤ cap * i.size := Nat.mul_le_mul_right _ hnc
                    simp; omega
              · refine Fr.app hs (row := u.ownBlock) (L := ⟨g, cap⟩) hdead hnone k3 ?_ (blt_iff.1 h5)
                rw [hv'] at k5
                rcases k5 with k5 | k5
                · exact .inl k5.symm
                · exact .inr (Option.some.inj k5)
          · cases h
        · cases h
    · cases h
  · cases h
/-- A row that is shut is appended to: the row is laid anew. -/
def appGr (P : Program) (H : AH) (t : TypeId) (x y : GV) : Option (GV × AH) :=
  match P.underlying t, x with
  | some (.slice e), .val (.one (.s _ _ _ n (some C))) => match P.info? e, zeroCs P e with
    | some i, some zc => match Nat.beq zc.length i.size, Nat.blt 0 i.size, appSrc H i.size x, appSrc H i.size y with
      | true, true, some (xs, _), some (ys, m) => match Nat.blt C (n + m), Nat.ble ((n + m) * i.bytes) 140737488355328, Nat.ble (n + m) maxLen, Nat.blt H.n 8192 with
        | true, true, true, true => some (oneG (.s H.n 0 0 (n + m) none), H.new (.cells e i.size true (xs ++ ys)))
        | _, _, _, _ => none
      | _, _, _, _ => none
    | _, _ => none
  | _, _ => none
theorem appSrc_ok {s m : Nat} {ys : List CV} (h : appSrc H s y = some (ys, m)) (hs : Sim G B0 R H w) (hy : y.rel R v) :
    ∃ L2 o2 c2 vs2, v = .slice (some ⟨L2, o2, none⟩) m c2 ∧ (∀ j q, vs2[j]? = some q → w.cell? ((⟨L2, o2, none⟩ : Addr).add j) = some q) ∧ All2 (CR R) ys vs2 ∧ ys.length = m * s := by
  unfold appSrc at h
  split at h
  · rename_i b2 o2 lo2 m2 c2
    split at h
    · rename_i e2 z2 g2 cs2 hg
      split at h
      · rename_i hb
        cases h
        obtain ⟨L, hL, hnc, rfl⟩ := hy
        obtain ⟨c, hbk, hc, _⟩ := hs.cells hg hL
        refine ⟨_, _, _, _, rfl, ?_, take_cells hc.rel (Nat.eq_of_beq_eq_true hb), Nat.eq_of_beq_eq_true hb⟩
        intro j q hq
        rw [add_p, hbk.cell, ← hq, List.getElem?_take, List.getElem?_drop, if_pos]
        have := (List.getElem?_eq_some_iff.1 hq).1
        rw [List.length_take] at this
        omega
      · cases h
    · cases h
  · cases h
theorem appGr_yls {cs : Array Bool} {ty : TypeId} (h : appGr P H t x y = some (r, H')) (hs : Sim G B0 R H w) (hx : x.rel R u) (hy : y.rel R v) : Yls G B0 (blt P .append #[t, t] ty cs #[u, v]) R H r H' w := by
  intro K hK
  unfold appGr at h
  split at h
  · rename_i e b o lo n C ht
    split at h
    · rename_i i zc hi hz
      split at h
      · rename_i xs n' ys m h1 h2 hx1 hy1
        split at h
        · rename_i h3 h4 h5 h6
          cases h
          have h1 := Nat.eq_of_beq_eq_true h1
          have h2 := blt_iff.1 h2
          have h3 := blt_iff.1 h3
          have h4 := Nat.le_of_ble_eq_true h4
          have h5 := Nat.le_of_ble_eq_true h5
          have h6 := blt_iff.1 h6
          obtain ⟨L1, o1, c1, vs1, hv1, hc1, ha1, hl1⟩ := appSrc_ok hx1 hs hx
          obtain ⟨L2, o2, c2, vs2, hv2, hc2, ha2, hl2⟩ := appSrc_ok hy1 hs hy
          obtain ⟨L, hL, hnc, hu⟩ := hx
          have hnn : n' = n ∧ c1 = C := by
            rw [hu] at hv1
            simp only [Value.slice.injEq, capOf] at hv1
            exact ⟨hv1.2.1.symm, hv1.2.2.symm⟩
          obtain ⟨rfl, rfl⟩ := hnn
          subst hv1 hv2
          obtain ⟨z, hz1, hz2⟩ := zeroCs_ok (R := R) hz
          have hz' : i.zero = some z := by rw [hi] at hz1; exact hz1
          have hzl : z.cells.size = i.size := by have := hz2.len; simp at this; omega
          obtain ⟨v', w', hr, k2, k3⟩ := run_append_arg_grows (P := P) w t ty e i z i.size i.bytes ht hi hz' rfl rfl hzl h2 ⟨L1, o1, none⟩ n' c1 vs1 (by rw [ha1.len]; exact hl1) hc1 ⟨L2, o2, none⟩ m c2 vs2 (by rw [ha2.len]; exact hl2) hc2 h3 h5 h4
          have hb : Below w.heap.size w w' := below_of_grown k3 (Nat.le_refl _) (fun k hk => by cases hk)
          rcases k2.2 with ⟨_, hbad⟩ | ⟨g, cap, cur, hv', hgB, hgh, hnc', hcm, hcs, htk⟩
          · omega
          · have hun := hs.upd_le ⟨g, cap⟩
            have hsum : (xs ++ ys).length = (n' + m) * i.size := by rw [List.length_append, hl1, hl2, Nat.add_mul]
            refine blt_of (by rw [BigFrame.builtin_append]; simp only [Sem.run_bind, hr, Result.andThen_ok, Sem.run_pure]) (hK _ v' w' hun ?_ ?_ ?_)
            · rw [hv']
              exact ⟨_, upd_self, by simpa [capOf] using hnc', by simp [capOf]⟩
            · refine hs.new hb hgB ⟨cur.toList, hgh, ?_⟩ h6
              refine ⟨?_, ?_, (fun hh => by cases hh), fun _ => ⟨h2, hcm, by simpa using hcs⟩⟩
              · rw [hsum, htk]
                exact (ha1.append ha2).mono fun _ _ => CR.mono hun
              · rw [hsum]
                have : (n' + m) * i.size ≤ cap * i.size := Nat.mul_le_mul_right _ hnc'
                simp; omega
            · exact Fr.new hs hb hgB h6
        · cases h
      · cases h
    · cases h
  · cases h
/-- .. what is added may be of another row type. -/
theorem app_ty {e e' t' ty : TypeId} {cs : Array Bool} {K : KV} (ht : P.underlying t = some (.slice e)) (ht' : P.underlying t' = some (.slice e')) (h : blt P .append #[t, t] ty cs #[u, v] K w) : blt P .append #[t, t'] ty cs #[u, v] K w := by
  have e1 : (Builtin.append_ #[t, t'] ty #[u, v]).run P w = (Builtin.append_ #[t, t] ty #[u, v]).run P w := by
    cases u <;> simp [Builtin.append_, Sem.run_bind, run_underlying ht, run_underlying ht']
  unfold blt at *
  rw [BigFrame.builtin_append] at *
  simp only [Sem.run_bind] at *
  rw [e1]
  exact h
def sliceT (P : Program) (t t' : TypeId) : Bool := match Nat.beq t t' with | true => true | false => match P.underlying t, P.underlying t' with | some (.slice _), some (.slice _) => true | _, _ => false
end
end Go.Proofs.YtnmjfakibhekmaaGreatDoor
