/- Runs in which all is known but where blocks stand: operations that read. Nothing of the program is named here. -/
import Derived.Test.YtnmjfakibhekmaaGreatDoorRn2
namespace Go.Proofs.YtnmjfakibhekmaaGreatDoor
set_option maxRecDepth 100000
open Go.RowKit

def oneG (a : CV) : GV := .val (.one a)
/-! ## Comparisons, numbers, conversions. -/
def nilG (P : Program) (t : TypeId) (x y : GV) : Bool :=
  match x, y with
  | .val (.one (.p _ _)), .val (.one (.k (.pointer none))) => match P.underlying t with | some (.pointer _) => true | _ => false
  | .val (.one (.s ..)), .val (.one (.k (.slice none 0 0))) => match P.underlying t with | some (.slice _) => true | _ => false
  | .val (.one (.se ..)), .val (.one (.k (.slice none 0 0))) => match P.underlying t with | some (.slice _) => true | _ => false
  | .val (.one (.m _)), .val (.one (.k (.map none))) => match P.underlying t with | some (.map _ _) => true | _ => false
  | .val (.one (.f ..)), .val (.one (.k .nilFunc)) => match P.underlying t with | some (.func ..) => true | _ => false
  | _, _ => false
def binG (P : Program) (op : BinOp) (t : TypeId) (cx cy : Bool) (x y : GV) : Option GV :=
  match toV x, toV y with
  | some u, some v => (prun P (do eqG op t cx cy u v; binOp op t u v)).map kG
  | _, _ => match nilG P t x y with
    | true => match op with | .eql => some (kG (.bool false)) | .neq => some (kG (.bool true)) | _ => none
    | false => none

section
variable {P : Program} {G : Glo} {B0 : Nat} {R : Lay} {H : AH} {w : World} {t : TypeId} {x y r : GV} {u v : Value}
theorem eqIn_p {d : Nat} {e : TypeId} {a : Addr} (h : P.underlying t = some (.pointer e)) : (Op.equalIn (d + 1) t (.pointer (some a)) (.pointer none)).run P w = .ok false w := by
  simp [Op.equalIn, run_underlying h]
theorem eqIn_f {d : Nat} {a b : Array TypeId} {q : Bool} {fn : Fn} {xs ys : Array Value} (h : P.underlying t = some (.func a b q)) : (Op.equalIn (d + 1) t (.func fn xs ys) .nilFunc).run P w = .ok false w := by
  simp [Op.equalIn, run_underlying h]
theorem nilG_ok (h : nilG P t x y = true) (hx : x.rel R u) (hy : y.rel R v) : (∀ w, (Op.equal t u v).run P w = .ok false w) ∧ ∀ op cx cy w, (eqG op t cx cy u v).run P w = .ok () w := by
  unfold nilG at h
  split at h
  · split at h
    · rename_i hu; obtain ⟨L, _, rfl⟩ := hx; cases hy
      exact ⟨fun w => eqIn_p (d := 9999) hu, fun op cx cy w => by unfold eqG eqGuard; cases op <;> simp [Sem.run_pure]⟩
    · cases h
  · split at h
    · rename_i hu; obtain ⟨L, _, _, rfl⟩ := hx; cases hy
      exact ⟨fun w => run_equal_slice_nil w t _ _ _ _ hu, fun op cx cy w => by unfold eqG eqGuard; cases op <;> simp [Sem.run_pure]⟩
    · cases h
  · split at h
    · rename_i hu; obtain ⟨L, _, rfl⟩ := hx; cases hy
      exact ⟨fun w => run_equal_slice_nil w t _ _ _ _ hu, fun op cx cy w => by unfold eqG eqGuard; cases op <;> simp [Sem.run_pure]⟩
    · cases h
  · split at h
    · rename_i hu; obtain ⟨L, _, rfl⟩ := hx; cases hy
      exact ⟨fun w => run_equal_map_nil w t _ _ _ hu, fun op cx cy w => by unfold eqG eqGuard; cases op <;> simp [Sem.run_pure]⟩
    · cases h
  · split at h
    · rename_i hu; obtain ⟨xs, ys, _, _, rfl⟩ := hx; cases hy
      exact ⟨fun w => eqIn_f (d := 9999) hu, fun op cx cy w => by unfold eqG eqGuard; cases op <;> simp [Sem.run_pure]⟩
    · cases h
  · cases h
theorem bin_yld {op : BinOp} {cx cy : Bool} (h : binG P op t cx cy x y = some r) (hx : x.rel R u) (hy : y.rel R v) : Yld (bin P op t cx cy u v) R r w := by
  unfold binG at h
  split at h
  · rename_i a b ha hb
    cases hq : prun P (do eqG op t cx cy a b; binOp op t a b) with
    | none => rw [hq] at h; cases h
    | some q =>
      rw [hq] at h; cases h
      rw [toV_rel ha hx, toV_rel hb hy]
      exact ⟨q, rfl, fun K hk => okV_of (prun_run hq w) hk⟩
  · split at h
    · rename_i hn
      obtain ⟨he, hg⟩ := nilG_ok hn hx hy
      have key : ∀ c : Bool, (op = .eql ∧ c = false ∨ op = .neq ∧ c = true) → Yld (bin P op t cx cy u v) R (kG (.bool c)) w := by
        intro c hc
        refine ⟨.bool c, rfl, fun K hk => bin_of (hg ..) ?_ hk⟩
        have hi : ∀ k k' a b, ¬ (u = .int k a ∧ v = .int k' b) := by
          rintro k k' a b ⟨rfl, rfl⟩
          unfold nilG at hn
          split at hn <;> first | (cases hy; done) | cases hn
        rcases hc with ⟨rfl, rfl⟩ | ⟨rfl, rfl⟩
        · unfold nilG at hn
          split at hn <;> first
            | (obtain ⟨L, _, rfl⟩ := hx; cases hy; simp only [binOp, Sem.run_bind, he, Result.andThen_ok, Sem.run_pure]; done)
            | (obtain ⟨_, _, _, rfl⟩ := hx; cases hy; simp only [binOp, Sem.run_bind, he, Result.andThen_ok, Sem.run_pure]; done)
            | (obtain ⟨_, _, _, _, rfl⟩ := hx; cases hy; simp only [binOp, Sem.run_bind, he, Result.andThen_ok, Sem.run_pure]; done)
            | cases hn
        · unfold nilG at hn
          split at hn <;> first
            | (obtain ⟨L, _, rfl⟩ := hx; cases hy; simp only [binOp, Sem.run_bind, he, Result.andThen_ok, Sem.run_pure]; rfl)
            | (obtain ⟨_, _, _, rfl⟩ := hx; cases hy; simp only [binOp, Sem.run_bind, he, Result.andThen_ok, Sem.run_pure]; rfl)
            | (obtain ⟨_, _, _, _, rfl⟩ := hx; cases hy; simp only [binOp, Sem.run_bind, he, Result.andThen_ok, Sem.run_pure]; rfl)
            | cases hn
      split at h
      · cases h; exact key _ (.inl ⟨rfl, rfl⟩)
      · cases h; exact key _ (.inr ⟨rfl, rfl⟩)
      · cases h
    · cases h
end

def unG (P : Program) (op : UnOp) (x : GV) : Option GV := match toV x with | some u => (prun P (Op.unary op u)).map kG | none => none
theorem un_yld {P : Program} {R : Lay} {w : World} {op : UnOp} {x r : GV} {u : Value} (h : unG P op x = some r) (hx : x.rel R u) : Yld (un P op u) R r w := by
  unfold unG at h
  split at h
  · rename_i a ha
    cases hq : prun P (Op.unary op a) with
    | none => rw [hq] at h; cases h
    | some q =>
      rw [hq] at h; cases h
      rw [toV_rel ha hx]
      exact ⟨q, rfl, fun K hk => okV_of (prun_run hq w) hk⟩
  · cases h

def bytesK : List CV → Option (List UInt8)
  | [] => some []
  | .k (.int .u8 (.ofNat n)) :: r => match Nat.blt n 256 with | true => (match bytesK r with | some l => some (UInt8.ofNat n :: l) | none => none) | false => none
  | _ => none
theorem bytesK_rel {R : Lay} : ∀ {cs : List CV} {l : List UInt8} {vs : List Value}, bytesK cs = some l → All2 (CR R) cs vs → vs = l.map u8v
  | [], _, _, h, hr => by cases h; cases hr; rfl
  | .k (.int .u8 (.ofNat n)) :: r, l, vs, h, hr => by
    unfold bytesK at h
    split at h
    · rename_i hb
      split at h
      · rename_i l' hl
        cases h
        cases hr with
        | cons h1 h2 =>
          rw [bytesK_rel hl h2, h1.1]
          have : (UInt8.ofNat n).toNat = n := by
            have := blt_iff.1 hb
            simp; omega
          simp [u8v, this]
      · cases h
    · cases h
theorem bytesK_len : ∀ {cs : List CV} {l : List UInt8}, bytesK cs = some l → l.length = cs.length
  | [], _, h => by cases h; rfl
  | .k (.int .u8 (.ofNat n)) :: r, l, h => by
    unfold bytesK at h
    split at h
    · split at h
      · rename_i hl; cases h; simp [bytesK_len hl]
      · cases h
    · cases h
def convG (P : Program) (H : AH) (s d : TypeId) (x : GV) : Option GV :=
  match toV x with
  | some u => (prun P (convert s d u)).map kG
  | none => match x with
    | .val (.one (.s b o _ n _)) => match P.underlying s, P.underlying d, H.get b with
      | some (.slice e), some .string, some (.cells _ _ _ cs) => match P.underlying e with
        | some (.int .u8) => match bytesK ((cs.drop o).take n) with
          | some l => match Nat.beq l.length n with | true => some (kG (.string (bstr l))) | false => none
          | none => none
        | _ => none
      | _, _, _ => none
    | _ => none
theorem take_cells {cs : List CV} {R : Lay} {c : List Value} (hc : All2 (CR R) cs (c.take cs.length)) {o n : Nat} (hn : ((cs.drop o).take n).length = n) : All2 (CR R) ((cs.drop o).take n) ((c.drop o).take n) := by
  have h := (hc.drop o).take n
  have e : ((c.take cs.length).drop o).take n = (c.drop o).take n := by
    rw [List.drop_take, List.take_take]
    congr 1
    have : n ≤ cs.length - o := by rw [List.length_take, List.length_drop] at hn; omega
    omega
  rw [e] at h; exact h
section
variable {P : Program} {G : Glo} {B0 : Nat} {R : Lay} {H : AH} {w : World} {t : TypeId} {x y r : GV} {u v : Value}
theorem Sim.cells (hs : Sim G B0 R H w) {b : Nat} {e : TypeId} {z : Nat} {g : Bool} {cs : List CV} (hb : H.get b = some (.cells e z g cs)) {L : Loc} (hL : R b = some L) : ∃ c, blk w L.B e c ∧ CellsR R L z g cs c ∧ B0 ≤ L.B := by
  obtain ⟨M, h1, h2, c, h3, h4⟩ := hs.obj b _ hb rfl
  rw [hL] at h1; cases h1
  exact ⟨c, h3, h4, h2⟩
theorem conv_yld {s d : TypeId} (h : convG P H s d x = some r) (hs : Sim G B0 R H w) (hx : x.rel R u) : Yld (conv P s d u) R r w := by
  unfold convG at h
  split at h
  · rename_i a ha
    cases hq : prun P (convert s d a) with
    | none => rw [hq] at h; cases h
    | some q =>
      rw [hq] at h; cases h
      rw [toV_rel ha hx]
      exact ⟨q, rfl, fun K hk => okV_of (prun_run hq w) hk⟩
  · split at h
    · rename_i b o lo n c hno
      split at h
      · rename_i e0 e z g cs hs' hd hg
        split at h
        · rename_i he
          split at h
          · rename_i l hl
            split at h
            · rename_i hbq
              cases h
              obtain ⟨L, hL, hnc, rfl⟩ := hx
              obtain ⟨cc, hb, hc, _⟩ := hs.cells hg hL
              have hbn : l.length = n := Nat.eq_of_beq_eq_true hbq
              have hlen : ((cs.drop o).take n).length = n := by
                rw [← bytesK_len hl, hbn]
              have hv' := bytesK_rel hl (take_cells hc.rel hlen)
              refine ⟨_, rfl, fun K hk => conv_str hs' he hd (l := l) ?_ hk⟩
              refine ⟨by simpa using hbn, hnc, fun _ => ⟨_, _, rfl⟩, (fun h => nomatch h), fun i v hv => ?_⟩
              rw [slotA_some, hb.cell, ← hv, ← hv']
              rw [List.getElem?_take, List.getElem?_drop, if_pos]
              have := (List.getElem?_eq_some_iff.1 hv).1
              rw [List.length_map] at this
              omega
            · cases h
          · cases h
        · cases h
      · cases h
    · cases h

/-! ## Places. -/
def mvG (x : GV) (d : Nat) : Option GV :=
  match x with
  | .val (.one (.p b o)) => some (oneG (.p b (o + d)))
  | .val (.one (.g b o)) => some (oneG (.g b (o + d)))
  | _ => none
theorem mvG_rel {d : Nat} (h : mvG x d = some r) (hx : x.rel R u) : ∃ B o, u = .pointer (some ⟨B, o, none⟩) ∧ r.rel R (.pointer (some ⟨B, o + d, none⟩)) := by
  unfold mvG at h
  split at h
  · cases h; obtain ⟨L, h1, rfl⟩ := hx; exact ⟨_, _, rfl, L, h1, rfl⟩
  · cases h; cases hx; exact ⟨_, _, rfl, rfl⟩
  · cases h
def fldAG (P : Program) (t : TypeId) (x : GV) (f : Nat) : Option GV := match fOff P t f with | some off => mvG x off | none => none
theorem fldA_yld {f : Nat} (h : fldAG P t x f = some r) (hx : x.rel R u) : Yld (fldA P t u f) R r w := by
  unfold fldAG at h
  split at h
  · rename_i off hf
    obtain ⟨B, o, rfl, hr⟩ := mvG_rel h hx
    exact ⟨_, hr, fun K hk => fldA_of hf hk⟩
  · cases h
theorem size_run {e : TypeId} {i : TypeInfo} (hi : P.info? e = some i) : ∀ w, (sizeOf e).run P w = .ok i.size w := fun w => by simp [sizeOf, typeInfo, hi]
def natG : GV → Option (IntKind × Nat)
  | .val (.one (.k (.int k (.ofNat n)))) => some (k, n)
  | _ => none
theorem natG_rel {q : IntKind × Nat} (h : natG x = some q) (hx : x.rel R u) : u = .int q.1 (q.2 : Int) := by
  unfold natG at h
  split at h
  · cases h; cases hx; rfl
  · cases h
def idxAG (P : Program) (t : TypeId) (x i : GV) : Option GV :=
  match natG i, P.underlying t with
  | some (_, j), some (.array n e) => match Nat.blt j n, P.info? e with
    | true, some ie => mvG x (j * ie.size)
    | _, _ => none
  | some (_, j), some (.slice e) => match x, P.info? e with
    | .val (.one (.s b o _ n _)), some ie => match Nat.blt j n with
      | true => some (oneG (.p b (o + j * ie.size)))
      | false => none
    | _, _ => none
  | _, _ => none
theorem idxA_yld {i : GV} (h : idxAG P t x i = some r) (hx : x.rel R u) (hi : i.rel R v) : Yld (idxA P t u v) R r w := by
  unfold idxAG at h
  split at h
  · rename_i k j n e hn ht
    have hv := natG_rel hn hi
    subst hv
    split at h
    · rename_i ie hb hie
      obtain ⟨B, o, rfl, hr⟩ := mvG_rel h hx
      have hlt := blt_iff.1 hb
      exact ⟨_, hr, fun K hk => idxArr ht (size_run hie) (by simp) (by simpa using hlt) (by simpa using hk)⟩
    · cases h
  · rename_i k j e hn ht
    have hv := natG_rel hn hi
    subst hv
    split at h
    · rename_i b o lo n c ie hie
      split at h
      · rename_i hb
        cases h
        obtain ⟨L, hL, _, rfl⟩ := hx
        have hlt := blt_iff.1 hb
        exact ⟨_, ⟨L, hL, rfl⟩, fun K hk => idxRow ht (size_run hie) (by simp) (by simpa using hlt) (by simpa using hk)⟩
      · cases h
    · cases h
  · cases h
def nilCG : GV → Bool
  | .val (.one (.p ..)) => true
  | .val (.one (.g ..)) => true
  | .val (.one (.f ..)) => true
  | .val (.one (.k (.func (.func _) _ _))) => true
  | _ => false
theorem nilC_yld (h : nilCG x = true) (hx : x.rel R u) : Yld (nilC u) R x w := by
  refine ⟨u, hx, fun K hk => ?_⟩
  unfold nilCG at h
  split at h
  · obtain ⟨L, _, rfl⟩ := hx; exact hk
  · cases hx; exact hk
  · obtain ⟨xs, ys, _, _, rfl⟩ := hx; exact hk
  · cases hx; exact hk
  · cases h

/-! ## Reading. -/
def ldCells (P : Program) (t : TypeId) (cs : List CV) (o : Nat) : Option GV :=
  match P.underlying t with
  | some d => match d.isRow with
    | true => match P.info? t with
      | some i => match Nat.beq ((cs.drop o).take i.size).length i.size with | true => some (.val (.agg ((cs.drop o).take i.size))) | false => none
      | none => none
    | false => match cs[o]? with | some c => some (oneG c) | none => none
  | none => none
theorem isAgg_run {d : TypeDesc} (hd : P.underlying t = some d) (hr : d.isRow = false) : ∀ w, (isAgg t).run P w = .ok false w := fun w => by
  unfold isAgg
  rw [Sem.run_bind, run_underlying hd w]
  cases d <;> simp_all [TypeDesc.isRow]
theorem ldCells_yld {cs : List CV} {o B : Nat} {c : List Value} (h : ldCells P t cs o = some r) (hb : ∀ o, w.cell? ⟨B, o, none⟩ = c[o]?) (hc : All2 (CR R) cs (c.take cs.length)) : Yld (ld P t (.pointer (some ⟨B, o, none⟩))) R r w := by
  unfold ldCells at h
  split at h
  · rename_i d hd
    split at h
    · rename_i hr
      split at h
      · rename_i i hi
        split at h
        · rename_i hbq
          cases h
          have hlen := Nat.eq_of_beq_eq_true hbq
          have ha := take_cells hc hlen
          refine ⟨_, ⟨_, ha, rfl⟩, fun K hk => ld_of (run_loadVar_mid w B o t _ d ?_ hd hr (by rw [ha.len, hlen]; simp [hi])) hk⟩
          intro j v hj
          rw [hb]
          rw [List.getElem?_take] at hj
          split at hj
          · rw [List.getElem?_drop] at hj; exact hj
          · cases hj
        · cases h
      · cases h
    · rename_i hr
      split at h
      · rename_i a ha
        cases h
        obtain ⟨v, hv, hav⟩ := hc.get ha
        have hv2 : c[o]? = some v := by
          rw [List.getElem?_take] at hv
          split at hv
          · exact hv
          · cases hv
        exact ⟨v, hav.1, fun K hk => ld_cell (isAgg_run hd hr) (by rw [hb, hv2]) hk⟩
      · cases h
  · cases h
def ldG (P : Program) (G : Glo) (H : AH) (t : TypeId) (x : GV) : Option GV :=
  match x with
  | .val (.one (.p b o)) => match H.get b with
    | some (.cells _ _ _ cs) => ldCells P t cs o
    | _ => none
  | .val (.one (.g b o)) => match G b with
    | some (_, cs) => match cs.all (·.oneCell') with | true => ldCells P t (cs.map .k) o | false => none
    | none => none
  | _ => none
theorem ld_yld (h : ldG P G H t x = some r) (hs : Sim G B0 R H w) (hx : x.rel R u) : Yld (ld P t u) R r w := by
  unfold ldG at h
  split at h
  · split at h
    · rename_i e z g cs hg
      obtain ⟨L, hL, rfl⟩ := hx
      obtain ⟨c, hb, hc, _⟩ := hs.cells hg hL
      exact ldCells_yld h hb.cell hc.rel
    · cases h
  · rename_i b o
    split at h
    · rename_i e cs hg
      split at h
      · rename_i hall
        cases hx
        exact ldCells_yld h (hs.glob _ _ _ hg).2.cell (by have := kL_rel (R := R) hall; rwa [List.take_of_length_le (by simp)])
      · cases h
    · cases h
  · cases h
def fldV (P : Program) (t : TypeId) (x : GV) (f : Nat) : Option GV :=
  match x with
  | .val (.agg cs) => match fldOf P t f with
    | some (off, n, true) => match Nat.beq ((cs.drop off).take n).length n with | true => some (.val (.agg ((cs.drop off).take n))) | false => none
    | some (off, _, false) => match cs[off]? with | some c => some (oneG c) | none => none
    | none => none
  | _ => none
theorem fld_yld {f : Nat} (h : fldV P t x f = some r) (hx : x.rel R u) : Yld (fld P t u f) R r w := by
  unfold fldV at h
  split at h
  · rename_i cs
    obtain ⟨vs, hvs, rfl⟩ := hx
    split at h
    · rename_i off n hf
      split at h
      · cases h
        exact ⟨_, ⟨_, (hvs.drop off).take n, rfl⟩, fun K hk => fldG hf rfl hk⟩
      · cases h
    · rename_i off n hf
      split at h
      · rename_i a ha
        cases h
        obtain ⟨v, hv, hav⟩ := hvs.get ha
        exact ⟨v, hav.1, fun K hk => fld1 hf hv hk⟩
      · cases h
    · cases h
  · cases h
def extG (x : GV) (i : Nat) : Option GV := match x with | .tup l => (match l[i]? with | some a => some (.val a) | none => none) | _ => none
theorem ext_yld {i : Nat} (h : extG x i = some r) (hx : x.rel R u) : Yld (ext P u i) R r w := by
  unfold extG at h
  split at h
  · obtain ⟨vs, hvs, rfl⟩ := hx
    split at h
    · rename_i a ha
      cases h
      obtain ⟨v, hv, hav⟩ := hvs.get ha
      exact ⟨v, hav, fun K hk => ext_of (by simpa using hv) hk⟩
    · cases h
  · cases h
def pickG (c x y : GV) : Option GV := match c with | .val (.one (.k (.bool b))) => (match b with | true => some x | false => some y) | _ => none
theorem pick_yld {c : GV} {q : Value} (h : pickG c x y = some r) (hc : c.rel R q) (hx : x.rel R u) (hy : y.rel R v) : Yld (pick q u v) R r w := by
  unfold pickG at h
  split at h
  · cases hc
    split at h
    · cases h; exact ⟨u, hx, fun K hk => ⟨true, rfl, hk⟩⟩
    · cases h; exact ⟨v, hy, fun K hk => ⟨false, rfl, hk⟩⟩
  · cases h
end
end Go.Proofs.YtnmjfakibhekmaaGreatDoor
