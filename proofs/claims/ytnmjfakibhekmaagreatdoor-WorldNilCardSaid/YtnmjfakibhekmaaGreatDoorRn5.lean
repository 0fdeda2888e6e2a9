/- Runs in which all is known but where blocks stand: maps, lengths; all operations that read. Nothing of the program is named here. -/
import Derived.Test.YtnmjfakibhekmaaGreatDoorRn4
namespace Go.Proofs.YtnmjfakibhekmaaGreatDoor
set_option maxRecDepth 100000
open Go.RowKit

/-! ## Finding a key. -/
def findA (P : Program) (kt : TypeId) (k : Value) : List AEnt → Nat → Option (Option Nat)
  | [], _ => some none
  | e :: r, i => match prun P (Op.equal kt k e.key) with | some true => some (some i) | some false => findA P kt k r (i + 1) | none => none
section
variable {P : Program} {G : Glo} {B0 : Nat} {R : Lay} {H : AH} {w : World} {t : TypeId} {x y r : GV} {u v : Value}
theorem sameNow_run {d : TypeDesc} {kt : TypeId} {a b : Value} {c : Bool} (hd : P.underlying kt = some d) (h : Instr.sameNow d a b = some c) : (Op.equal kt a b).run P w = .ok c w := by
  unfold Instr.sameNow at h
  split at h
  · split at h
    · rename_i hk; cases h; subst hk; exact run_equalIn_int w 9999 kt _ _ _ _ hd
    · cases h
  · rename_i x y
    cases h
    have := run_equalIn_string (P := P) w 9999 kt x y hd
    rw [← beq_toListBytes x y] at this
    exact this
  · cases h; exact run_equalIn_bool' w 9999 kt _ _ hd
  · cases h
/-- What is found, and what findKey finds. -/
def FR (R : Lay) (es : List AEnt) (i : Nat) : Option Nat → Option (Nat × Value) → Prop
  | none, none => True
  | some j, some (j', v) => j' = j ∧ i ≤ j ∧ ∃ a, es[j - i]? = some a ∧ a.val.rel R v
  | _, _ => False
theorem FR.succ {a : AEnt} {es : List AEnt} {i : Nat} {p : Option Nat} {q : Option (Nat × Value)} (h : FR R es (i + 1) p q) : FR R (a :: es) i p q := by
  cases p with
  | none => cases q with | none => trivial | some _ => exact h.elim
  | some j =>
    cases q with
    | none => exact h.elim
    | some q =>
      obtain ⟨h1, h2, b, h3, h4⟩ := h
      refine ⟨h1, by omega, b, ?_, h4⟩
      have : j - i = (j - (i + 1)) + 1 := by omega
      rw [this]; exact h3
theorem now_ok {d : TypeDesc} {kt : TypeId} {k : Value} (hd : P.underlying kt = some d) : ∀ {es : List AEnt} {vs : List MapEntry} {i : Nat} {p : Option Nat} {q : Option (Nat × Value)},
    All2 (EntR R) es vs → findA P kt k es i = some p → Instr.findNow d k vs i = some q → FR R es i p q := by
  intro es vs i p q hr
  induction hr generalizing i with
  | nil => intro h1 h2; cases h1; cases h2; trivial
  | @cons a b l m hab _ ih =>
    intro h1 h2
    unfold findA at h1
    unfold Instr.findNow at h2
    cases hs : Instr.sameNow d k b.key with
    | none => rw [hs] at h2; cases h2
    | some c =>
      have hrun := sameNow_run (w := default) hd hs
      rw [hab.1] at hrun
      rw [hs] at h2
      cases he : prun P (Op.equal kt k a.key) with
      | none => rw [he] at h1; cases h1
      | some c' =>
        have := prun_run he default
        rw [hrun] at this
        cases this
        rw [he] at h1
        cases c with
        | true => cases h1; cases h2; exact ⟨rfl, Nat.le_refl _, a, by simp, hab.2.1⟩
        | false => exact (ih h1 h2).succ
theorem ask_ok {kt : TypeId} {k : Value} : ∀ {es : List AEnt} {vs : List MapEntry} {i : Nat} {p : Option Nat},
    All2 (EntR R) es vs → findA P kt k es i = some p → ∃ q, (∀ w, (Instr.findAsking kt k vs i).run P w = .ok q w) ∧ FR R es i p q := by
  intro es vs i p hr
  induction hr generalizing i with
  | nil => intro h1; cases h1; exact ⟨none, fun w => rfl, trivial⟩
  | @cons a b l m hab _ ih =>
    intro h1
    unfold findA at h1
    cases he : prun P (Op.equal kt k a.key) with
    | none => rw [he] at h1; cases h1
    | some c =>
      have hrun := fun w => prun_run he w
      rw [he] at h1
      cases c with
      | true =>
        cases h1
        refine ⟨some (i, b.val), fun w => ?_, ⟨rfl, Nat.le_refl _, a, by simp, hab.2.1⟩⟩
        simp only [Instr.findAsking, Sem.run_bind, hab.1, hrun, Result.andThen_ok, if_true, Sem.run_pure]
      | false =>
        obtain ⟨q, h2, h3⟩ := ih h1
        refine ⟨q, fun w => ?_, h3.succ⟩
        simp only [Instr.findAsking, Sem.run_bind, hab.1, hrun, Result.andThen_ok, Bool.false_eq_true, if_false, h2]
theorem find_ok {kt : TypeId} {k : Value} {d : TypeDesc} (hd : P.underlying kt = some d) {es : List AEnt} {vs : List MapEntry} {p : Option Nat} (hr : All2 (EntR R) es vs) (h : findA P kt k es 0 = some p) :
    ∃ q, (∀ w, (Instr.findKey kt k vs).run P w = .ok q w) ∧ FR R es 0 p q := by
  cases hn : Instr.findNow d k vs 0 with
  | some q => exact ⟨q, fun w => by simp only [Instr.findKey, Sem.run_bind, run_underlying hd, Result.andThen_ok, hn, Sem.run_pure], now_ok hd hr h hn⟩
  | none =>
    obtain ⟨q, h1, h2⟩ := ask_ok hr h
    exact ⟨q, fun w => by simp only [Instr.findKey, Sem.run_bind, run_underlying hd, Result.andThen_ok, hn, h1], h2⟩

/-! ## Looking up. -/
def mapOf (H : AH) (x : GV) : Option (List AEnt) :=
  match x with
  | .val (.one (.m b)) => match H.get b with | some (.map es _) => some es | _ => none
  | .val (.one (.k (.map none))) => some []
  | _ => none
def zeroG (P : Program) (t : TypeId) : Option AV :=
  match (P.info? t).bind (·.zero) with
  | some z => match ofV z with | .val a => some a | _ => none
  | none => none
def lkpG (P : Program) (H : AH) (t : TypeId) (x i : GV) (ok : Bool) : Option GV :=
  match P.underlying t, mapOf H x, toV i with
  | some (.map kt e), some es, some k => match P.underlying kt, prun P (Instr.checkKey es.isEmpty 10000 kt k), findA P kt k es 0, zeroG P e with
    | some _, some (), some (some j), _ => match es[j]? with | some a => some (match ok with | true => .tup [a.val, .one (.k (.bool true))] | false => .val a.val) | none => none
    | some _, some (), some none, some z => some (match ok with | true => .tup [z, .one (.k (.bool false))] | false => .val z)
    | _, _, _, _ => none
  | _, _, _ => none
theorem zeroG_ok {a : AV} (h : zeroG P t = some a) : ∃ z, (∀ w, (zeroValue t).run P w = .ok z w) ∧ a.rel R z := by
  unfold zeroG at h
  cases hi : P.info? t with
  | none => simp [hi] at h
  | some i =>
    cases hz : i.zero with
    | none => simp [hi, hz] at h
    | some z =>
      simp only [hi, Option.bind_some, hz] at h
      refine ⟨z, fun w => by simp [zeroValue, typeInfo, hi, hz], ?_⟩
      have := ofV_rel (R := R) (v := z)
      split at h
      · rename_i q hq; cases h; rw [hq] at this; exact this
      · cases h
theorem mapOf_ok {es : List AEnt} (h : mapOf H x = some es) (hs : Sim G B0 R H w) (hx : x.rel R u) :
    (u = .map none ∧ es = []) ∨ ∃ B vs clock, u = .map (some B) ∧ All2 (EntR R) es vs ∧ w.heap[B]? = some (.map vs.toArray clock) := by
  unfold mapOf at h
  split at h
  · rename_i b
    split at h
    · rename_i es' clock hg
      cases h
      obtain ⟨L, hL, rfl⟩ := hx
      obtain ⟨M, h1, h2, vs, h3, h4⟩ := hs.obj b _ hg rfl
      rw [hL] at h1; cases h1
      exact .inr ⟨_, vs, clock, rfl, h3, h4⟩
    · cases h
  · cases h; cases hx; exact .inl ⟨rfl, rfl⟩
  · cases h
theorem lkp_yld {i : GV} {ok : Bool} (h : lkpG P H t x i ok = some r) (hs : Sim G B0 R H w) (hx : x.rel R u) (hi : i.rel R v) : Yld (lkp P t u v ok) R r w := by
  unfold lkpG at h
  split at h
  · rename_i kt e es k ht hm hk
    have hv := toV_rel hk hi
    subst hv
    obtain ⟨vs, hvs, hu⟩ : ∃ vs, All2 (EntR R) es vs ∧ ((u = .map none ∧ vs = []) ∨ ∃ B clock, u = .map (some B) ∧ w.heap[B]? = some (.map vs.toArray clock)) := by
      rcases mapOf_ok hm hs hx with ⟨rfl, rfl⟩ | ⟨B, vs, clock, rfl, h1, h2⟩
      · exact ⟨[], .nil, .inl ⟨rfl, rfl⟩⟩
      · exact ⟨vs, h1, .inr ⟨B, clock, rfl, h2⟩⟩
    have hemp : vs.toArray.isEmpty = es.isEmpty := by
      cases hvs with
      | nil => rfl
      | cons _ _ => simp
    have body : ∀ (q : Option (Nat × Value)), (∀ w, (Instr.findKey kt v vs).run P w = .ok q w) → (prun P (Instr.checkKey es.isEmpty 10000 kt v) = some ()) → ∀ (p : Value × Bool), (match q with | some (_, v) => p = (v, true) | none => (∀ w, (zeroValue e).run P w = .ok p.1 w) ∧ p.2 = false) →
        ∀ K : KV, K (if ok then .tuple #[p.1, .bool p.2] else p.1) w → lkp P t u v ok K w := by
      intro q hq hck p hp K hK
      have hck' : (Instr.checkKey vs.toArray.isEmpty 10000 kt v).run P w = .ok () w := by rw [hemp]; exact prun_run hck w
      unfold lkp
      refine okV_of (w' := w) ?_ hK
      rcases hu with ⟨rfl, rfl⟩ | ⟨B, clock, rfl, hB⟩
      · unfold Instr.lookup
        simp only [Sem.run_bind, run_underlying ht, Result.andThen_ok, Sem.run_pure, hck', hq]
        cases q with
        | none => simp only [Sem.run_bind, hp.1, Result.andThen_ok, Sem.run_pure, hp.2]
        | some q => simp only at hp; subst hp; simp only [Sem.run_bind, Sem.run_pure, Result.andThen_ok]
      · unfold Instr.lookup
        have hg : (getObj B).run P w = .ok (.map vs.toArray clock) w := by simp [getObj, Sem.run, hB]
        simp only [Sem.run_bind, run_underlying ht, Result.andThen_ok, Sem.run_pure, hg, hck', hq]
        cases q with
        | none => simp only [Sem.run_bind, hp.1, Result.andThen_ok, Sem.run_pure, hp.2]
        | some q => simp only at hp; subst hp; simp only [Sem.run_bind, Sem.run_pure, Result.andThen_ok]
    split at h
    · rename_i d j _ hd hck hf
      obtain ⟨q, hq, hfr⟩ := find_ok hd hvs hf
      split at h
      · rename_i a ha
        cases h
        cases q with
        | none => exact hfr.elim
        | some q =>
          obtain ⟨h1, _, b, h2, h3⟩ := hfr
          rw [Nat.sub_zero, ha] at h2; cases h2
          cases ok with
          | true => exact ⟨_, ⟨_, .cons h3 (.cons rfl .nil), rfl⟩, body _ hq hck (q.2, true) rfl⟩
          | false => exact ⟨_, h3, body _ hq hck (q.2, true) rfl⟩
      · cases h
    · rename_i d z hd hck hf hz
      obtain ⟨q, hq, hfr⟩ := find_ok hd hvs hf
      cases h
      cases q with
      | some q => exact hfr.elim
      | none =>
        obtain ⟨zv, hz1, hz2⟩ := zeroG_ok (R := R) hz
        cases ok with
        | true => exact ⟨_, ⟨_, .cons hz2 (.cons rfl .nil), rfl⟩, body _ hq hck (zv, false) ⟨hz1, rfl⟩⟩
        | false => exact ⟨_, hz2, body _ hq hck (zv, false) ⟨hz1, rfl⟩⟩
    · cases h
  · cases h

/-! ## Lengths, and other builtins. -/
def vals : List GV → Option (List Value)
  | [] => some []
  | a :: r => match toV a, vals r with | some v, some l => some (v :: l) | _, _ => none
theorem vals_rel : ∀ {l : List GV} {q m : List Value}, vals l = some q → All2 (GV.rel R) l m → m = q
  | [], _, _, h, hr => by cases h; cases hr; rfl
  | a :: l, q, m, h, hr => by
    unfold vals at h
    split at h
    · rename_i v q' hv hq
      cases h
      cases hr with
      | cons h1 h2 => rw [toV_rel hv h1, vals_rel hq h2]
    · cases h
def bltG (P : Program) (H : AH) (b : Builtin) (ats : Array TypeId) (ty : TypeId) (cs : Array Bool) (l : List GV) : Option GV :=
  match vals l with
  | some vs => match prun P (builtin b ats ty cs vs.toArray) with | some (.value v) => some (kG v) | _ => none
  | none => match b, ats.toList, l with
    | .len, [t], [.val (.one (.s _ _ _ n _))] => match P.underlying t with | some (.slice _) => some (kG (.int .i64 (n : Int))) | _ => none
    | .len, [t], [.val (.one (.se ..))] => match P.underlying t with | some (.slice _) => some (kG (.int .i64 ((0 : Nat) : Int))) | _ => none
    | .len, [t], [.val (.one (.m b))] => match P.underlying t, H.get b with | some (.map _ _), some (.map es _) => some (kG (.int .i64 (es.length : Int))) | _, _ => none
    | _, _, _ => none
theorem blt_yld {b : Builtin} {ats : Array TypeId} {ty : TypeId} {cs : Array Bool} {l : List GV} {m : List Value} (h : bltG P H b ats ty cs l = some r) (hs : Sim G B0 R H w) (hl : All2 (GV.rel R) l m) : Yld (blt P b ats ty cs m.toArray) R r w := by
  unfold bltG at h
  split at h
  · rename_i vs hvs
    rw [vals_rel hvs hl]
    split at h
    · rename_i v hv
      cases h
      exact ⟨v, rfl, fun K hk => blt_of (prun_run hv w) hk⟩
    · cases h
  · split at h
    · rename_i t0 b0 o lo n c hat hno
      split at h
      · rename_i e ht
        cases h
        cases hl with
        | cons h1 h2 =>
          cases h2
          obtain ⟨L, hL, hnc, rfl⟩ := h1
          have : ats = #[t0] := by rw [← Array.toArray_toList (xs := ats), hat]
          subst this
          exact ⟨_, rfl, fun K hk => len_slc ht hk⟩
      · cases h
    · rename_i t0 b0 o o' lo q hat hno
      split at h
      · rename_i e ht
        cases h
        cases hl with
        | cons h1 h2 =>
          cases h2
          obtain ⟨L, hL, rfl⟩ := h1
          have : ats = #[t0] := by rw [← Array.toArray_toList (xs := ats), hat]
          subst this
          exact ⟨_, rfl, fun K hk => len_slc ht hk⟩
      · cases h
    · rename_i t0 b0 hat hno
      split at h
      · rename_i k e es clock ht hg
        cases h
        cases hl with
        | cons h1 h2 =>
          cases h2
          obtain ⟨L, hL, rfl⟩ := h1
          obtain ⟨M, g1, g2, vs, g3, g4⟩ := hs.obj b0 _ hg rfl
          rw [hL] at g1; cases g1
          have : ats = #[t0] := by rw [← Array.toArray_toList (xs := ats), hat]
          subst this
          refine ⟨_, rfl, fun K hk => blt_of ?_ hk⟩
          have hget : (getObj L.B).run P w = .ok (.map vs.toArray clock) w := by simp [getObj, Sem.run, g4]
          rw [BigFrame.builtin_len]
          simp [Builtin.len_, run_underlying ht, Sem.run_pure, goInt, hget, g3.len]
      · cases h
    · cases h

/-! ## All of them. -/
def optE (E : Tr GV) (n : Nat) : Option Operand → Option (Option GV)
  | none => some none
  | some x => match evG E n x with | some a => some (some a) | none => none
def evL (E : Tr GV) (n : Nat) : List Operand → Option (List GV)
  | [] => some []
  | x :: r => match evG E n x, evL E n r with | some a, some l => some (a :: l) | _, _ => none
theorem optE_rel {n : Nat} {E : Tr GV} {e : Env} (he : EnvR R n E e) {x : Option Operand} {a : Option GV} (h : optE E n x = some a) : optRel R a (x.map (ev e)) := by
  cases x with
  | none => cases h; trivial
  | some x =>
    unfold optE at h
    simp only at h
    split at h
    · rename_i q hq; cases h; exact evG_rel he hq
    · cases h
theorem evL_rel {n : Nat} {E : Tr GV} {e : Env} (he : EnvR R n E e) : ∀ {l : List Operand} {m : List GV}, evL E n l = some m → All2 (GV.rel R) m (l.map (ev e))
  | [], _, h => by cases h; exact .nil
  | x :: l, m, h => by
    unfold evL at h
    split at h
    · rename_i a m' ha hm
      cases h
      exact .cons (evG_rel he ha) (evL_rel he hm)
    · cases h
def ptrsG : List GV → Option (List (Nat × Nat))
  | [] => some []
  | .val (.one (.p b o)) :: r => match ptrsG r with | some l => some ((b, o) :: l) | none => none
  | _ => none
theorem ptrsG_rel : ∀ {l : List GV} {q : List (Nat × Nat)} {m : List Value}, ptrsG l = some q → All2 (GV.rel R) l m → All2 (prel R) q m
  | [], _, _, h, hr => by cases h; cases hr; exact .nil
  | .val (.one (.p b o)) :: l, q, m, h, hr => by
    unfold ptrsG at h
    split at h
    · rename_i q' hq
      cases h
      cases hr with
      | cons h1 h2 => exact .cons h1 (ptrsG_rel hq h2)
    · cases h
def fnG (fn : Fn) (x y : List GV) : Option GV :=
  match x, y, fn with
  | [], [], fn => some (kG (.func fn #[] #[]))
  | _, _, .func f => match ptrsG x, ptrsG y with | some a, some b => some (oneG (.f f a b)) | _, _ => none
  | _, _, _ => none
theorem fnG_rel {fn : Fn} {a b : List GV} {as bs : List Value} (h : fnG fn a b = some r) (ha : All2 (GV.rel R) a as) (hb : All2 (GV.rel R) b bs) : r.rel R (.func fn as.toArray bs.toArray) := by
  unfold fnG at h
  split at h
  · cases h; cases ha; cases hb; exact rfl
  · split at h
    · rename_i p q hp hq
      cases h
      exact ⟨_, _, ptrsG_rel hp ha, ptrsG_rel hq hb, rfl⟩
    · cases h
  · cases h
section
variable {P : Program} {G : Glo} {B0 : Nat} {R : Lay} {H H' : AH} {w w' : World} {t : TypeId} {x y r : GV} {u v : Value}
/-- A row told as long as is known that it has room for (where it is cut again, to a given end). -/
def groG (H : AH) (x : GV) (hi : Option GV) : GV :=
  match hi, x with
  | some _, .val (.one (.s b o lo n none)) => match H.get b with
    | some (.cells _ z true cs) => match Nat.blt n (Nat.sub (Nat.div cs.length z) lo) with | true => .val (.one (.s b o lo (Nat.sub (Nat.div cs.length z) lo) none)) | false => x
    | _ => x
  | _, _ => x
theorem slc_any {a : Option Addr} {n m c : Nat} {lo mx : Option Value} {h : Value} {K : KV} (k : slc P t (.slice a n c) lo (some h) mx K w) : slc P t (.slice a m c) lo (some h) mx K w := by
  unfold slc at *
  have e : (Instr.sliceAt t (.slice a n c) lo (some h) mx) = (Instr.sliceAt t (.slice a m c) lo (some h) mx) := by
    have hb : ∀ b, Instr.sliceBounds b n c lo (some h) mx = Instr.sliceBounds b m c lo (some h) mx := fun b => by cases mx <;> rfl
    have e2 : Instr.slice t (.slice a n c) lo (some h) mx = Instr.slice t (.slice a m c) lo (some h) mx := by
      unfold Instr.slice
      congr 1
      funext d
      cases d <;> first | rfl | (dsimp only; rw [hb true])
    unfold Instr.sliceAt
    congr 1
    funext d
    cases d <;> first | exact e2 | rfl
  rw [← e]; exact k
theorem gro_ok (hs : Sim G B0 R H w) (hx : x.rel R u) (hi : Option GV) {hv : Option Value} (hr : optRel R hi hv) : ∃ u', (groG H x hi).rel R u' ∧ ∀ lo mx (K : KV), slc P t u' lo hv mx K w → slc P t u lo hv mx K w := by
  have same : groG H x hi = x → ∃ u', (groG H x hi).rel R u' ∧ ∀ lo mx (K : KV), slc P t u' lo hv mx K w → slc P t u lo hv mx K w := fun e => ⟨u, by rw [e]; exact hx, fun _ _ _ h => h⟩
  unfold groG at *
  split
  · rename_i a b o lo n
    split
    · rename_i e z cs hg
      split
      · rename_i hb
        obtain ⟨L, hL, hn, rfl⟩ := hx
        obtain ⟨c, _, hc, _⟩ := hs.cells hg hL
        obtain ⟨hz, hm, hcl⟩ := hc.room rfl
        have hle := hc.le
        have hdiv : cs.length / z ≤ L.cap := Nat.div_le_of_le_mul (by rw [hcl] at hle; rw [Nat.mul_comm]; exact hle)
        cases hv with
        | none => exact hr.elim
        | some h =>
          refine ⟨.slice (some ⟨L.B, o, none⟩) (cs.length / z - lo) (capOf L lo none), ⟨L, hL, ?_, rfl⟩, fun lo' mx K k => slc_any k⟩
          show cs.length / z - lo ≤ L.cap - lo
          omega
      · exact ⟨u, hx, fun _ _ _ h => h⟩
    · exact ⟨u, hx, fun _ _ _ h => h⟩
  · exact ⟨u, hx, fun _ _ _ h => h⟩
end
def rOp (P : Program) (G : Glo) (H : AH) (E : Tr GV) (n : Nat) (o : Oper) : Option GV :=
  match o.op with
  | .move x => evG E n x
  | .assign x => evG E n x
  | .load t a => match evG E n a with | some a => ldG P G H t a | none => none
  | .fieldAddr t x f => match evG E n x with | some x => fldAG P t x f | none => none
  | .indexAddr t x i => match evG E n x, evG E n i with | some x, some i => idxAG P t x i | _, _ => none
  | .binOp op t x y _ => match evG E n x, evG E n y with | some a, some b => binG P op t (isC x) (isC y) a b | _, _ => none
  | .nilCheck x => match evG E n x with | some x => (match nilCG x with | true => some x | false => none) | none => none
  | .pick c a b => match evG E n c, evG E n a, evG E n b with | some c, some a, some b => pickG c a b | _, _, _ => none
  | .extract t i => match evG E n t with | some x => extG x i | none => none
  | .unOp op _ x => match evG E n x with | some x => unG P op x | none => none
  | .convert s d x => match evG E n x with | some x => convG P H s d x | none => none
  | .field t x f => match evG E n x with | some x => fldV P t x f | none => none
  | .index t x i => match evG E n x, evG E n i with | some x, some i => idxV P t x i | _, _ => none
  | .slice t x lo hi mx => match evG E n x, optE E n lo, optE E n hi, optE E n mx with | some x, some l, some h, some m => slcG P t (groG H x h) l h m | _, _, _, _ => none
  | .lookup t x i ok => match evG E n x, evG E n i with | some x, some i => lkpG P H t x i ok | _, _ => none
  | .makeFunc fn a b => match evL E n a.toList, evL E n b.toList with | some a, some b => fnG fn a b | _, _ => none
  | .call c => match c.callee with
    | .builtin b => match evL E n c.args.toList with | some l => bltG P H b c.argTypes o.type (c.args.toList.map isC).toArray l | none => none
    | _ => none
  | _ => none
theorem rOp_yld {n : Nat} {E : Tr GV} {e : Env} {o : Oper} (h : rOp P G H E n o = some r) (he : EnvR R n E e) (hs : Sim G B0 R H w) : Yld (fun K w => cOp P (ev e) o K w) R r w := by
  obtain ⟨dst, op, ty, pos, after, guard⟩ := o
  unfold rOp at h
  cases op with
  | move x => exact ⟨_, evG_rel he h, fun K hk => hk⟩
  | assign x => exact ⟨_, evG_rel he h, fun K hk => hk⟩
  | load t a =>
    simp only at h
    split at h
    · rename_i a ha; exact ld_yld h hs (evG_rel he ha)
    · cases h
  | fieldAddr t x f =>
    simp only at h
    split at h
    · rename_i a ha; exact fldA_yld h (evG_rel he ha)
    · cases h
  | indexAddr t x i =>
    simp only at h
    split at h
    · rename_i a b ha hb; exact idxA_yld h (evG_rel he ha) (evG_rel he hb)
    · cases h
  | binOp op t x y yt =>
    simp only at h
    split at h
    · rename_i a b ha hb; exact bin_yld h (evG_rel he ha) (evG_rel he hb)
    · cases h
  | nilCheck x =>
    simp only at h
    split at h
    · rename_i a ha
      split at h
      · rename_i hc; cases h; exact nilC_yld hc (evG_rel he ha)
      · cases h
    · cases h
  | pick c x y =>
    simp only at h
    split at h
    · rename_i a b c ha hb hc; exact pick_yld h (evG_rel he ha) (evG_rel he hb) (evG_rel he hc)
    · cases h
  | extract t i =>
    simp only at h
    split at h
    · rename_i a ha; exact ext_yld h (evG_rel he ha)
    · cases h
  | unOp op t x =>
    simp only at h
    split at h
    · rename_i a ha; exact un_yld h (evG_rel he ha)
    · cases h
  | convert s d x =>
    simp only at h
    split at h
    · rename_i a ha; exact conv_yld h hs (evG_rel he ha)
    · cases h
  | field t x f =>
    simp only at h
    split at h
    · rename_i a ha; exact fld_yld h (evG_rel he ha)
    · cases h
  | index t x i =>
    simp only at h
    split at h
    · rename_i a b ha hb; exact idx_yld h (evG_rel he ha) (evG_rel he hb)
    · cases h
  | slice t x lo hi mx =>
    simp only at h
    split at h
    · rename_i a b c d ha hb hc hd
      obtain ⟨u', hu, hk⟩ := gro_ok (P := P) (t := t) hs (evG_rel he ha) c (optE_rel he hc)
      obtain ⟨v, h1, h2⟩ := slc_yld h hu (optE_rel he hb) (optE_rel he hc) (optE_rel he hd)
      exact ⟨v, h1, fun K k => hk _ _ K (h2 K k)⟩
    · cases h
  | lookup t x i ok =>
    simp only at h
    split at h
    · rename_i a b ha hb; exact lkp_yld h hs (evG_rel he ha) (evG_rel he hb)
    · cases h
  | makeFunc fn a b =>
    simp only at h
    split at h
    · rename_i a b ha hb; exact ⟨_, fnG_rel h (evL_rel he ha) (evL_rel he hb), fun K hk => hk⟩
    · cases h
  | call c =>
    obtain ⟨cal, args, ats⟩ := c
    cases cal with
    | builtin b =>
      simp only at h
      split at h
      · rename_i l hl
        exact blt_yld h hs (evL_rel he hl)
      · cases h
    | _ => cases h
  | _ => cases h
end
end Go.Proofs.YtnmjfakibhekmaaGreatDoor
