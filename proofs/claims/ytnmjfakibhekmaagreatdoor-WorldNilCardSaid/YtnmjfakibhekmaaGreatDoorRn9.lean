/- Runs in which all is known but where blocks stand: maps that are made and written. Nothing of the program is named here. -/
import Derived.Test.YtnmjfakibhekmaaGreatDoorRn8
namespace Go.Proofs.YtnmjfakibhekmaaGreatDoor
set_option maxRecDepth 100000
open Go.RowKit

section
variable {α β : Type} {r : α → β → Prop}
theorem All2.modify {f : α → α} {g : β → β} (hfg : ∀ a b, r a b → r (f a) (g b)) {l : List α} {m : List β} (h : All2 r l m) : ∀ i, All2 r (l.modify i f) (m.modify i g) := by
  induction h with
  | nil => intro i; simp; exact .nil
  | cons h1 h2 ih =>
    intro i
    cases i with
    | zero => exact .cons (hfg _ _ h1) h2
    | succ i => exact .cons h1 (ih i)
theorem All2.eraseIdx {l : List α} {m : List β} (h : All2 r l m) : ∀ i, All2 r (l.eraseIdx i) (m.eraseIdx i) := by
  induction h with
  | nil => intro i; exact .nil
  | cons h1 h2 ih =>
    intro i
    cases i with
    | zero => exact h2
    | succ i => exact .cons h1 (ih i)
theorem All2.filter {p : α → Bool} {q : β → Bool} (hpq : ∀ a b, r a b → p a = q b) {l : List α} {m : List β} (h : All2 r l m) : All2 r (l.filter p) (m.filter q) := by
  induction h with
  | nil => exact .nil
  | cons h1 h2 ih =>
    rw [List.filter_cons, List.filter_cons, hpq _ _ h1]
    split
    · exact .cons h1 ih
    · exact ih
theorem All2.allEq {p : α → Bool} {q : β → Bool} (hpq : ∀ a b, r a b → p a = q b) {l : List α} {m : List β} (h : All2 r l m) : l.all p = m.all q := by
  induction h with
  | nil => rfl
  | cons h1 h2 ih => rw [List.all_cons, List.all_cons, hpq _ _ h1, ih]
theorem All2.find {p : α → Bool} {q : β → Bool} (hpq : ∀ a b, r a b → p a = q b) {l : List α} {m : List β} (h : All2 r l m) {a : α} (hf : l.find? p = some a) : ∃ b, m.find? q = some b ∧ r a b := by
  induction h with
  | nil => cases hf
  | cons h1 h2 ih =>
    rw [List.find?_cons] at hf ⊢
    rw [← hpq _ _ h1]
    split at hf
    · rename_i hp; cases hf; exact ⟨_, rfl, h1⟩
    · rename_i hp; exact ih hf
end

section
variable {P : Program} {G : Glo} {B0 : Nat} {R : Lay} {H H' : AH} {w w' : World} {t : TypeId} {x y r : GV} {u v : Value}
theorem alloc_below (o : Obj) : Below w.heap.size w (w.alloc o) := below_of_grown (World.grownBy_alloc _ _ none) (Nat.le_refl _) (fun k hk => by cases hk)
def newO (H : AH) (o : AO) (f : Nat → CV) : Option (GV × AH) := match Nat.blt H.n 8192 with | true => some (oneG (f H.n), H.new o) | false => none
theorem newO_ok {o : AO} {ob : Obj} {f : Nat → CV} {K : KV} (h : newO H o f = some (r, H')) (hs : Sim G B0 R H w) (ho : objR (upd R H.n ⟨w.heap.size, 0⟩) (w.alloc ob) ⟨w.heap.size, 0⟩ o) (hf : (f H.n).rel (upd R H.n ⟨w.heap.size, 0⟩) v)
    (hK : ∀ R' v w', Lay.le R R' → r.rel R' v → Sim G B0 R' H' w' → Fr B0 R H w R' H' w' → K v w') : K v (w.alloc ob) := by
  unfold newO at h
  split at h
  · rename_i hn
    cases h
    exact hK _ _ _ (hs.upd_le ⟨w.heap.size, 0⟩) hf (hs.new (alloc_below ob) (Nat.le_refl _) ho (blt_iff.1 hn)) (Fr.new hs (alloc_below ob) (Nat.le_refl _) (blt_iff.1 hn))
  · cases h
def mkMapG (P : Program) (H : AH) (t : TypeId) (rs : Option GV) : Option (GV × AH) :=
  match rs with
  | none => newO H (.map [] 0) .m
  | some q => match natG q, P.underlying t with | some _, some (.map _ _) => newO H (.map [] 0) .m | _, _ => none
theorem mkMap_yls {rs : Option GV} {rv : Option Value} (h : mkMapG P H t rs = some (r, H')) (hs : Sim G B0 R H w) (hr : optRel R rs rv) : Yls G B0 (mkMap P t rv) R H r H' w := by
  intro K hK
  have fin : newO H (.map [] 0) .m = some (r, H') → K (.map (some w.heap.size)) (w.alloc (.map #[] 0)) := fun h =>
    newO_ok h hs ⟨[], .nil, heap_alloc_new _ _⟩ ⟨_, upd_self, rfl⟩ hK
  unfold mkMapG at h
  unfold mkMap
  cases rs with
  | none =>
    cases rv with
    | some _ => exact hr.elim
    | none => exact okV_of (w' := w.alloc (.map #[] 0)) (v := .map (some w.heap.size)) (by simp [Instr.makeMap, go_sem]) (fin h)
  | some q =>
    cases rv with
    | none => exact hr.elim
    | some qv =>
      simp only at h
      split at h
      · rename_i p kt e hp ht
        have := natG_rel hp hr
        subst this
        refine okV_of (w' := w.alloc (.map #[] 0)) (v := .map (some w.heap.size)) ?_ (fin h)
        unfold Instr.makeMap
        simp [run_underlying ht, asInt, asIntOf, go_sem]
      · cases h

/-- An object that is no row is written. -/
theorem run_setObj {B : Nat} {o o' : Obj} (h : w.heap[B]? = some o) (hn : ∀ a b c, o ≠ .cells a b c) : (setObj B o').run P w = .ok () { w with heap := w.heap.setIfInBounds B o' } := by
  cases o with
  | cells a b c => exact absurd rfl (hn a b c)
  | _ => simp [setObj, Sem.run, h]
theorem run_getObj {B : Nat} {o : Obj} (h : w.heap[B]? = some o) (hn : ∀ a b c, o ≠ .cells a b c) : (getObj B).run P w = .ok o w := by
  cases o with
  | cells a b c => exact absurd rfl (hn a b c)
  | _ => simp [getObj, Sem.run, h]
theorem setObj_get {B : Nat} {o o' : Obj} (h : w.heap[B]? = some o) : ({ w with heap := w.heap.setIfInBounds B o' } : World).heap[B]? = some o' := by
  have := (Array.getElem?_eq_some_iff.1 h).1
  simp [this]
theorem setObj_oth (B : Nat) (o' : Obj) : Oth B w { w with heap := w.heap.setIfInBounds B o' } :=
  ⟨rfl, rfl, rfl, by simp, fun k hk => by simp [Array.getElem?_setIfInBounds_ne (Ne.symm hk)]⟩
theorem Sim.obj' {b : Nat} {o : AO} (hs : Sim G B0 R H w) (hg : H.get b = some o) (hl : o.live = true) {L : Loc} (hL : R b = some L) : objR R w L o ∧ B0 ≤ L.B := by
  obtain ⟨M, h1, h2, h3⟩ := hs.obj b o hg hl
  rw [hL] at h1; cases h1
  exact ⟨h3, h2⟩

def valG : GV → Option AV
  | .val a => some a
  | _ => none
def mUpdG (P : Program) (H : AH) (t : TypeId) (m k x : GV) : Option (GV × AH) :=
  match P.underlying t, m, toV k, x with
  | some (.map kt _), .val (.one (.m b)), some kv, .val a => match H.get b, P.underlying kt, prun P (Instr.checkKey false 10000 kt kv) with
    | some (.map es clock), some _, some () => match findA P kt kv es 0 with
      | some (some j) => match prun P (Instr.keyThatStays (((es[j]?).map (·.key)).getD kv) kv) with
        | some key => some (undefG, H.put b (.map (es.modify j fun e => { e with key := key, val := a }) clock))
        | none => none
      | some none => some (undefG, H.put b (.map (es ++ [⟨kv, a, clock⟩]) (clock + 1)))
      | none => none
    | _, _, _ => none
  | _, _, _, _ => none
theorem mUpd_yls {m k : GV} {mv kv : Value} (h : mUpdG P H t m k x = some (r, H')) (hs : Sim G B0 R H w) (hm : m.rel R mv) (hk : k.rel R kv) (hx : x.rel R u) : Yls G B0 (mUpd P t mv kv u) R H r H' w := by
  intro K hK
  unfold mUpdG at h
  split at h
  · rename_i kt e b kv' a ht hkv
    have := toV_rel hkv hk
    subst this
    obtain ⟨L, hL, rfl⟩ := hm
    have hx : a.rel R u := hx
    split at h
    · rename_i es clock d hg hd hck
      obtain ⟨⟨vs, hvs, hget⟩, hB⟩ := hs.obj' hg rfl hL
      have hrun := run_getObj (P := P) hget (by intros; simp)
      have fin : ∀ es' vs' clock', All2 (EntR R) es' vs' → r = undefG → H' = H.put b (.map es' clock') → K undef { w with heap := w.heap.setIfInBounds L.B (.map (List.toArray vs') clock') } := by
        rintro es' vs' clock' h1 rfl rfl
        have ho := setObj_oth (w := w) L.B (.map (List.toArray vs') clock')
        exact hK R _ _ (Lay.le.refl R) rfl (hs.put hg rfl hL ho.size ho.other ⟨vs', h1, setObj_get hget⟩) (Fr.put hs hg rfl hL ho)
      split at h
      · rename_i j hf
        obtain ⟨q, hq, hfr⟩ := find_ok hd hvs hf
        cases q with
        | none => exact hfr.elim
        | some q =>
          obtain ⟨hj, _, ea, he1, he2⟩ := hfr
          obtain ⟨jq, qv⟩ := q
          simp only at hj
          subst hj
          rw [Nat.sub_zero] at he1
          obtain ⟨eb, hb1, hb2⟩ := hvs.get he1
          split at h
          · rename_i key hkey
            cases h
            rw [he1] at hkey
            have hkr := prun_run hkey w
            have hck' := prun_run hck w
            have hq' := hq w
            refine okU_of (u := ()) ?_ (fin _ (vs.modify jq fun e => { e with key := key, val := u }) clock (hvs.modify (fun p q hpq => ⟨rfl, hx, hpq.2.2⟩) jq) rfl rfl)
            have hk2 : ((vs.toArray[jq]?).map (·.key)).getD kv = ((some ea).map (·.key)).getD kv := by simp [hb1, hb2.1]
            unfold Instr.mapUpdate
            simp only [Sem.run_bind, run_underlying ht, Result.andThen_ok, hrun, hck', hq', hk2, hkr]
            rw [run_setObj hget (by intros; simp)]
            simp
          · cases h
      · rename_i hf
        obtain ⟨q, hq, hfr⟩ := find_ok hd hvs hf
        cases q with
        | some q => exact hfr.elim
        | none =>
          cases h
          have hck' := prun_run hck w
          have hq' := hq w
          refine okU_of (u := ()) ?_ (fin _ (vs ++ [⟨kv, u, clock⟩]) (clock + 1) (hvs.append (.cons ⟨rfl, hx, rfl⟩ .nil)) rfl rfl)
          unfold Instr.mapUpdate
          simp only [Sem.run_bind, run_underlying ht, Result.andThen_ok, hrun, hck', hq']
          rw [run_setObj hget (by intros; simp)]
          simp
      · cases h
    · cases h
  · cases h

/-! ## Going over a map. -/
def rngG (P : Program) (H : AH) (t : TypeId) (x : GV) : Option (GV × AH) :=
  match P.underlying t, x with
  | some (.map _ _), .val (.one (.m b)) => match H.get b with
    | some (.map _ clock) => newO H (.mit (some b) clock [] clock) .it
    | _ => none
  | some (.map _ _), .val (.one (.k (.map none))) => newO H (.mit none 0 [] 0) .it
  | some .string, .val (.one (.k (.string s))) => newO H (.sit s 0) .it
  | _, _ => none
theorem rng_yls (h : rngG P H t x = some (r, H')) (hs : Sim G B0 R H w) (hx : x.rel R u) : Yls G B0 (rng P t u) R H r H' w := by
  intro K hK
  unfold rngG at h
  unfold rng
  split at h
  · rename_i kt e b ht
    split at h
    · rename_i es clock hg
      obtain ⟨L, hL, rfl⟩ := hx
      obtain ⟨⟨vs, hvs, hget⟩, hB⟩ := hs.obj' hg rfl hL
      have hrun := run_getObj (P := P) hget (by intros; simp)
      refine okV_of (w' := w.alloc (.mapIter (some L.B) clock #[] clock)) (v := .pointer (some ⟨w.heap.size, 0, none⟩)) ?_ (newO_ok h hs ⟨L, hs.upd_le _ _ _ hL, heap_alloc_new _ _⟩ ⟨_, upd_self, rfl⟩ hK)
      unfold Instr.range
      simp [run_underlying ht, hrun, go_sem]
    · cases h
  · rename_i kt e ht
    cases hx
    refine okV_of (w' := w.alloc (.mapIter none 0 #[] 0)) (v := .pointer (some ⟨w.heap.size, 0, none⟩)) ?_ (newO_ok h hs (heap_alloc_new _ _) ⟨_, upd_self, rfl⟩ hK)
    unfold Instr.range
    simp [run_underlying ht, go_sem]
  · rename_i s ht
    cases hx
    refine okV_of (w' := w.alloc (.stringIter s 0)) (v := .pointer (some ⟨w.heap.size, 0, none⟩)) ?_ (newO_ok h hs (heap_alloc_new _ _) ⟨_, upd_self, rfl⟩ hK)
    unfold Instr.range
    simp [run_underlying ht, go_sem]
  · cases h
def overG : GV := .tup [.one (.k (.bool false))]
theorem overG_rel : overG.rel R (.tuple #[.bool false]) := ⟨_, .cons rfl .nil, rfl⟩
def nxtG (H : AH) (it : GV) (str : Bool) : Option (GV × AH) :=
  match it, str with
  | .val (.one (.it b)), false => match H.get b with
    | some (.mit none _ _ _) => some (overG, H)
    | some (.mit (some m) since seen last) => match H.get m with
      | some (.map es clock) => match !seen.isEmpty && !es.isEmpty && es.all (fun e => decide (e.born ≥ last)) with
        | true => none
        | false => match es.filter (fun e => !seen.contains e.born) with
          | [] => some (overG, H)
          | [e] => match decide (e.born < since), ofV e.key with
            | true, .val k => some (.tup [.one (.k (.bool true)), k, e.val], H.put b (.mit (some m) since (seen ++ [e.born]) clock))
            | _, _ => none
          | _ => none
      | _ => none
    | _ => none
  | _, _ => none
theorem nxt_yls {it : GV} {iv : Value} {str : Bool} {ty : TypeId} (h : nxtG H it str = some (r, H')) (hs : Sim G B0 R H w) (hi : it.rel R iv) : Yls G B0 (nxt P iv str ty) R H r H' w := by
  intro K hK
  unfold nxtG at h
  unfold nxt
  split at h
  · rename_i b
    obtain ⟨L, hL, rfl⟩ := hi
    split at h
    · rename_i s0 a0 l0 hg
      cases h
      obtain ⟨hget, hB⟩ := hs.obj' hg rfl hL
      have hrun := run_getObj (P := P) hget (by intros; simp)
      refine okV_of (w' := w) (v := .tuple #[.bool false]) ?_ (hK R _ w (Lay.le.refl R) overG_rel hs (Fr.refl ..))
      unfold Instr.next
      simp [hrun, go_sem]
    · rename_i m since seen last hg
      obtain ⟨⟨M, hM, hget⟩, hB⟩ := hs.obj' hg rfl hL
      have hrun := run_getObj (P := P) hget (by intros; simp)
      split at h
      · rename_i es clock hgm
        obtain ⟨⟨vs, hvs, hgetm⟩, hBm⟩ := hs.obj' hgm rfl hM
        have hrunm := run_getObj (P := P) hgetm (by intros; simp)
        split at h
        · cases h
        · rename_i hno
          have hno' : (!seen.toArray.isEmpty && !vs.toArray.isEmpty && vs.toArray.all (fun e => decide (e.born ≥ last))) = false := by
            rw [← hno]
            congr 1
            · congr 1
              · simp
              · cases hvs <;> simp
            · rw [List.all_toArray]
              exact (hvs.allEq (fun a b hab => by rw [hab.2.2])).symm
          have hfil : All2 (EntR R) (es.filter (fun e => !seen.contains e.born)) (vs.filter (fun e => !seen.toArray.contains e.born)) := hvs.filter (fun a b hab => by rw [hab.2.2]; simp)
          split at h
          · rename_i hl
            cases h
            rw [hl] at hfil
            have hl' : vs.filter (fun e => !seen.toArray.contains e.born) = [] := List.eq_nil_of_length_eq_zero (by have := hfil.len; simpa using this)
            refine okV_of (w' := w) (v := .tuple #[.bool false]) ?_ (hK R _ w (Lay.le.refl R) overG_rel hs (Fr.refl ..))
            unfold Instr.next
            simp only [Sem.run_bind, hrun, Result.andThen_ok, hrunm, hno', Bool.false_eq_true, if_false, Sem.run_pure]
            simp only [List.filter_toArray', List.filter_toArray, hl']
            simp [Question.forced]
          · rename_i ea hl
            split at h
            · rename_i hb hk
              cases h
              have hb := of_decide_eq_true hb
              rw [hl] at hfil
              obtain ⟨eb, hl', hab⟩ : ∃ eb, vs.filter (fun e => !seen.toArray.contains e.born) = [eb] ∧ EntR R ea eb := by
                cases hq : vs.filter (fun e => !seen.toArray.contains e.born) with
                | nil => rw [hq] at hfil; cases hfil
                | cons eb tl =>
                  rw [hq] at hfil
                  cases hfil with
                  | cons h1 h2 => cases h2; exact ⟨eb, rfl, h1⟩
              have hbb : eb.born < since := by rw [hab.2.2]; exact hb
              have ho := setObj_oth (w := w) L.B (.mapIter (some M.B) since (seen.toArray.push eb.born) clock)
              refine okV_of (w' := { w with heap := w.heap.setIfInBounds L.B (.mapIter (some M.B) since (seen.toArray.push eb.born) clock) }) (v := .tuple #[.bool true, eb.key, eb.val]) ?_
                (hK R _ _ (Lay.le.refl R) ⟨_, .cons rfl (.cons ?_ (.cons hab.2.1 .nil)), rfl⟩ (hs.put hg rfl hL ho.size ho.other ⟨M, hM, ?_⟩) (Fr.put hs hg rfl hL ho))
              · unfold Instr.next
                simp only [Sem.run_bind, hrun, Result.andThen_ok, hrunm, hno', Bool.false_eq_true, if_false, Sem.run_pure]
                simp only [List.filter_toArray', List.filter_toArray, hl']
                simp [Question.forced, hbb]
                rw [run_setObj hget (by intros; simp)]
                simp
              · rw [hab.1]
                have := ofV_rel (R := R) (v := ea.key)
                rw [hk] at this
                exact this
              · rw [setObj_get hget, hab.2.2]; simp
            · cases h
          · cases h
      · cases h
    · cases h
  · cases h
def entG (H : AH) (it : GV) : Option GV :=
  match it with
  | .val (.one (.it b)) => match H.get b with
    | some (.mit (some m) _ seen last) => match H.get m with
      | some (.map es clock) => match Nat.beq clock last, seen.getLast? with
        | true, some st => match es.find? (fun e => e.born == st) with
          | some e => match ofV e.key with | .val k => some (.tup [k, e.val]) | _ => none
          | none => none
        | _, _ => none
      | _ => none
    | _ => none
  | _ => none
theorem ent_yld {it : GV} {iv : Value} (h : entG H it = some r) (hs : Sim G B0 R H w) (hi : it.rel R iv) : Yld (ent P iv) R r w := by
  unfold entG at h
  split at h
  · rename_i b
    obtain ⟨L, hL, rfl⟩ := hi
    split at h
    · rename_i m since seen last hg
      obtain ⟨⟨M, hM, hget⟩, hB⟩ := hs.obj' hg rfl hL
      have hrun := run_getObj (P := P) hget (by intros; simp)
      split at h
      · rename_i es clock hgm
        obtain ⟨⟨vs, hvs, hgetm⟩, hBm⟩ := hs.obj' hgm rfl hM
        have hrunm := run_getObj (P := P) hgetm (by intros; simp)
        split at h
        · rename_i st hcl hst
          have hcl := Nat.eq_of_beq_eq_true hcl
          split at h
          · rename_i ea hf
            obtain ⟨eb, hfb, hab⟩ := hvs.find (q := fun e => e.born == st) (fun a b hab => by rw [hab.2.2]) hf
            split at h
            · rename_i k hk
              cases h
              refine ⟨.tuple #[eb.key, eb.val], ⟨_, .cons ?_ (.cons hab.2.1 .nil), rfl⟩, fun K hk => ?_⟩
              · rw [hab.1]
                have := ofV_rel (R := R) (v := ea.key)
                rw [hk] at this
                exact this
              · unfold ent
                refine okV_of (w' := w) ?_ hk
                unfold Instr.entry
                simp [hrun, hst, hrunm, hcl, hfb]
            · cases h
          · cases h
        · cases h
      · cases h
    · cases h
  · cases h
def delG (P : Program) (H : AH) (t : TypeId) (m k : GV) : Option (GV × AH) :=
  match P.underlying t, m, toV k with
  | some (.map kt _), .val (.one (.m b)), some kv => match H.get b, P.underlying kt with
    | some (.map es clock), some _ => match prun P (Instr.checkKey es.isEmpty 10000 kt kv), findA P kt kv es 0 with
      | some (), some (some j) => some (.tup [], H.put b (.map (es.eraseIdx j) clock))
      | some (), some none => some (.tup [], H)
      | _, _ => none
    | _, _ => none
  | _, _, _ => none
theorem setObj_same {B : Nat} {o : Obj} (h : w.heap[B]? = some o) : ({ w with heap := w.heap.setIfInBounds B o } : World) = w := by
  have : w.heap.setIfInBounds B o = w.heap := by
    apply Array.ext_getElem?
    intro i
    by_cases hi : i = B
    · subst hi
      have := (Array.getElem?_eq_some_iff.1 h).1
      simp [this]
      exact (Array.getElem?_eq_some_iff.1 h).2.symm
    · simp [Array.getElem?_setIfInBounds_ne (Ne.symm hi)]
  rw [this]
theorem del_yls {m k : GV} {mv kv : Value} {ty tk : TypeId} {cs : Array Bool} (h : delG P H t m k = some (r, H')) (hs : Sim G B0 R H w) (hm : m.rel R mv) (hk : k.rel R kv) : Yls G B0 (blt P .delete #[t, tk] ty cs #[mv, kv]) R H r H' w := by
  intro K hK
  unfold delG at h
  split at h
  · rename_i kt e b kv' ht hkv
    have := toV_rel hkv hk
    subst this
    obtain ⟨L, hL, rfl⟩ := hm
    split at h
    · rename_i es clock d hg hd
      obtain ⟨⟨vs, hvs, hget⟩, hB⟩ := hs.obj' hg rfl hL
      have hrun := run_getObj (P := P) hget (by intros; simp)
      have hemp : vs.toArray.isEmpty = es.isEmpty := by
        cases hvs with
        | nil => rfl
        | cons _ _ => simp
      have blt_d : ∀ {w'}, (Builtin.delete_ #[t, tk] ty #[.map (some L.B), kv]).run P w = .ok (.tuple #[]) w' → K (.tuple #[]) w' → blt P .delete #[t, tk] ty cs #[.map (some L.B), kv] K w := by
        intro w' h1 h2
        refine blt_of ?_ h2
        show (do pure (Next.value (← Builtin.delete_ #[t, tk] ty #[.map (some L.B), kv])) : Sem Next).run P w = _
        simp only [Sem.run_bind, h1, Result.andThen_ok, Sem.run_pure]
      split at h
      · rename_i j hck hf
        obtain ⟨q, hq, hfr⟩ := find_ok hd hvs hf
        cases q with
        | none => exact hfr.elim
        | some q =>
          obtain ⟨hj, _, ea, he1, he2⟩ := hfr
          obtain ⟨jq, qv⟩ := q
          simp only at hj
          subst hj
          cases h
          have hck' := prun_run hck w
          rw [← hemp, show vs.toArray.isEmpty = vs.isEmpty by simp] at hck'
          have hq' := hq w
          have ho := setObj_oth (w := w) L.B (.map (List.toArray (vs.eraseIdx jq)) clock)
          have hjl : jq < vs.length := by
            have := (List.getElem?_eq_some_iff.1 he1).1
            rw [hvs.len]; simpa using this
          refine blt_d ?_ (hK R _ _ (Lay.le.refl R) ⟨[], .nil, rfl⟩ (hs.put hg rfl hL ho.size ho.other ⟨_, hvs.eraseIdx jq, setObj_get hget⟩) (Fr.put hs hg rfl hL ho))
          unfold Builtin.delete_
          simp [run_underlying ht, hrun, hck', hq']
          rw [run_setObj hget (by intros; simp)]
          simp [hjl]
      · rename_i hck hf
        obtain ⟨q, hq, hfr⟩ := find_ok hd hvs hf
        cases q with
        | some q => exact hfr.elim
        | none =>
          cases h
          have hck' := prun_run hck w
          rw [← hemp, show vs.toArray.isEmpty = vs.isEmpty by simp] at hck'
          have hq' := hq w
          refine blt_d (w' := w) ?_ (hK R _ _ (Lay.le.refl R) ⟨[], .nil, rfl⟩ hs (Fr.refl ..))
          unfold Builtin.delete_
          simp [run_underlying ht, hrun, hck', hq']
          rw [run_setObj hget (by intros; simp), setObj_same hget]
          simp
      · cases h
    · cases h
  · cases h
end
end Go.Proofs.YtnmjfakibhekmaaGreatDoor
