/- The document's audit: what it stands for, and the contracts of its readers. -/
import Derived.Test.YtcieejlkdfdpiaaSARef
import Derived.Test.YtcieejlkdfdpiaaSort10
namespace Go.Proofs.Ytcieejlkdfdpiaa
set_option maxRecDepth 100000
open Go.RowKit Go.ChangeMaps
/-! ## Plain -/
structure RS where
  N : List (Int × (Int × Int))
  R : List (Int × Int)
  T : List ((Int × Int) × (Int × Int) × Bool)
  B : List (Int × Int)
def rdC (p : Int × (Int × Int)) : List Value := [.int .u64 p.1, .int .u64 p.2.1, .int .i64 p.2.2]
def rrC (p : Int × Int) : List Value := [.int .u64 p.1, .int .i64 p.2]
def rtC (t : (Int × Int) × (Int × Int) × Bool) : List Value := [.int .i64 t.1.1, .int .u64 t.1.2, .int .u64 t.2.1.1, .int .i64 t.2.1.2, .bool t.2.2]
def rbC (q : Int × Int) : List Value := [.int .i64 q.1, .int .u64 q.2, .int .u64 0, .int .i64 0, .bool false]
def rbel (m : List (Int × (Int × Int))) (of : Int) : Nat → Int → Bool
  | 0, _ => false
  | n + 1, id => if id = of then true else match mget m id with | some v => rbel m of n v.1 | none => false
theorem rbel_is (m : List (Int × (Int × Int))) (of : Int) : ∀ n id, rbel m of (n + 1) id = belS m of n id
  | 0, id => by
    unfold rbel belS
    by_cases h : id = of
    · simp [h]
    · rw [if_neg h]; cases mget m id <;> simp [h, rbel]
  | n + 1, id => by
    unfold rbel belS
    by_cases h : id = of
    · simp [h]
    · rw [if_neg h, if_neg h]
      cases mget m id with
      | none => rfl
      | some v => exact rbel_is m of n v.1
def rlim (R : List (Int × Int)) (id : Int) : Int := (R.map fun r => if r.1 = id then r.2 else 0).sum
def ruse (S : RS) (id : Int) (T : List ((Int × Int) × (Int × Int) × Bool)) : Int := (T.map fun t => if t.2.2 = false ∧ belS S.N id 32 t.2.1.1 = true then t.2.1.2 else 0).sum
def rsum (S : RS) (id : Int) : Int × Int × Int := match mget S.N id with | none => (0, 0, 9) | some n => (n.2 + rlim S.R id, ruse S id S.T, 0)
def rbnd (S : RS) : Bool := S.N.all fun p => decide ((rsum S p.1).2.1 ≤ (rsum S p.1).1)
structure RB0 (S : RS) : Prop where
  N : ∀ p ∈ S.N, 0 ≤ p.2.2 ∧ p.2.2 ≤ 1125899906842624
  R : ∀ p ∈ S.R, 0 ≤ p.2 ∧ p.2 ≤ 1125899906842624
  T : ∀ t ∈ S.T, 0 ≤ t.2.1.2 ∧ t.2.1.2 ≤ 1125899906842624
  nl : S.N.length ≤ 1024
  rl : S.R.length ≤ 1024
  tl : S.T.length ≤ 1024
  bl : S.B.length ≤ 1024
theorem mget_at {κ ν : Type} [DecidableEq κ] : ∀ {m : List (κ × ν)} {k : Nat} {x : κ × ν}, m[k]? = some x → (∀ j y, j < k → m[j]? = some y → y.1 ≠ x.1) → mget m x.1 = some x.2
  | [], k, x, h, _ => by simp at h
  | p :: m, 0, x, h, _ => by simp at h; subst h; simp [mget]
  | p :: m, k + 1, x, h, hj => by
    have h0 := hj 0 p (by omega) (by simp)
    unfold mget
    rw [if_neg h0]
    exact mget_at (k := k) (by simpa using h) (fun j y h1 h2 => hj (j + 1) y (by omega) (by simpa using h2))
theorem rlim_bnd {R : List (Int × Int)} (hb : ∀ p ∈ R, 0 ≤ p.2 ∧ p.2 ≤ 1125899906842624) (id : Int) : 0 ≤ rlim R id ∧ rlim R id ≤ 1125899906842624 * R.length := by
  induction R with
  | nil => simp [rlim]
  | cons r R ih =>
    have h1 := ih (fun p hp => hb p (List.mem_cons_of_mem _ hp))
    have h2 := hb r (by simp)
    have e : rlim (r :: R) id = (if r.1 = id then r.2 else 0) + rlim R id := by simp [rlim]
    rw [e]; simp only [List.length_cons]
    split <;> omega
theorem ruse_bnd {S : RS} {T : List ((Int × Int) × (Int × Int) × Bool)} (hb : ∀ t ∈ T, 0 ≤ t.2.1.2 ∧ t.2.1.2 ≤ 1125899906842624) (id : Int) : 0 ≤ ruse S id T ∧ ruse S id T ≤ 1125899906842624 * T.length := by
  induction T with
  | nil => simp [ruse]
  | cons r R ih =>
    have h1 := ih (fun p hp => hb p (List.mem_cons_of_mem _ hp))
    have h2 := hb r (by simp)
    have e : ruse S id (r :: R) = (if r.2.2 = false ∧ belS S.N id 32 r.2.1.1 = true then r.2.1.2 else 0) + ruse S id R := by simp [ruse]
    rw [e]; simp only [List.length_cons]
    split <;> omega
theorem rlim_snoc (R : List (Int × Int)) (r : Int × Int) (id : Int) : rlim (R ++ [r]) id = rlim R id + (if r.1 = id then r.2 else 0) := by simp [rlim]
theorem ruse_snoc (S : RS) (T : List ((Int × Int) × (Int × Int) × Bool)) (t : (Int × Int) × (Int × Int) × Bool) (id : Int) : ruse S id (T ++ [t]) = ruse S id T + (if t.2.2 = false ∧ belS S.N id 32 t.2.1.1 = true then t.2.1.2 else 0) := by simp [ruse]
theorem take_snoc {α : Type} {L : List α} {k : Nat} {x : α} (h : L[k]? = some x) : L.take (k + 1) = L.take k ++ [x] := by
  rw [List.take_add_one, h]; rfl
theorem flat_at {α : Type} {enc : α → List Value} {s : Nat} (hs : ∀ x, (enc x).length = s) : ∀ (L : List α) (i : Nat) (x : α) (j : Nat), L[i]? = some x → j < s → (L.flatMap enc)[i * s + j]? = (enc x)[j]?
  | [], i, x, j, h, _ => by simp at h
  | y :: L, 0, x, j, h, hj => by
    simp at h; subst h
    rw [List.flatMap_cons, Nat.zero_mul, Nat.zero_add, List.getElem?_append_left (by rw [hs]; exact hj)]
  | y :: L, i + 1, x, j, h, hj => by
    rw [List.flatMap_cons, List.getElem?_append_right (by rw [hs, Nat.succ_mul]; omega), hs, show (i + 1) * s + j - s = i * s + j by rw [Nat.succ_mul]; omega]
    exact flat_at hs L i x j (by simpa using h) hj

/-! ## In memory -/
structure RF where
  p : Nat
  n : Option Addr × Nat
  r : Option Addr × Nat
  t : Option Addr × Nat
  b : Option Addr × Nat
abbrev TRef : TypeId := 31
abbrev TNd : TypeId := 49
abbrev TRs : TypeId := 78
abbrev TTk2 : TypeId := 81
structure RK (w : World) (B : Nat) (f : RF) (S : RS) : Prop where
  head : blk w f.p TRef [.slice f.n.1 S.N.length f.n.2, .slice f.r.1 S.R.length f.r.2, .slice f.t.1 S.T.length f.t.2, .slice f.b.1 S.B.length f.b.2]
  n : w.ownsRow B TNd 3 (.slice f.n.1 S.N.length f.n.2) S.N.length (S.N.flatMap rdC)
  r : w.ownsRow B TRs 2 (.slice f.r.1 S.R.length f.r.2) S.R.length (S.R.flatMap rrC)
  t : w.ownsRow B TTk2 5 (.slice f.t.1 S.T.length f.t.2) S.T.length (S.T.flatMap rtC)
  b : w.ownsRow B TTk2 5 (.slice f.b.1 S.B.length f.b.2) S.B.length (S.B.flatMap rbC)
  hp : B ≤ f.p
  tb : ∀ k, (Value.slice f.t.1 S.T.length f.t.2).ownBlock = some k → (Value.slice f.b.1 S.B.length f.b.2).ownBlock ≠ some k
theorem fA_Ref_0 {w : World} {K : KV} {b o : Nat} (h : K (.pointer (some ⟨b, o + 0, none⟩)) w) : fldA Try.prog 31 (.pointer (some ⟨b, o, none⟩)) 0 K w := fldA_of (by kernel_rfl) h
theorem fA_Ref_1 {w : World} {K : KV} {b o : Nat} (h : K (.pointer (some ⟨b, o + 1, none⟩)) w) : fldA Try.prog 31 (.pointer (some ⟨b, o, none⟩)) 1 K w := fldA_of (by kernel_rfl) h
theorem fA_Ref_2 {w : World} {K : KV} {b o : Nat} (h : K (.pointer (some ⟨b, o + 2, none⟩)) w) : fldA Try.prog 31 (.pointer (some ⟨b, o, none⟩)) 2 K w := fldA_of (by kernel_rfl) h
theorem fA_Ref_3 {w : World} {K : KV} {b o : Nat} (h : K (.pointer (some ⟨b, o + 3, none⟩)) w) : fldA Try.prog 31 (.pointer (some ⟨b, o, none⟩)) 3 K w := fldA_of (by kernel_rfl) h
theorem fA_RNd_0 {w : World} {K : KV} {b o : Nat} (h : K (.pointer (some ⟨b, o + 0, none⟩)) w) : fldA Try.prog 49 (.pointer (some ⟨b, o, none⟩)) 0 K w := fldA_of (by kernel_rfl) h
theorem fA_RNd_1 {w : World} {K : KV} {b o : Nat} (h : K (.pointer (some ⟨b, o + 1, none⟩)) w) : fldA Try.prog 49 (.pointer (some ⟨b, o, none⟩)) 1 K w := fldA_of (by kernel_rfl) h
theorem fA_RNd_2 {w : World} {K : KV} {b o : Nat} (h : K (.pointer (some ⟨b, o + 2, none⟩)) w) : fldA Try.prog 49 (.pointer (some ⟨b, o, none⟩)) 2 K w := fldA_of (by kernel_rfl) h
theorem fA_RRs_0 {w : World} {K : KV} {b o : Nat} (h : K (.pointer (some ⟨b, o + 0, none⟩)) w) : fldA Try.prog 78 (.pointer (some ⟨b, o, none⟩)) 0 K w := fldA_of (by kernel_rfl) h
theorem fA_RRs_1 {w : World} {K : KV} {b o : Nat} (h : K (.pointer (some ⟨b, o + 1, none⟩)) w) : fldA Try.prog 78 (.pointer (some ⟨b, o, none⟩)) 1 K w := fldA_of (by kernel_rfl) h
theorem fA_RTk_0 {w : World} {K : KV} {b o : Nat} (h : K (.pointer (some ⟨b, o + 0, none⟩)) w) : fldA Try.prog 81 (.pointer (some ⟨b, o, none⟩)) 0 K w := fldA_of (by kernel_rfl) h
theorem fA_RTk_1 {w : World} {K : KV} {b o : Nat} (h : K (.pointer (some ⟨b, o + 1, none⟩)) w) : fldA Try.prog 81 (.pointer (some ⟨b, o, none⟩)) 1 K w := fldA_of (by kernel_rfl) h
theorem fA_RTk_2 {w : World} {K : KV} {b o : Nat} (h : K (.pointer (some ⟨b, o + 2, none⟩)) w) : fldA Try.prog 81 (.pointer (some ⟨b, o, none⟩)) 2 K w := fldA_of (by kernel_rfl) h
theorem fA_RTk_3 {w : World} {K : KV} {b o : Nat} (h : K (.pointer (some ⟨b, o + 3, none⟩)) w) : fldA Try.prog 81 (.pointer (some ⟨b, o, none⟩)) 3 K w := fldA_of (by kernel_rfl) h
theorem fA_RTk_4 {w : World} {K : KV} {b o : Nat} (h : K (.pointer (some ⟨b, o + 4, none⟩)) w) : fldA Try.prog 81 (.pointer (some ⟨b, o, none⟩)) 4 K w := fldA_of (by kernel_rfl) h
theorem ld_RL_0 {w : World} {K : KV} {b o : Nat} {E : TypeId} {cs : List Value} (v : Value) (hb : blk w b E cs) (ho : cs[o]? = some v) (h : K v w) : ld Try.prog 27 (.pointer (some ⟨b, o, none⟩)) K w := ld1 (fun _ => by kernel_rfl) hb ho h
theorem ld_RL_1 {w : World} {K : KV} {b o : Nat} {E : TypeId} {cs : List Value} (v : Value) (hb : blk w b E cs) (ho : cs[o]? = some v) (h : K v w) : ld Try.prog 28 (.pointer (some ⟨b, o, none⟩)) K w := ld1 (fun _ => by kernel_rfl) hb ho h
theorem ld_RL_2 {w : World} {K : KV} {b o : Nat} {E : TypeId} {cs : List Value} (v : Value) (hb : blk w b E cs) (ho : cs[o]? = some v) (h : K v w) : ld Try.prog 29 (.pointer (some ⟨b, o, none⟩)) K w := ld1 (fun _ => by kernel_rfl) hb ho h
attribute [local irreducible] bin un conv call callV blt slc fldA fld idxA idx lkp mUpd mEnt eSt rng nxt ent ext alc box bld bldS ld sto nilC mkMap mkS ifc pick rdy wts gsel sti cond retM Gives cCode cGrp cSeq cOp
section
variable {P : Program} {w : World} {K : KV} {α : Type} {enc : α → List Value} {L : List α} {s B n c i : Nat} {a : Option Addr} {t e : TypeId} {k : IntKind} {x : α}
theorem idxOwn (ht : P.underlying t = some (.slice e)) (hsz : ∀ w, (sizeOf e).run P w = .ok s w) (hs : ∀ x, (enc x).length = s) (hr : w.ownsRow B e s (.slice a n c) n (L.flatMap enc)) (hl : L.length = n) (hx : L[i]? = some x)
    (h : ∀ g cur, a = some ⟨g, 0, none⟩ → blk w g e cur → (∀ j, j < s → cur[i * s + j]? = (enc x)[j]?) → K (.pointer (some ⟨g, i * s, none⟩)) w) : idxA P t (.slice a n c) (.int k (i : Nat)) K w := by
  have hi : i < n := by rw [← hl]; exact (List.getElem?_eq_some_iff.1 hx).1
  rcases hr.2 with ⟨_, hz⟩ | ⟨g, cap, cur, hv, hg, hh, hn, hcm, hsz2, htk⟩
  · omega
  simp only [Value.slice.injEq] at hv
  obtain ⟨rfl, _, rfl⟩ := hv
  refine idxRow (s := s) ht hsz (by omega) (by omega) ?_
  rw [Int.toNat_natCast, Nat.zero_add]
  refine h g cur.toList rfl hh (fun j hj => ?_)
  have hlt : i * s + j < n * s := by
    have : (i + 1) * s ≤ n * s := Nat.mul_le_mul_right _ hi
    rw [Nat.succ_mul] at this
    omega
  rw [← flat_at hs L i x j hx hj, ← htk, List.getElem?_take_of_lt hlt]
theorem rd3 {f f' : Nat} {ft : TypeId} {v : Value} {K3 : Value → Value → Value → World → Prop} (ht : P.underlying t = some (.slice e)) (hsz : ∀ w, (sizeOf e).run P w = .ok s w) (hs : ∀ x, (enc x).length = s) (hna : ∀ w, (isAgg ft).run P w = .ok false w) (hf : fOff P e f = some f')
    (hfs : f' < s) (hr : w.ownsRow B e s (.slice a n c) n (L.flatMap enc)) (hl : L.length = n) (hx : L[i]? = some x) (hv : (enc x)[f']? = some v) (h : ∀ u1 u2, K3 u1 u2 v w) :
    idxA P t (.slice a n c) (.int k (i : Nat)) (fun u1 w => fldA P e u1 f (fun u2 w => ld P ft u2 (fun u3 w => K3 u1 u2 u3 w) w) w) w := by
  refine idxOwn ht hsz hs hr hl hx ?_
  intro g cur ha hb hc
  refine fldA_of hf ?_
  refine ld1 hna hb (by rw [hc _ hfs]; exact hv) ?_
  exact h _ _
end
section
variable {w : World} {K : KV} {B : Nat} {f : RF} {S : RS} {i : Nat}
theorem rdC_len : ∀ x, (rdC x).length = 3 := fun _ => rfl
theorem rrC_len : ∀ x, (rrC x).length = 2 := fun _ => rfl
theorem rtC_len : ∀ x, (rtC x).length = 5 := fun _ => rfl
theorem rbC_len : ∀ x, (rbC x).length = 5 := fun _ => rfl
variable {K3 : Value → Value → Value → World → Prop}
theorem rdN0 {x : Int × (Int × Int)} (hr : RK w B f S) (hx : S.N[i]? = some x) (h : ∀ u1 u2, K3 u1 u2 (.int .u64 x.1) w) : idxA Try.prog 27 (.slice f.n.1 S.N.length f.n.2) (.int .i64 (i : Nat)) (fun u1 w => fldA Try.prog 49 u1 0 (fun u2 w => ld Try.prog 33 u2 (fun u3 w => K3 u1 u2 u3 w) w) w) w :=
  rd3 Try.underlying27 (fun _ => by kernel_rfl) rdC_len (fun _ => by kernel_rfl) (f' := 0) (by kernel_rfl) (by omega) hr.n rfl hx rfl h
theorem rdN1 {x : Int × (Int × Int)} (hr : RK w B f S) (hx : S.N[i]? = some x) (h : ∀ u1 u2, K3 u1 u2 (.int .u64 x.2.1) w) : idxA Try.prog 27 (.slice f.n.1 S.N.length f.n.2) (.int .i64 (i : Nat)) (fun u1 w => fldA Try.prog 49 u1 1 (fun u2 w => ld Try.prog 33 u2 (fun u3 w => K3 u1 u2 u3 w) w) w) w :=
  rd3 Try.underlying27 (fun _ => by kernel_rfl) rdC_len (fun _ => by kernel_rfl) (f' := 1) (by kernel_rfl) (by omega) hr.n rfl hx rfl h
theorem rdN2 {x : Int × (Int × Int)} (hr : RK w B f S) (hx : S.N[i]? = some x) (h : ∀ u1 u2, K3 u1 u2 (.int .i64 x.2.2) w) : idxA Try.prog 27 (.slice f.n.1 S.N.length f.n.2) (.int .i64 (i : Nat)) (fun u1 w => fldA Try.prog 49 u1 2 (fun u2 w => ld Try.prog 2 u2 (fun u3 w => K3 u1 u2 u3 w) w) w) w :=
  rd3 Try.underlying27 (fun _ => by kernel_rfl) rdC_len (fun _ => by kernel_rfl) (f' := 2) (by kernel_rfl) (by omega) hr.n rfl hx rfl h
theorem rdR0 {x : Int × Int} (hr : RK w B f S) (hx : S.R[i]? = some x) (h : ∀ u1 u2, K3 u1 u2 (.int .u64 x.1) w) : idxA Try.prog 28 (.slice f.r.1 S.R.length f.r.2) (.int .i64 (i : Nat)) (fun u1 w => fldA Try.prog 78 u1 0 (fun u2 w => ld Try.prog 33 u2 (fun u3 w => K3 u1 u2 u3 w) w) w) w :=
  rd3 Try.underlying28 (fun _ => by kernel_rfl) rrC_len (fun _ => by kernel_rfl) (f' := 0) (by kernel_rfl) (by omega) hr.r rfl hx rfl h
theorem rdR1 {x : Int × Int} (hr : RK w B f S) (hx : S.R[i]? = some x) (h : ∀ u1 u2, K3 u1 u2 (.int .i64 x.2) w) : idxA Try.prog 28 (.slice f.r.1 S.R.length f.r.2) (.int .i64 (i : Nat)) (fun u1 w => fldA Try.prog 78 u1 1 (fun u2 w => ld Try.prog 2 u2 (fun u3 w => K3 u1 u2 u3 w) w) w) w :=
  rd3 Try.underlying28 (fun _ => by kernel_rfl) rrC_len (fun _ => by kernel_rfl) (f' := 1) (by kernel_rfl) (by omega) hr.r rfl hx rfl h
theorem rdT0 {x : (Int × Int) × (Int × Int) × Bool} (hr : RK w B f S) (hx : S.T[i]? = some x) (h : ∀ u1 u2, K3 u1 u2 (.int .i64 x.1.1) w) : idxA Try.prog 29 (.slice f.t.1 S.T.length f.t.2) (.int .i64 (i : Nat)) (fun u1 w => fldA Try.prog 81 u1 0 (fun u2 w => ld Try.prog 3 u2 (fun u3 w => K3 u1 u2 u3 w) w) w) w :=
  rd3 Try.underlying29 (fun _ => by kernel_rfl) rtC_len (fun _ => by kernel_rfl) (f' := 0) (by kernel_rfl) (by omega) hr.t rfl hx rfl h
theorem rdT1 {x : (Int × Int) × (Int × Int) × Bool} (hr : RK w B f S) (hx : S.T[i]? = some x) (h : ∀ u1 u2, K3 u1 u2 (.int .u64 x.1.2) w) : idxA Try.prog 29 (.slice f.t.1 S.T.length f.t.2) (.int .i64 (i : Nat)) (fun u1 w => fldA Try.prog 81 u1 1 (fun u2 w => ld Try.prog 33 u2 (fun u3 w => K3 u1 u2 u3 w) w) w) w :=
  rd3 Try.underlying29 (fun _ => by kernel_rfl) rtC_len (fun _ => by kernel_rfl) (f' := 1) (by kernel_rfl) (by omega) hr.t rfl hx rfl h
theorem rdT2 {x : (Int × Int) × (Int × Int) × Bool} (hr : RK w B f S) (hx : S.T[i]? = some x) (h : ∀ u1 u2, K3 u1 u2 (.int .u64 x.2.1.1) w) : idxA Try.prog 29 (.slice f.t.1 S.T.length f.t.2) (.int .i64 (i : Nat)) (fun u1 w => fldA Try.prog 81 u1 2 (fun u2 w => ld Try.prog 33 u2 (fun u3 w => K3 u1 u2 u3 w) w) w) w :=
  rd3 Try.underlying29 (fun _ => by kernel_rfl) rtC_len (fun _ => by kernel_rfl) (f' := 2) (by kernel_rfl) (by omega) hr.t rfl hx rfl h
theorem rdT3 {x : (Int × Int) × (Int × Int) × Bool} (hr : RK w B f S) (hx : S.T[i]? = some x) (h : ∀ u1 u2, K3 u1 u2 (.int .i64 x.2.1.2) w) : idxA Try.prog 29 (.slice f.t.1 S.T.length f.t.2) (.int .i64 (i : Nat)) (fun u1 w => fldA Try.prog 81 u1 3 (fun u2 w => ld Try.prog 2 u2 (fun u3 w => K3 u1 u2 u3 w) w) w) w :=
  rd3 Try.underlying29 (fun _ => by kernel_rfl) rtC_len (fun _ => by kernel_rfl) (f' := 3) (by kernel_rfl) (by omega) hr.t rfl hx rfl h
theorem rdT4 {x : (Int × Int) × (Int × Int) × Bool} (hr : RK w B f S) (hx : S.T[i]? = some x) (h : ∀ u1 u2, K3 u1 u2 (.bool x.2.2) w) : idxA Try.prog 29 (.slice f.t.1 S.T.length f.t.2) (.int .i64 (i : Nat)) (fun u1 w => fldA Try.prog 81 u1 4 (fun u2 w => ld Try.prog 4 u2 (fun u3 w => K3 u1 u2 u3 w) w) w) w :=
  rd3 Try.underlying29 (fun _ => by kernel_rfl) rtC_len (fun _ => by kernel_rfl) (f' := 4) (by kernel_rfl) (by omega) hr.t rfl hx rfl h
theorem rhN (hr : RK w B f S) (h : ∀ u1 u2, K3 u1 u2 (.slice f.n.1 S.N.length f.n.2) w) : nilC (ptr f.p) (fun u1 w => fldA Try.prog 31 u1 0 (fun u2 w => ld Try.prog 27 u2 (fun u3 w => K3 u1 u2 u3 w) w) w) w :=
  nilC_p (fA_Ref_0 (ld_RL_0 _ hr.head rfl (h _ _)))
theorem rhR (hr : RK w B f S) (h : ∀ u1 u2, K3 u1 u2 (.slice f.r.1 S.R.length f.r.2) w) : nilC (ptr f.p) (fun u1 w => fldA Try.prog 31 u1 1 (fun u2 w => ld Try.prog 28 u2 (fun u3 w => K3 u1 u2 u3 w) w) w) w :=
  nilC_p (fA_Ref_1 (ld_RL_1 _ hr.head rfl (h _ _)))
theorem rhT (hr : RK w B f S) (h : ∀ u1 u2, K3 u1 u2 (.slice f.t.1 S.T.length f.t.2) w) : nilC (ptr f.p) (fun u1 w => fldA Try.prog 31 u1 2 (fun u2 w => ld Try.prog 29 u2 (fun u3 w => K3 u1 u2 u3 w) w) w) w :=
  nilC_p (fA_Ref_2 (ld_RL_2 _ hr.head rfl (h _ _)))
theorem lenN {a : Option Addr} {n c : Nat} {ty : TypeId} {cs : Array Bool} (h : K (.int .i64 (n : Int)) w) : blt Try.prog .len #[27] ty cs #[.slice a n c] K w := len_slc Try.underlying27 h
theorem lenR {a : Option Addr} {n c : Nat} {ty : TypeId} {cs : Array Bool} (h : K (.int .i64 (n : Int)) w) : blt Try.prog .len #[28] ty cs #[.slice a n c] K w := len_slc Try.underlying28 h
theorem lenT {a : Option Addr} {n c : Nat} {ty : TypeId} {cs : Array Bool} (h : K (.int .i64 (n : Int)) w) : blt Try.prog .len #[29] ty cs #[.slice a n c] K w := len_slc Try.underlying29 h

theorem rnode_c {id : Int} (hr : RK w B f S) (hb : RB0 S) (h1 : ∀ k x, S.N[k]? = some x → x.1 = id → mget S.N id = some x.2 → K (.int .i64 (k : Nat)) w) (h2 : mget S.N id = none → K (.int .i64 (-1)) w) : call Try.prog 19 #[ptr f.p, .int .u64 id] K w := by
  have hnl := hb.nl
  refine call_of leatref26_Audit_node_go (leatref26_Audit_node_in ?_)
  refine leatref26_Audit_node_L1_r (Inv := fun i wr => ∃ k : Nat, i = .int .i64 (k : Nat) ∧ k ≤ S.N.length ∧ wr = w ∧ ∀ j y, j < k → S.N[j]? = some y → y.1 ≠ id) (μ := fun i _ => S.N.length - (intOf i).toNat) ⟨0, rfl, by omega, rfl, fun j y h => by omega⟩ ?_
  rintro _ _ _ m ⟨k, rfl, hk, rfl, hj⟩ hm
  refine rhN hr (fun _ _ => ?_)
  refine lenN ?_
  refine bin_lss ?_
  by_cases hlt : k < S.N.length
  · refine cond_t (by omega) ?_
    obtain ⟨x, hx⟩ : ∃ x, S.N[k]? = some x := ⟨_, List.getElem?_eq_getElem hlt⟩
    refine rhN hr (fun _ _ => ?_)
    refine rdN0 hr hx (fun _ _ => ?_)
    refine bin_eql ?_
    refine cond_p (fun e => ?_) (fun e => ?_)
    · refine h1 k x hx e ?_
      rw [← e]
      exact mget_at hx (fun j y h3 h4 => by rw [e]; exact hj j y h3 h4)
    · refine add64 (by omega) (by omega) ?_
      rw [cadd1]
      refine ⟨⟨k + 1, rfl, by omega, rfl, fun j y h3 h4 => ?_⟩, by rw [hm]; simp only [intOf]; omega⟩
      by_cases ej : j = k
      · subst ej; rw [hx] at h4; simp only [Option.some.injEq] at h4; rw [← h4]; exact e
      · exact hj j y (by omega) h4
  · refine cond_f (by omega) ?_
    refine leatref26_Audit_node_P1_r ?_
    refine h2 ?_
    rw [mget_none]
    intro hmem
    obtain ⟨y, hy, e⟩ := List.mem_map.1 hmem
    obtain ⟨j, hj2, he⟩ := List.getElem_of_mem hy
    exact hj j y (by omega) (by rw [List.getElem?_eq_getElem hj2, he]) e

theorem rbelow_c {id of : Int} (hr : RK w B f S) (hb : RB0 S) (h : K (.bool (belS S.N of 32 id)) w) : call Try.prog 22 #[ptr f.p, .int .u64 id, .int .u64 of] K w := by
  rw [← rbel_is] at h
  obtain ⟨bv, hbv⟩ : ∃ bv, rbel S.N of (32 + 1) id = bv := ⟨_, rfl⟩
  rw [hbv] at h
  refine call_of leatref26_Audit_below_go (leatref26_Audit_below_in ?_)
  refine leatref26_Audit_below_L1_r (Inv := fun x r wr => ∃ (y : Int) (k : Nat), x = .int .u64 y ∧ r = .int .i64 (k : Nat) ∧ k ≤ 33 ∧ wr = w ∧ rbel S.N of (33 - k) y = bv) (μ := fun _ r _ => 33 - (intOf r).toNat) ⟨id, 0, rfl, rfl, by omega, rfl, hbv⟩ ?_
  rintro _ _ _ _ m ⟨y, k, rfl, rfl, hk, rfl, he⟩ hm
  refine bin_leq ?_
  by_cases hlt : k < 33
  · refine cond_t (by omega) ?_
    have e1 : 33 - k = (33 - (k + 1)) + 1 := by omega
    rw [e1] at he
    unfold rbel at he
    refine bin_eql ?_
    refine cond_p (fun e => ?_) (fun e => ?_)
    · rw [if_pos e] at he
      rw [← he] at h
      exact h
    rw [if_neg e] at he
    refine rnode_c hr hb (fun q x hx hid hg => ?_) (fun hg => ?_)
    · refine bin_lss ?_
      refine cond_f (by omega) ?_
      refine rhN hr (fun _ _ => ?_)
      refine rdN1 hr hx (fun _ _ => ?_)
      refine add64 (by omega) (by omega) ?_
      rw [cadd1]
      rw [hg] at he
      exact ⟨⟨x.2.1, k + 1, rfl, rfl, by omega, rfl, he⟩, by rw [hm]; simp only [intOf]; omega⟩
    · refine bin_lss ?_
      refine cond_t (by omega) ?_
      rw [hg] at he
      rw [← he] at h
      exact h
  · refine cond_f (by omega) ?_
    refine leatref26_Audit_below_P1_r ?_
    have e1 : 33 - k = 0 := by omega
    rw [e1] at he
    unfold rbel at he
    rw [← he] at h
    exact h

theorem rtake_c' {who req : Int} (hr : RK w B f S) (hnl : S.T.length ≤ 1024) (h1 : ∀ k x, S.T[k]? = some x → x.1 = (who, req) → (∀ j y, j < k → S.T[j]? = some y → y.1 ≠ (who, req)) → K (.int .i64 (k : Nat)) w) (h2 : (∀ y ∈ S.T, y.1 ≠ (who, req)) → K (.int .i64 (-1)) w) :
    call Try.prog 20 #[ptr f.p, .int .i64 who, .int .u64 req] K w := by
  refine call_of leatref26_Audit_take_go (leatref26_Audit_take_in ?_)
  refine leatref26_Audit_take_L1_r (Inv := fun i _ _ _ _ _ _ _ _ _ _ wr => ∃ k : Nat, i = .int .i64 (k : Nat) ∧ k ≤ S.T.length ∧ wr = w ∧ ∀ j y, j < k → S.T[j]? = some y → y.1 ≠ (who, req)) (μ := fun i _ _ _ _ _ _ _ _ _ _ _ => S.T.length - (intOf i).toNat) ⟨0, rfl, by omega, rfl, fun j y h => by omega⟩ ?_
  rintro _ _ _ _ _ _ _ _ _ _ _ _ w2 m ⟨k, rfl, hk, rfl, hj⟩ hm
  refine rhT hr (fun _ _ => ?_)
  refine lenT ?_
  refine bin_lss ?_
  by_cases hlt : k < S.T.length
  · refine cond_t (by omega) ?_
    obtain ⟨x, hx⟩ : ∃ x, S.T[k]? = some x := ⟨_, List.getElem?_eq_getElem hlt⟩
    have next : ∀ {v : Value}, v = .int .i64 ((k : Int) + 1) → x.1 ≠ (who, req) → (∃ k : Nat, v = .int .i64 (k : Nat) ∧ k ≤ S.T.length ∧ w2 = w2 ∧ ∀ j y, j < k → S.T[j]? = some y → y.1 ≠ (who, req)) ∧ S.T.length - (intOf v).toNat < m := by
      rintro _ rfl e
      refine ⟨⟨k + 1, by simp, by omega, rfl, fun j y h3 h4 => ?_⟩, by rw [hm]; simp only [intOf]; omega⟩
      by_cases ej : j = k
      · subst ej; rw [hx] at h4; simp only [Option.some.injEq] at h4; rw [← h4]; exact e
      · exact hj j y (by omega) h4
    refine rhT hr (fun _ _ => ?_)
    refine rdT0 hr hx (fun _ _ => ?_)
    refine bin_eql ?_
    by_cases ew : x.1.1 = who
    · refine gsel_pt ew ?_
      refine rhT hr (fun _ _ => ?_)
      refine rdT1 hr hx (fun _ _ => ?_)
      refine bin_eql ?_
      refine pick_t ew ?_
      refine cond_p (fun e => ?_) (fun e => ?_)
      · exact h1 k x hx (Prod.ext ew e) hj
      · refine add64 (by omega) (by omega) ?_
        exact next rfl (fun hh => e (by rw [hh]))
    · refine gsel_pf ew ?_
      refine pick_f ew ?_
      refine cond_F ?_
      refine add64 (by omega) (by omega) ?_
      exact next rfl (fun hh => ew (by rw [hh]))
  · refine cond_f (by omega) ?_
    refine leatref26_Audit_take_P1_r ?_
    refine h2 (fun y hy => ?_)
    obtain ⟨j, hj2, he⟩ := List.getElem_of_mem hy
    exact hj j y (by omega) (by rw [List.getElem?_eq_getElem hj2, he])

theorem rtake_c {who req : Int} (hr : RK w B f S) (hb : RB0 S) (h1 : ∀ k x, S.T[k]? = some x → x.1 = (who, req) → (∀ j y, j < k → S.T[j]? = some y → y.1 ≠ (who, req)) → K (.int .i64 (k : Nat)) w) (h2 : (∀ y ∈ S.T, y.1 ≠ (who, req)) → K (.int .i64 (-1)) w) :
    call Try.prog 20 #[ptr f.p, .int .i64 who, .int .u64 req] K w := rtake_c' hr hb.tl h1 h2

theorem rsums_c {id : Int} (hr : RK w B f S) (hb : RB0 S) (h : K (.tuple #[.int .i64 (rsum S id).1, .int .i64 (rsum S id).2.1, .int .i64 (rsum S id).2.2]) w) : call Try.prog 11 #[ptr f.p, .int .u64 id] K w := by
  refine call_of leatref26_Audit_Sums_go (leatref26_Audit_Sums_in ?_)
  refine rnode_c hr hb (fun q x hx hid hg => ?_) (fun hg => ?_)
  rotate_left
  · refine bin_lss ?_
    refine cond_t (by omega) ?_
    have e : rsum S id = (0, 0, 9) := by simp [rsum, hg]
    rw [e] at h
    exact h
  refine bin_lss ?_
  refine cond_f (by omega) ?_
  refine rhN hr (fun _ _ => ?_)
  refine rdN2 hr hx (fun _ _ => ?_)
  have hxb := hb.N x (List.mem_of_getElem? hx)
  have hrl := hb.rl
  have htl := hb.tl
  refine leatref26_Audit_Sums_L1_r (Inv := fun l i wr => ∃ k : Nat, i = .int .i64 (k : Nat) ∧ k ≤ S.R.length ∧ wr = w ∧ l = .int .i64 (x.2.2 + rlim (S.R.take k) id)) (μ := fun _ i _ => S.R.length - (intOf i).toNat) ⟨0, rfl, by omega, rfl, by simp [rlim]⟩ ?_
  rintro _ _ _ w1 m ⟨k, rfl, hk, rfl, rfl⟩ hm
  have rb := rlim_bnd (R := S.R.take k) (fun p hp => hb.R p (List.mem_of_mem_take hp)) id
  have hkl : (S.R.take k).length ≤ 1024 := by simp; omega
  refine rhR hr (fun _ _ => ?_)
  refine lenR ?_
  refine bin_lss ?_
  by_cases hlt : k < S.R.length
  · refine cond_t (by omega) ?_
    obtain ⟨y, hy⟩ : ∃ y, S.R[k]? = some y := ⟨_, List.getElem?_eq_getElem hlt⟩
    have hyb := hb.R y (List.mem_of_getElem? hy)
    refine leatref26_Audit_Sums_A1_r ?_
    refine rhR hr (fun _ _ => ?_)
    refine rdR0 hr hy (fun _ _ => ?_)
    refine bin_eql ?_
    have es : rlim (S.R.take (k + 1)) id = rlim (S.R.take k) id + (if y.1 = id then y.2 else 0) := by rw [take_snoc hy, rlim_snoc]
    refine cond_p (fun e => ?_) (fun e => ?_)
    · refine rhR hr (fun _ _ => ?_)
      refine rdR1 hr hy (fun _ _ => ?_)
      refine add64 (by omega) (by omega) ?_
      refine leatref26_Audit_Sums_P2_r ?_
      refine add64 (by omega) (by omega) ?_
      refine ⟨⟨k + 1, (show Value.int .i64 ((k : Int) + 1) = _ by simp), by omega, rfl, ?_⟩, by rw [hm]; show S.R.length - (intOf (.int .i64 ((k : Int) + 1))).toNat < _; simp only [intOf]; omega⟩
      show Value.int .i64 _ = _
      rw [es, if_pos e]; congr 1; omega
    · refine leatref26_Audit_Sums_P2_r ?_
      refine add64 (by omega) (by omega) ?_
      refine ⟨⟨k + 1, (show Value.int .i64 ((k : Int) + 1) = _ by simp), by omega, rfl, ?_⟩, by rw [hm]; show S.R.length - (intOf (.int .i64 ((k : Int) + 1))).toNat < _; simp only [intOf]; omega⟩
      show Value.int .i64 _ = _
      rw [es, if_neg e]; congr 1; omega
  refine cond_f (by omega) ?_
  refine leatref26_Audit_Sums_P1_r ?_
  have ek : S.R.take k = S.R := List.take_of_length_le (by omega)
  rw [ek]
  refine leatref26_Audit_Sums_L2_r (Inv := fun u i _ _ _ _ _ _ _ _ _ _ _ wr => ∃ k : Nat, i = .int .i64 (k : Nat) ∧ k ≤ S.T.length ∧ wr = w1 ∧ u = .int .i64 (ruse S id (S.T.take k))) (μ := fun _ i _ _ _ _ _ _ _ _ _ _ _ _ => S.T.length - (intOf i).toNat) ⟨0, rfl, by omega, rfl, by simp [ruse]⟩ ?_
  rintro _ _ _ _ _ _ _ _ _ _ _ _ _ _ w2 m2 ⟨k, rfl, hk2, rfl, rfl⟩ hm2
  have ub := ruse_bnd (S := S) (T := S.T.take k) (fun p hp => hb.T p (List.mem_of_mem_take hp)) id
  have hkl2 : (S.T.take k).length ≤ 1024 := by simp; omega
  refine rhT hr (fun _ _ => ?_)
  refine lenT ?_
  refine bin_lss ?_
  by_cases hlt2 : k < S.T.length
  rotate_left
  · refine cond_f (by omega) ?_
    refine leatref26_Audit_Sums_P3_r ?_
    rw [List.take_of_length_le (by omega)]
    have e : rsum S id = (x.2.2 + rlim S.R id, ruse S id S.T, 0) := by simp [rsum, hg]
    rw [e] at h
    exact h
  refine cond_t (by omega) ?_
  obtain ⟨y, hy⟩ : ∃ y, S.T[k]? = some y := ⟨_, List.getElem?_eq_getElem hlt2⟩
  have hyb := hb.T y (List.mem_of_getElem? hy)
  have es : ruse S id (S.T.take (k + 1)) = ruse S id (S.T.take k) + (if y.2.2 = false ∧ belS S.N id 32 y.2.1.1 = true then y.2.1.2 else 0) := by rw [take_snoc hy, ruse_snoc]
  have next : ∀ {v u : Value}, v = .int .i64 ((k : Int) + 1) → u = .int .i64 (ruse S id (S.T.take (k + 1))) → (∃ k : Nat, v = .int .i64 (k : Nat) ∧ k ≤ S.T.length ∧ w2 = w2 ∧ u = .int .i64 (ruse S id (S.T.take k))) ∧ S.T.length - (intOf v).toNat < m2 := by
    rintro _ _ rfl rfl
    exact ⟨⟨k + 1, by simp, by omega, rfl, rfl⟩, by rw [hm2]; simp only [intOf]; omega⟩
  refine leatref26_Audit_Sums_A2_r ?_
  refine rhT hr (fun _ _ => ?_)
  refine rdT4 hr hy (fun _ _ => ?_)
  refine un_not ?_
  have skip : (y.2.2 = false ∧ belS S.N id 32 y.2.1.1 = true → False) → Value.int .i64 (ruse S id (S.T.take k)) = .int .i64 (ruse S id (S.T.take (k + 1))) := by
    intro hh; rw [es, if_neg hh, Int.add_zero]
  cases hbk : y.2.2 with
  | true =>
    refine gsel_F ?_
    refine pick_F ?_
    refine cond_F ?_
    refine leatref26_Audit_Sums_P4_r ?_
    refine add64 (by omega) (by omega) ?_
    exact next rfl (skip (fun hh => by rw [hbk] at hh; cases hh.1))
  | false =>
    refine gsel_T ?_
    refine rhT hr (fun _ _ => ?_)
    refine rdT2 hr hy (fun _ _ => ?_)
    refine rbelow_c hr hb ?_
    refine pick_T ?_
    refine cond_b (fun e => ?_) (fun e => ?_)
    · refine rhT hr (fun _ _ => ?_)
      refine rdT3 hr hy (fun _ _ => ?_)
      refine add64 (by omega) (by omega) ?_
      refine leatref26_Audit_Sums_P4_r ?_
      refine add64 (by omega) (by omega) ?_
      refine next rfl ?_
      rw [es, if_pos ⟨hbk, e⟩]
      rfl
    · refine leatref26_Audit_Sums_P4_r ?_
      refine add64 (by omega) (by omega) ?_
      exact next rfl (skip (fun hh => by rw [e] at hh; cases hh.2))

theorem rbound_c (hr : RK w B f S) (hb : RB0 S) (h : K (.bool (rbnd S)) w) : call Try.prog 13 #[ptr f.p] K w := by
  have hnl := hb.nl
  refine call_of leatref26_Audit_Bound_go (leatref26_Audit_Bound_in ?_)
  refine leatref26_Audit_Bound_L1_r (Inv := fun i wr => ∃ k : Nat, i = .int .i64 (k : Nat) ∧ k ≤ S.N.length ∧ wr = w ∧ ∀ j y, j < k → S.N[j]? = some y → (rsum S y.1).2.1 ≤ (rsum S y.1).1) (μ := fun i _ => S.N.length - (intOf i).toNat) ⟨0, rfl, by omega, rfl, fun j y h => by omega⟩ ?_
  rintro _ _ _ m ⟨k, rfl, hk, rfl, hj⟩ hm
  refine rhN hr (fun _ _ => ?_)
  refine lenN ?_
  refine bin_lss ?_
  by_cases hlt : k < S.N.length
  · refine cond_t (by omega) ?_
    obtain ⟨x, hx⟩ : ∃ x, S.N[k]? = some x := ⟨_, List.getElem?_eq_getElem hlt⟩
    refine rhN hr (fun _ _ => ?_)
    refine rdN0 hr hx (fun _ _ => ?_)
    refine rsums_c hr hb ?_
    refine ext3_a ?_
    refine ext3_b ?_
    refine ext3_c ?_
    refine bin_gtr ?_
    refine cond_p (fun e => ?_) (fun e => ?_)
    · have hf : rbnd S = false := by
        unfold rbnd
        rw [List.all_eq_false]
        exact ⟨x, List.mem_of_getElem? hx, by simp only [decide_eq_true_eq]; omega⟩
      rw [hf] at h
      exact h
    · refine add64 (by omega) (by omega) ?_
      rw [cadd1]
      refine ⟨⟨k + 1, rfl, by omega, rfl, fun j y h3 h4 => ?_⟩, by rw [hm]; simp only [intOf]; omega⟩
      by_cases ej : j = k
      · subst ej; rw [hx] at h4; simp only [Option.some.injEq] at h4; rw [← h4]; omega
      · exact hj j y (by omega) h4
  · refine cond_f (by omega) ?_
    refine leatref26_Audit_Bound_P1_r ?_
    have ht : rbnd S = true := by
      unfold rbnd
      rw [List.all_eq_true]
      intro y hy
      obtain ⟨j, hj2, he⟩ := List.getElem_of_mem hy
      exact decide_eq_true (hj j y (by omega) (by rw [List.getElem?_eq_getElem hj2, he]))
    rw [ht] at h
    exact h
end
end Go.Proofs.Ytcieejlkdfdpiaa
