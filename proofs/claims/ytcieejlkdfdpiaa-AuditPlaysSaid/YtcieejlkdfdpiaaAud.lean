/- The audit of the program: what it stands for, and the contracts of its functions. -/
import Derived.Test.YtcieejlkdfdpiaaSAud
import Derived.Test.YtcieejlkdfdpiaaTypes
import Derived.Test.YtcieejlkdfdpiaaMap2
namespace Go.Proofs.Ytcieejlkdfdpiaa
set_option maxRecDepth 100000
open Go.RowKit Go.ChangeMaps

/-- Of what was there only blocks of F have turned. -/
structure Ch (F : List Nat) (w w' : World) : Prop where
  os : w'.os = w.os
  tape : w'.tape = w.tape
  output : w'.output = w.output
  size : w.heap.size ≤ w'.heap.size
  block : ∀ k, k < w.heap.size → k ∉ F → w'.heap[k]? = w.heap[k]?
section
variable {F G : List Nat} {a b c w w' : World}
theorem Ch.refl (F : List Nat) (w : World) : Ch F w w := ⟨rfl, rfl, rfl, Nat.le_refl _, fun _ _ _ => rfl⟩
theorem Ch.of_below (h : Below w.heap.size w w') : Ch F w w' := ⟨h.os, h.tape, h.output, h.size, fun k hk _ => h.block k hk⟩
theorem Ch.of_oth {b : Nat} (h : Oth b w w') (hb : b ∈ F) : Ch F w w' := ⟨h.os, h.tape, h.output, by rw [h.size]; exact Nat.le_refl _, fun k _ hk => h.other k (by rintro rfl; exact hk hb)⟩
theorem Ch.trans (h : Ch F a b) (k : Ch G b c) (hG : ∀ x ∈ G, x ∈ F ∨ a.heap.size ≤ x) : Ch F a c :=
  ⟨k.os.trans h.os, k.tape.trans h.tape, k.output.trans h.output, Nat.le_trans h.size k.size, fun x hx hF => by
    rw [k.block x (Nat.lt_of_lt_of_le hx h.size) (fun hg => (hG x hg).elim hF (fun h => by omega)), h.block x hx hF]⟩
theorem Ch.mono (h : Ch F w w') (hG : ∀ x ∈ F, x ∈ G) : Ch G w w' := ⟨h.os, h.tape, h.output, h.size, fun k hk hn => h.block k hk fun hf => hn (hG k hf)⟩
theorem Ch.below {B : Nat} (h : Ch F w w') (hF : ∀ x ∈ F, B ≤ x) (hB : B ≤ w.heap.size) : Below B w w' := ⟨h.os, h.tape, h.output, h.size, fun k hk => h.block k (by omega) (fun hf => by have := hF k hf; omega)⟩
theorem blk.ch {k : Nat} {E : TypeId} {cs : List Value} (h : blk w k E cs) (hc : Ch F w w') (hk : k ∉ F) : blk w' k E cs := by
  have hlt := h.lt
  unfold Go.Proofs.Ytcieejlkdfdpiaa.blk at *; rw [hc.block k hlt hk]; exact h
theorem MB.ch {κ ν : Type} {kv : κ → Value} {vv : ν → Value} {k : Nat} {m : List (κ × ν)} (h : MB kv vv w k m) (hc : Ch F w w') (hk : k ∉ F) : MB kv vv w' k m := h.kept (hc.block k h.lt hk)
end

abbrev ptr (b : Nat) : Value := .pointer (some ⟨b, 0, none⟩)
abbrev u64v : Int → Value := .int .u64
abbrev i64v : Int → Value := .int .i64
def ndV (p : Int × Int) : Value := .agg #[.int .u64 p.1, .int .i64 p.2]
def nmV (q : Int × Int) : Value := .agg #[.int .i64 q.1, .int .u64 q.2]

theorem u64K : KLaw Try.prog 33 u64v := int_klaw Try.underlying33
theorem nmK : KLaw Try.prog 72 nmV := by
  refine agg_klaw _ Try.underlying72 (fun x => ⟨_, rfl⟩) (fun x y h => ?_) (fun w em x => by kernel_rfl) (fun w x y => ⟨decide (x = y), ?_, ?_⟩) (fun x => ?_)
  · simp only [nmV, Value.agg.injEq] at h
    simp at h
    exact Prod.ext h.1 h.2
  · have hS : Try.prog.underlying 72 = some (.struct (Try.prog.fieldsOf 72)) := by kernel_rfl
    have hp : Try.prog.stoodInHeld 72 = false := by kernel_rfl
    have u1 := Try.underlying3
    have u2 := Try.underlying33
    have a1 := Try.isAgg3
    have a2 := Try.isAgg33
    have z1 := Try.sizeOf3
    have z2 := Try.sizeOf33
    simp only [nmV]
    show (Op.equalIn (9999 + 1) _ _ _).run _ w = _
    rw [run_equalIn_agg w 9999 72 _ _ hS hp]
    simp only [Program.fieldsOf, Try.underlying72]
    go_simp
    by_cases h1 : x.1 = y.1 <;> by_cases h2 : x.2 = y.2 <;> simp [h1, h2, Prod.ext_iff]
  · simp [nmV]
    constructor
    · rintro rfl; exact ⟨rfl, rfl⟩
    · rintro ⟨h1, h2⟩; exact Prod.ext h1 h2
  · unfold Instr.sameBits
    simp [nmV]
    constructor <;> (unfold Instr.sameBits; simp)

/-! ## Plain -/
structure AS where
  nodes : List (Int × (Int × Int))
  raises : List (Int × Int)
  takes : List ((Int × Int) × (Int × Int))
  back : List ((Int × Int) × Bool)
structure Ak where
  kind : Int
  node : Int
  to : Int
  amount : Int
  req : Int
  of : Int
def askC (a : Ak) : List Value := [.int .u8 a.kind, .int .u64 a.node, .int .i64 a.to, .int .i64 a.amount, .int .u64 a.req, .int .u64 a.of]
def withinS (x : Int) : Int := if x < 0 then 0 else if 1125899906842624 < x then 1125899906842624 else x
def treeIdS (o s : Int) : Int := if o < 1 ∨ 6 < o ∨ s < 1 ∨ 1099511627776 ≤ s then 0 else o * 1099511627776 + s
def sayS (S : AS) (who : Int) (a : Ak) (o s e : Int) : AS :=
  if e ≠ 0 ∧ e ≠ 8 then S
  else if a.kind = 1 then (if treeIdS o s ≠ 0 ∧ mget S.nodes (treeIdS o s) = none then { S with nodes := mput S.nodes (treeIdS o s) (a.node, withinS a.amount) } else S)
  else if a.kind = 2 then { S with raises := mput S.raises a.node (IntKind.i64.wrap ((mget S.raises a.node).getD 0 + withinS a.amount)) }
  else if a.kind = 3 then (if (mget S.takes (who, a.req)).isSome ∨ e ≠ 0 then S else { S with takes := mput S.takes (who, a.req) (a.node, if a.amount ≠ withinS a.amount then 0 else a.amount) })
  else if a.kind = 4 then { S with back := mput S.back (who, a.of) true }
  else S

/-! ## In memory -/
structure AF where
  p : Nat
  b1 : Nat
  b2 : Nat
  b3 : Nat
  b4 : Nat
def AF.foot (f : AF) : List Nat := [f.b1, f.b2, f.b3, f.b4]
structure AK (w : World) (f : AF) (S : AS) : Prop where
  head : blk w f.p 65 [.map (some f.b1), .map (some f.b2), .map (some f.b3), .map (some f.b4)]
  m1 : MB u64v ndV w f.b1 S.nodes
  m2 : MB u64v i64v w f.b2 S.raises
  m3 : MB nmV ndV w f.b3 S.takes
  m4 : MB nmV Value.bool w f.b4 S.back
  dis : f.foot.Nodup
theorem blk_map {w : World} {b : Nat} {E : TypeId} {cs : List Value} {κ ν : Type} {kv : κ → Value} {vv : ν → Value} {c : Nat} {m : List (κ × ν)} (h : blk w b E cs) (hm : MB kv vv w c m) : b ≠ c := by
  rintro rfl
  obtain ⟨es, cl, hm⟩ := hm
  unfold blk at h
  rw [hm.heap] at h
  cases h
theorem AK.ch {w w' : World} {F : List Nat} {f : AF} {S : AS} (h : AK w f S) (hc : Ch F w w') (hp : f.p ∉ F) (hF : ∀ x ∈ f.foot, x ∉ F) : AK w' f S :=
  ⟨h.head.ch hc hp, h.m1.ch hc (hF _ (by simp [AF.foot])), h.m2.ch hc (hF _ (by simp [AF.foot])), h.m3.ch hc (hF _ (by simp [AF.foot])), h.m4.ch hc (hF _ (by simp [AF.foot])), h.dis⟩
theorem AK.below {w w' : World} {f : AF} {S : AS} (h : AK w f S) (hb : Below w.heap.size w w') : AK w' f S := h.ch (Ch.of_below (F := []) hb) (by simp) (by simp)

theorem fA_Aud_0 {w : World} {K : KV} {b o : Nat} (h : K (.pointer (some ⟨b, o + 0, none⟩)) w) : fldA Try.prog 65 (.pointer (some ⟨b, o, none⟩)) 0 K w := fldA_of (by kernel_rfl) h
theorem fA_Aud_1 {w : World} {K : KV} {b o : Nat} (h : K (.pointer (some ⟨b, o + 1, none⟩)) w) : fldA Try.prog 65 (.pointer (some ⟨b, o, none⟩)) 1 K w := fldA_of (by kernel_rfl) h
theorem fA_Aud_2 {w : World} {K : KV} {b o : Nat} (h : K (.pointer (some ⟨b, o + 2, none⟩)) w) : fldA Try.prog 65 (.pointer (some ⟨b, o, none⟩)) 2 K w := fldA_of (by kernel_rfl) h
theorem fA_Aud_3 {w : World} {K : KV} {b o : Nat} (h : K (.pointer (some ⟨b, o + 3, none⟩)) w) : fldA Try.prog 65 (.pointer (some ⟨b, o, none⟩)) 3 K w := fldA_of (by kernel_rfl) h
theorem fA_Ask_0 {w : World} {K : KV} {b o : Nat} (h : K (.pointer (some ⟨b, o + 0, none⟩)) w) : fldA Try.prog 35 (.pointer (some ⟨b, o, none⟩)) 0 K w := fldA_of (by kernel_rfl) h
theorem fA_Ask_1 {w : World} {K : KV} {b o : Nat} (h : K (.pointer (some ⟨b, o + 1, none⟩)) w) : fldA Try.prog 35 (.pointer (some ⟨b, o, none⟩)) 1 K w := fldA_of (by kernel_rfl) h
theorem fA_Ask_2 {w : World} {K : KV} {b o : Nat} (h : K (.pointer (some ⟨b, o + 2, none⟩)) w) : fldA Try.prog 35 (.pointer (some ⟨b, o, none⟩)) 2 K w := fldA_of (by kernel_rfl) h
theorem fA_Ask_3 {w : World} {K : KV} {b o : Nat} (h : K (.pointer (some ⟨b, o + 3, none⟩)) w) : fldA Try.prog 35 (.pointer (some ⟨b, o, none⟩)) 3 K w := fldA_of (by kernel_rfl) h
theorem fA_Ask_4 {w : World} {K : KV} {b o : Nat} (h : K (.pointer (some ⟨b, o + 4, none⟩)) w) : fldA Try.prog 35 (.pointer (some ⟨b, o, none⟩)) 4 K w := fldA_of (by kernel_rfl) h
theorem fA_Ask_5 {w : World} {K : KV} {b o : Nat} (h : K (.pointer (some ⟨b, o + 5, none⟩)) w) : fldA Try.prog 35 (.pointer (some ⟨b, o, none⟩)) 5 K w := fldA_of (by kernel_rfl) h
theorem fA_Ans_0 {w : World} {K : KV} {b o : Nat} (h : K (.pointer (some ⟨b, o + 0, none⟩)) w) : fldA Try.prog 42 (.pointer (some ⟨b, o, none⟩)) 0 K w := fldA_of (by kernel_rfl) h
theorem fA_Ans_1 {w : World} {K : KV} {b o : Nat} (h : K (.pointer (some ⟨b, o + 14, none⟩)) w) : fldA Try.prog 42 (.pointer (some ⟨b, o, none⟩)) 1 K w := fldA_of (by kernel_rfl) h
theorem fA_Ev_0 {w : World} {K : KV} {b o : Nat} (h : K (.pointer (some ⟨b, o + 0, none⟩)) w) : fldA Try.prog 39 (.pointer (some ⟨b, o, none⟩)) 0 K w := fldA_of (by kernel_rfl) h
theorem fA_Ev_1 {w : World} {K : KV} {b o : Nat} (h : K (.pointer (some ⟨b, o + 1, none⟩)) w) : fldA Try.prog 39 (.pointer (some ⟨b, o, none⟩)) 1 K w := fldA_of (by kernel_rfl) h
theorem fA_Ev_2 {w : World} {K : KV} {b o : Nat} (h : K (.pointer (some ⟨b, o + 2, none⟩)) w) : fldA Try.prog 39 (.pointer (some ⟨b, o, none⟩)) 2 K w := fldA_of (by kernel_rfl) h
theorem fA_Ev_3 {w : World} {K : KV} {b o : Nat} (h : K (.pointer (some ⟨b, o + 8, none⟩)) w) : fldA Try.prog 39 (.pointer (some ⟨b, o, none⟩)) 3 K w := fldA_of (by kernel_rfl) h
theorem fA_Ev_4 {w : World} {K : KV} {b o : Nat} (h : K (.pointer (some ⟨b, o + 9, none⟩)) w) : fldA Try.prog 39 (.pointer (some ⟨b, o, none⟩)) 4 K w := fldA_of (by kernel_rfl) h
theorem fA_Ev_5 {w : World} {K : KV} {b o : Nat} (h : K (.pointer (some ⟨b, o + 10, none⟩)) w) : fldA Try.prog 39 (.pointer (some ⟨b, o, none⟩)) 5 K w := fldA_of (by kernel_rfl) h
theorem fA_Ev_6 {w : World} {K : KV} {b o : Nat} (h : K (.pointer (some ⟨b, o + 11, none⟩)) w) : fldA Try.prog 39 (.pointer (some ⟨b, o, none⟩)) 6 K w := fldA_of (by kernel_rfl) h
theorem fA_Ev_7 {w : World} {K : KV} {b o : Nat} (h : K (.pointer (some ⟨b, o + 12, none⟩)) w) : fldA Try.prog 39 (.pointer (some ⟨b, o, none⟩)) 7 K w := fldA_of (by kernel_rfl) h
theorem fA_Ev_8 {w : World} {K : KV} {b o : Nat} (h : K (.pointer (some ⟨b, o + 13, none⟩)) w) : fldA Try.prog 39 (.pointer (some ⟨b, o, none⟩)) 8 K w := fldA_of (by kernel_rfl) h
theorem fA_And_0 {w : World} {K : KV} {b o : Nat} (h : K (.pointer (some ⟨b, o + 0, none⟩)) w) : fldA Try.prog 68 (.pointer (some ⟨b, o, none⟩)) 0 K w := fldA_of (by kernel_rfl) h
theorem fA_And_1 {w : World} {K : KV} {b o : Nat} (h : K (.pointer (some ⟨b, o + 1, none⟩)) w) : fldA Try.prog 68 (.pointer (some ⟨b, o, none⟩)) 1 K w := fldA_of (by kernel_rfl) h
theorem fA_Atk_0 {w : World} {K : KV} {b o : Nat} (h : K (.pointer (some ⟨b, o + 0, none⟩)) w) : fldA Try.prog 74 (.pointer (some ⟨b, o, none⟩)) 0 K w := fldA_of (by kernel_rfl) h
theorem fA_Atk_1 {w : World} {K : KV} {b o : Nat} (h : K (.pointer (some ⟨b, o + 1, none⟩)) w) : fldA Try.prog 74 (.pointer (some ⟨b, o, none⟩)) 1 K w := fldA_of (by kernel_rfl) h
theorem ld_AL_0 {w : World} {K : KV} {b o : Nat} {E : TypeId} {cs : List Value} (v : Value) (hb : blk w b E cs) (ho : cs[o]? = some v) (h : K v w) : ld Try.prog 3 (.pointer (some ⟨b, o, none⟩)) K w := ld1 (fun _ => by kernel_rfl) hb ho h
theorem ld_AL_1 {w : World} {K : KV} {b o : Nat} {E : TypeId} {cs : List Value} (v : Value) (hb : blk w b E cs) (ho : cs[o]? = some v) (h : K v w) : ld Try.prog 5 (.pointer (some ⟨b, o, none⟩)) K w := ld1 (fun _ => by kernel_rfl) hb ho h
theorem ld_AL_2 {w : World} {K : KV} {b o : Nat} {E : TypeId} {cs : List Value} (v : Value) (hb : blk w b E cs) (ho : cs[o]? = some v) (h : K v w) : ld Try.prog 33 (.pointer (some ⟨b, o, none⟩)) K w := ld1 (fun _ => by kernel_rfl) hb ho h
theorem ld_AL_3 {w : World} {K : KV} {b o : Nat} {E : TypeId} {cs : List Value} (v : Value) (hb : blk w b E cs) (ho : cs[o]? = some v) (h : K v w) : ld Try.prog 2 (.pointer (some ⟨b, o, none⟩)) K w := ld1 (fun _ => by kernel_rfl) hb ho h
theorem ld_AL_4 {w : World} {K : KV} {b o : Nat} {E : TypeId} {cs : List Value} (v : Value) (hb : blk w b E cs) (ho : cs[o]? = some v) (h : K v w) : ld Try.prog 40 (.pointer (some ⟨b, o, none⟩)) K w := ld1 (fun _ => by kernel_rfl) hb ho h
theorem ld_AL_5 {w : World} {K : KV} {b o : Nat} {E : TypeId} {cs : List Value} (v : Value) (hb : blk w b E cs) (ho : cs[o]? = some v) (h : K v w) : ld Try.prog 60 (.pointer (some ⟨b, o, none⟩)) K w := ld1 (fun _ => by kernel_rfl) hb ho h
theorem ld_AL_6 {w : World} {K : KV} {b o : Nat} {E : TypeId} {cs : List Value} (v : Value) (hb : blk w b E cs) (ho : cs[o]? = some v) (h : K v w) : ld Try.prog 61 (.pointer (some ⟨b, o, none⟩)) K w := ld1 (fun _ => by kernel_rfl) hb ho h
theorem ld_AL_7 {w : World} {K : KV} {b o : Nat} {E : TypeId} {cs : List Value} (v : Value) (hb : blk w b E cs) (ho : cs[o]? = some v) (h : K v w) : ld Try.prog 62 (.pointer (some ⟨b, o, none⟩)) K w := ld1 (fun _ => by kernel_rfl) hb ho h
theorem ld_AL_8 {w : World} {K : KV} {b o : Nat} {E : TypeId} {cs : List Value} (v : Value) (hb : blk w b E cs) (ho : cs[o]? = some v) (h : K v w) : ld Try.prog 63 (.pointer (some ⟨b, o, none⟩)) K w := ld1 (fun _ => by kernel_rfl) hb ho h
attribute [local irreducible] bin un conv call callV blt slc fldA fld idxA idx lkp mUpd mEnt eSt rng nxt ent ext alc box bld bldS ld sto nilC mkMap mkS ifc pick rdy wts gsel sti cond retM Gives cCode cGrp cSeq cOp
section
variable {w : World} {K : KV}
theorem eqA_nil {cx cy : Bool} {b : Nat} (h : K (.bool false) w) : bin Try.prog .eql 24 cx cy (ptr b) (.pointer none) K w :=
  bin_of (by unfold eqG eqGuard; rfl) (by kernel_rfl) h
theorem eqA_none {cx cy : Bool} (h : K (.bool true) w) : bin Try.prog .eql 24 cx cy (.pointer none) (.pointer none) K w :=
  bin_of (by unfold eqG eqGuard; rfl) (by kernel_rfl) h

theorem within_c {x : Int} (h : K (.int .i64 (withinS x)) w) : call Try.prog 17 #[.int .i64 x] K w := by
  refine call_of audit_within_go (audit_within_in ?_)
  refine min2i ?_
  refine max2i ?_
  have : (if (0 : Int) < (if (1125899906842624 : Int) < x then 1125899906842624 else x) then (if (1125899906842624 : Int) < x then 1125899906842624 else x) else 0) = withinS x := by unfold withinS; split <;> split <;> split <;> omega
  rw [this]; exact h

theorem or_sum {n c : Nat} (hn : n < 16777216) (hc : c < 1099511627776) : bitsOp .or .u64 ((n * 1099511627776 : Nat) : Int) (c : Int) = ((n * 1099511627776 + c : Nat) : Int) := by
  unfold bitsOp
  have hb : IntKind.u64.bits = 64 := rfl
  simp only [hb, wrap_u64]
  have : (BitVec.ofInt 64 ((n * 1099511627776 : Nat) : Int) ||| BitVec.ofInt 64 ((c : Nat) : Int)).toNat = n * 1099511627776 + c := by
    rw [BitVec.toNat_or, BitVec.ofInt_natCast, BitVec.ofInt_natCast, BitVec.toNat_ofNat, BitVec.toNat_ofNat]
    rw [Nat.mod_eq_of_lt (by omega), Nat.mod_eq_of_lt (by omega)]
    have h2 := Nat.shiftLeft_add_eq_or_of_lt (i := 40) (b := c) (by omega) n
    rw [Nat.shiftLeft_eq] at h2
    rw [← h2]
  show ((BitVec.ofInt 64 ((n * 1099511627776 : Nat) : Int) ||| BitVec.ofInt 64 ((c : Nat) : Int)).toNat : Int) % 18446744073709551616 = _
  rw [this]
  omega

theorem treeId_c {o s : Int} (hs : 0 ≤ s) (h : K (.int .u64 (treeIdS o s)) w) : call Try.prog 16 #[.int .i64 o, .int .u64 s] K w := by
  refine call_of tree_Id_go (tree_Id_in ?_)
  by_cases h1 : o < 1
  · rw [show treeIdS o s = 0 by unfold treeIdS; rw [if_pos (.inl h1)]] at h
    (repeat (first | refine bin_lss ?_ | refine pick_T ?_ | refine cond_T ?_ | refine gsel_Tn ?_ | refine gsel_nt (by omega) ?_ | refine pick_t (by omega) ?_))
    exact h
  by_cases h2 : 6 < o
  · rw [show treeIdS o s = 0 by unfold treeIdS; rw [if_pos (.inr (.inl h2))]] at h
    (repeat (first | refine bin_lss ?_ | refine bin_gtr ?_ | refine pick_T ?_ | refine cond_T ?_ | refine gsel_Tn ?_ | refine gsel_nt (by omega) ?_ | refine gsel_nf (by omega) ?_ | refine pick_t (by omega) ?_ | refine pick_f (by omega) ?_))
    exact h
  by_cases h3 : s < 1
  · rw [show treeIdS o s = 0 by unfold treeIdS; rw [if_pos (.inr (.inr (.inl h3)))]] at h
    (repeat (first | refine bin_lss ?_ | refine bin_gtr ?_ | refine cond_T ?_ | refine gsel_nt (by omega) ?_ | refine gsel_nf (by omega) ?_ | refine pick_t (by omega) ?_ | refine pick_f (by omega) ?_))
    exact h
  by_cases h4 : 1099511627776 ≤ s
  · rw [show treeIdS o s = 0 by unfold treeIdS; rw [if_pos (.inr (.inr (.inr h4)))]] at h
    (repeat (first | refine bin_lss ?_ | refine bin_gtr ?_ | refine bin_geq ?_ | refine cond_t (by omega) ?_ | refine gsel_nf (by omega) ?_ | refine pick_f (by omega) ?_))
    exact h
  rw [show treeIdS o s = o * 1099511627776 + s by unfold treeIdS; rw [if_neg (by omega)]] at h
  (repeat (first | refine bin_lss ?_ | refine bin_gtr ?_ | refine bin_geq ?_ | refine cvIU (by omega) (by omega) ?_ | refine cond_f (by omega) ?_ | refine gsel_nf (by omega) ?_ | refine pick_f (by omega) ?_))
  refine bin_shl (by omega) ?_
  obtain ⟨on, rfl⟩ := Int.eq_ofNat_of_zero_le (show 0 ≤ o by omega)
  obtain ⟨sn, rfl⟩ := Int.eq_ofNat_of_zero_le hs
  have e1 : IntKind.u64.wrap ((on : Int) * 2 ^ (min (40 : Int).toNat IntKind.u64.bits)) = ((on * 1099511627776 : Nat) : Int) := by
    rw [show (2 : Int) ^ (min (40 : Int).toNat IntKind.u64.bits) = 1099511627776 from rfl, wrap_u64]; omega
  rw [e1]
  refine bin_or ?_
  rw [or_sum (by omega) (by omega)]
  have e2 : ((on * 1099511627776 + sn : Nat) : Int) = (on : Int) * 1099511627776 + (sn : Int) := by omega
  rw [e2]; exact h

theorem anew_c (h : ∀ w' f, AK w' f ⟨[], [], [], []⟩ → Below w.heap.size w w' → (∀ x ∈ f.p :: f.foot, w.heap.size ≤ x) → K (ptr f.p) w') : call Try.prog 7 #[] K w := by
  refine call_of audit_New_go (audit_New_in ?_)
  refine mkMap_of Try.underlying60 rfl u64v ndV ?_
  intro w1 m1 b1 s1
  refine mkMap_of Try.underlying61 rfl u64v i64v ?_
  intro w2 m2 b2 s2
  refine mkMap_of Try.underlying62 rfl nmV ndV ?_
  intro w3 m3 b3 s3
  refine mkMap_of Try.underlying63 rfl nmV Value.bool ?_
  intro w4 m4 b4 s4
  refine bld_of (vs := [.map (some w.heap.size), .map (some w1.heap.size), .map (some w2.heap.size), .map (some w3.heap.size)]) (by kernel_rfl) ?_
  refine box_of ?_
  intro w5 hb5 b5 s5
  have b45 := b5
  have b35 := b4.trans (b45.mono b4.size)
  have b25 := b3.trans (b35.mono b3.size)
  have b15 := b2.trans (b25.mono b2.size)
  refine h w5 ⟨w4.heap.size, w.heap.size, w1.heap.size, w2.heap.size, w3.heap.size⟩ ⟨hb5, m1.below b15, m2.below b25, m3.below b35, m4.below b45, ?_⟩ (b1.trans (b15.mono b1.size)) ?_
  · simp [AF.foot]; omega
  · intro x hx
    simp [AF.foot] at hx
    omega
end
end Go.Proofs.Ytcieejlkdfdpiaa
