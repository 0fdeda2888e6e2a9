/- The statement of DiskFuses: a fuse lets just so many calls be; of what is loose just the first ones are kept: whatever the input, true, and the input reads as it did. -/
import Derived.Test.YthmgiggmnbdnjaaSDFuses
import Derived.Test.YthmgiggmnbdnjaaDLaw
import Derived.Test.YthmgiggmnbdnjaaSep
import Derived.Test.YthmgiggmnbdnjaaDFrame
import Derived.Test.YthmgiggmnbdnjaaMem2
import Derived.Deep.Grids
namespace Go.Proofs.Ythmgiggmnbdnjaa
open Go.ChangeShapes Go.WideShapes Go.ChangeAt Go.RowKit Go.Deep

/-- A slice of truths. -/
def RBo (w : World) (a : Option Addr) (n c : Nat) (l : List Bool) : Prop := RV w a n c (l.map Value.bool)

section
variable {H : Type} {enc : TypeId × Value → H} {W : World} {base : Nat} {held : Bool}
theorem rbo_of_trod {fuel : Nat} {cs : List Value} {a : Option Addr} {n c : Nat} {x : DataW H × List MemPlace} (hc : cs = [.slice a n c])
    (hf : DataW.trod enc Try.prog W base (fun _ => true) held fuel 38 cs = some x) : (∃ l, RBo W a n c l) ∧ n ≤ c ∧ c ≤ 9223372036854775807 := by
  rcases open_bools Try.underlying38 Try.underlying4 (by kernel_rfl) hf with ⟨hcs, _⟩ | ⟨ad, len, cap, Bf, hcs, _, hl, hm, hx, hcell⟩
  · rw [hc] at hcs
    simp only [List.cons.injEq, Value.slice.injEq, and_true] at hcs
    obtain ⟨rfl, rfl, rfl⟩ := hcs
    exact ⟨⟨[], RV.nil W⟩, by omega, by omega⟩
  · rw [hc] at hcs
    simp only [List.cons.injEq, Value.slice.injEq, and_true] at hcs
    obtain ⟨rfl, rfl, rfl⟩ := hcs
    refine ⟨⟨(List.range n).map Bf, ?_⟩, hl, by simpa [maxLen] using hm⟩
    have hsp : 0 < n → ad.spot = none := by
      intro h0
      have := World.cell?_spot (hcell 0 (by omega))
      simpa [Addr.add] using this
    refine ⟨by simp, hl, fun h0 => ⟨ad.block, ad.off, by have := hsp h0; obtain ⟨b, o, s⟩ := ad; cases this; rfl⟩, (fun hh => by cases hh), fun i v hv => ?_⟩
    have hi : i < n := by have := (List.getElem?_eq_some_iff.1 hv).1; simpa using this
    rw [← add_slot (hsp (by omega)), hcell i (by omega)]
    simp only [List.map_map, List.getElem?_map, List.getElem?_range hi, Option.map_some, Function.comp, Option.some.injEq] at hv
    rw [← hv]
end

section
attribute [local irreducible] bin un conv call callV blt slc fldA fld idxA idx lkp mUpd mEnt eSt rng nxt ent ext alc box bld bldS ld sto nilC mkMap mkS ifc pick rdy wts gsel sti cond retM Gives cCode cGrp cSeq cOp
theorem byte_val2 (y : Nat) : Value.int .u8 (IntKind.u8.wrap (y : Int)) = u8v (UInt8.ofNat y) := by
  rw [wrap_u8]
  simp only [u8v, UInt8.toNat_ofNat']
  congr 1
theorem hG_t {v : Value} {want : Bool} {S : World → Prop} {s : KV → World → Prop} {k : Value → Prop} {x : Value} (hv : asB v = some want) (h : ∀ w, S w → ∀ K : KV, K x w → s K w) (hk : k x) : hG v want S s k :=
  ⟨x, fun _ w hw => h w hw _ ⟨rfl, rfl⟩, fun hh => absurd hv hh, hk⟩
theorem xG_t {v : Value} {want : Bool} {s : KV → World → Prop} {K : KV} {w : World} (hv : asB v = some want) (h : s K w) : xG v want s K w := ⟨fun _ => h, fun hh => absurd hv hh⟩

theorem lenBo {w : World} {K : KV} {ty : TypeId} {cs : Array Bool} {av : Option Addr} {n c : Nat} (h : K (.int .i64 (n : Int)) w) : blt Try.prog .len #[38] ty cs #[.slice av n c] K w := len_slc Try.underlying38 h
theorem idxBo {w : World} {K : KV} {av : Option Addr} {n c : Nat} {k : IntKind} {i : Nat} {l : List Bool} (hr : RBo w av n c l) (hi : i < n)
    (h : w.cell? (slotA av i) = some (.bool (l.getD i false)) → K (.pointer (some (slotA av i))) w) : idxA Try.prog 38 (.slice av n c) (.int k (i : Nat)) K w := by
  have hl : l.length = n := by simpa using RV.len hr
  refine idx_cell Try.underlying38 size_bool hr (by omega) (v := .bool (l.getD i false)) ?_ (by rw [Int.toNat_natCast]; exact h)
  rw [Int.toNat_natCast, List.getElem?_map, List.getElem?_eq_getElem (show i < l.length by omega)]
  simp [List.getD, show i < l.length by omega]
theorem ldBo {w : World} {K : KV} {ad : Addr} {v : Value} (hc : w.cell? ad = some v) (h : K v w) : ld Try.prog 4 (.pointer (some ad)) K w := ld_cell (fun _ => by kernel_rfl) hc h

/-- The loose changes. -/
def lap (X : List UInt8) : List Chg := X.map fun c => Chg.app false [c]
theorem runs_lap (X : List UInt8) : ∀ (S T : List UInt8), runs (lap X) (S, T) = (S ++ X, T) := by
  induction X with
  | nil => intro S T; simp [lap, runs]
  | cons c X ih =>
    intro S T
    show runs (lap X) ((Chg.app false [c]).on (S, T)) = _
    rw [show (Chg.app false [c]).on (S, T) = (S ++ [c], T) from rfl, ih]
    simp
theorem lap_take (X : List UInt8) (k : Nat) : (lap X).take k = lap (X.take k) := by simp [lap, List.map_take]
theorem lap_snoc (X : List UInt8) (c : UInt8) : lap X ++ [Chg.app false [c]] = lap (X ++ [c]) := by simp [lap]

theorem onS_lap (S X : List UInt8) (p : Int) (hp : 0 ≤ p) : onS ⟨(S, []), lap X, true, -1⟩ [p] = (⟨(S ++ X.take (p % (X.length + 1)).toNat, []), [], false, -1⟩, 0) := by
  have hk : pickS [p] 0 ((lap X).length + 1) = p % (X.length + 1) := by
    unfold pickS
    rw [if_neg (by simp), if_neg (by simp; omega)]
    simp [lap]
  unfold onS
  rw [if_neg (by simp)]
  dsimp only
  rw [hk]
  generalize (p % (X.length + 1 : Int)).toNat = k
  rw [lap_take, runs_lap]
  cases hq : (lap X)[k]? with
  | none => rfl
  | some ch =>
    have hlt := List.getElem?_eq_some_iff.1 hq
    have hm := List.getElem_mem hlt.1
    rw [hlt.2] at hm
    obtain ⟨c, _, rfl⟩ := List.mem_map.1 hm
    have h1 : pickS [p] 1 (([c] : List UInt8).length + 1) = 0 := by unfold pickS; rw [if_pos (by simp)]
    show (DS.mk ((Chg.app false (List.take (pickS [p] 1 (([c] : List UInt8).length + 1)).toNat [c])).on (S ++ X.take k, [])) [] false (-1), (0 : Int)) = _
    rw [h1]
    simp [Chg.on, fset, fget]

/-- The disk ahead of step i. -/
def fD (S X : List UInt8) (i many : Nat) : DS := if i ≤ many then ⟨(S, []), lap X, false, (many : Int) - i⟩ else ⟨(S, []), lap X, true, -1⟩

/-- b is not where a points. -/
def nb (a : Option Addr) (b : Nat) : Prop := ∀ ad, a = some ad → b ≠ ad.block
def ZZ (sa la : Option Addr) : Nat → Prop := fun b => nb sa b ∧ nb la b
theorem nb_none (b : Nat) : nb none b := fun ad h => by cases h
theorem OB.lt {w : World} {B : Nat} {a : Option Addr} {n c : Nat} {l : List UInt8} (h : OB w B a n c l) : ∀ ad, a = some ad → ad.block < w.heap.size := by
  intro ad ha
  subst ha
  exact (OV.block h _ rfl).2
theorem nb_fresh {w : World} {B : Nat} {a : Option Addr} {n c : Nat} {l : List UInt8} (h : OB w B a n c l) (b : Nat) (hb : w.heap.size ≤ b) : nb a b := fun ad ha e => by
  have := OB.lt h ad ha; omega
theorem nb_where {w : World} {av a' : Option Addr} {b : Nat} (hw : a' = av ∨ a' = some ⟨w.heap.size, 0, none⟩) (hn : nb av b) (hb : b < w.heap.size) : nb a' b := by
  rcases hw with rfl | rfl
  · exact hn
  · intro ad ha; cases ha; show b ≠ w.heap.size; omega
/-- A row stays where another is grown. -/
theorem OB.grownOther {w w' : World} {B B2 : Nat} {a a2 : Option Addr} {n c n2 c2 : Nat} {l l2 : List UInt8} (h : OB w B a n c l) (hg : w.grownBy w' (Value.slice a2 n2 c2).ownBlock) (h2 : OB w B2 a2 n2 c2 l2) (hs : ∀ ad, a = some ad → nb a2 ad.block) : OB w' B a n c l := by
  refine World.ownsRow.kept h hg ?_
  cases a with
  | none => exact .inl rfl
  | some ad =>
    right
    cases a2 with
    | none => simp [Value.ownBlock]
    | some ad2 =>
      have := hs ad rfl ad2 rfl
      simpa [Value.ownBlock] using this
theorem fD_le {S X : List UInt8} {i many : Nat} (h : i ≤ many) : fD S X i many = ⟨(S, []), lap X, false, (many : Int) - i⟩ := if_pos h
theorem fD_gt {S X : List UInt8} {i many : Nat} (h : many < i) : fD S X i many = ⟨(S, []), lap X, true, -1⟩ := if_neg (by omega)
theorem lap_now (S X : List UInt8) (o : Bool) (f : Int) : (DS.mk (S, []) (lap X) o f).now = (S ++ X, []) := runs_lap X S []
theorem sync_lt {S X : List UInt8} {j many : Nat} (h : j < many) : syncS (fD S X j many) = (fD (S ++ X) [] (j + 1) many, 0) := by
  rw [fD_le (show j ≤ many by omega), fD_le (show j + 1 ≤ many by omega)]
  unfold syncS
  rw [if_neg (by simp)]
  have hb : burn ⟨(S, []), lap X, false, (many : Int) - j⟩ = (false, ⟨(S, []), lap X, false, (many : Int) - j - 1⟩) := by
    unfold burn; rw [if_neg (by show ¬ (many : Int) - j = 0; omega), if_neg (by show ¬ (many : Int) - j < 0; omega)]
  rw [hb, if_neg (by simp), lap_now]
  simp only [Prod.mk.injEq, and_true]
  rw [show (many : Int) - j - 1 = (many : Int) - ((j + 1 : Nat) : Int) by omega]
  rfl
theorem burn_eq {S : List UInt8} {L : List Chg} : burn ⟨(S, []), L, false, 0⟩ = (true, ⟨(S, []), L, true, -1⟩) := by simp [burn]
theorem sync_eq {S X : List UInt8} {many : Nat} : syncS (fD S X many many) = (fD S X (many + 1) many, 8) := by
  rw [fD_le (Nat.le_refl many), fD_gt (show many < many + 1 by omega), Int.sub_self]
  unfold syncS
  rw [if_neg (by simp), burn_eq, if_pos rfl]
theorem sync_gt {S X : List UInt8} {j many : Nat} (h : many < j) : syncS (fD S X j many) = (fD S X (j + 1) many, 8) := by
  rw [fD_gt h, fD_gt (show many < j + 1 by omega)]
  simp [syncS]
theorem app_lt {S X : List UInt8} {j many : Nat} {c : UInt8} (h : j < many) (hl : S.length + X.length < 4194304) : appendS (fD S X j many) 0 [c] = (fD S (X ++ [c]) (j + 1) many, 0) := by
  rw [fD_le (show j ≤ many by omega), fD_le (show j + 1 ≤ many by omega)]
  unfold appendS
  rw [if_neg (by simp), if_neg (by simp), if_neg (by rw [lap_now]; simp [tot]; omega)]
  unfold doS
  have hb : burn ⟨(S, []), lap X ++ [Chg.app false [c]], false, (many : Int) - j⟩ = (false, ⟨(S, []), lap X ++ [Chg.app false [c]], false, (many : Int) - j - 1⟩) := by
    unfold burn; rw [if_neg (by show ¬ (many : Int) - j = 0; omega), if_neg (by show ¬ (many : Int) - j < 0; omega)]
  show ((burn ⟨(S, []), lap X ++ [Chg.app false [c]], false, (many : Int) - j⟩).2, if (burn ⟨(S, []), lap X ++ [Chg.app false [c]], false, (many : Int) - j⟩).1 then (8 : Int) else 0) = _
  rw [hb, lap_snoc, show (many : Int) - j - 1 = (many : Int) - ((j + 1 : Nat) : Int) by omega]
  rfl
theorem app_eq {S X : List UInt8} {many : Nat} {c : UInt8} (hl : S.length + X.length < 4194304) : appendS (fD S X many many) 0 [c] = (fD S (X ++ [c]) (many + 1) many, 8) := by
  rw [fD_le (Nat.le_refl many), fD_gt (show many < many + 1 by omega), Int.sub_self]
  unfold appendS
  rw [if_neg (by simp), if_neg (by simp), if_neg (by rw [lap_now]; simp [tot]; omega)]
  show ((burn ⟨(S, []), lap X ++ [Chg.app false [c]], false, 0⟩).2, if (burn ⟨(S, []), lap X ++ [Chg.app false [c]], false, 0⟩).1 then (8 : Int) else 0) = _
  rw [burn_eq, lap_snoc]; rfl
theorem app_gt {S X : List UInt8} {j many : Nat} {c : UInt8} (h : many < j) : appendS (fD S X j many) 0 [c] = (fD S X (j + 1) many, 8) := by
  rw [fD_gt h, fD_gt (show many < j + 1 by omega)]
  simp [appendS]
theorem app_bad {S X : List UInt8} {j many : Nat} (h : j ≤ many) : appendS (fD S X j many) 2 [120] = (fD S X j many, 1) := by
  rw [fD_le h]; simp [appendS]
theorem fD_loose {S X : List UInt8} {j many : Nat} : (fD S X j many).loose = lap X ∧ (fD S X j many).off = decide (many < j) := by
  unfold fD; split <;> simp <;> omega

set_option maxHeartbeats 4000000 in
theorem fuses_law {n : Int} {a1 : Option Addr} {n1 c1 : Nat} {l : List Bool} {pk : Int} {w : World} {K : KV} (hn : 0 ≤ n ∧ n ≤ 255) (r1 : RBo w a1 n1 c1 l) (hn1 : n1 ≤ 9223372036854775807) (hp : 0 ≤ pk ∧ pk ≤ 255)
    (h : ∀ w', Below w.heap.size w w' → K (.bool true) w') : call Try.prog 5 #[.int .u8 n, .slice a1 n1 c1, .int .u8 pk] K w := by
  have hll : l.length = n1 := by simpa using RV.len r1
  refine call_of leatlaw04_DiskFuses_go (leatlaw04_DiskFuses_in ?_)
  by_cases hbig : 100 < n1
  · (repeat (first | refine lenBo ?_ | refine bin_eql ?_ | refine bin_neq ?_ | refine bin_lss ?_ | refine bin_leq ?_ | refine bin_gtr ?_ | refine bin_geq ?_ | refine add64 (by omega) (by omega) ?_ | refine sub64 (by omega) (by omega) ?_ | refine ext_a ?_ | refine ext_b ?_ | refine ext3_a ?_ | refine ext3_b ?_ | refine ext3_c ?_ | refine un_notD ?_ | refine mul64 (by omega) (by omega) ?_ | refine cvIU (by omega) (by omega) ?_ | refine cvIUint (by omega) (by omega) ?_ | refine cvUI (by omega) (by omega) ?_ | refine cvBU (by omega) (by omega) ?_ | refine len8 ?_ | refine len36 ?_ | refine pick_T ?_ | refine pick_F ?_ | refine cond_T ?_ | refine cond_F ?_ | refine cond_t (by omega) ?_ | refine cond_f (by omega) ?_ | refine gsel_T ?_ | refine gsel_F ?_ | refine gsel_Tn ?_ | refine gsel_Fn ?_ | refine gsel_U ?_ | refine gsel_pt (by omega) ?_ | refine gsel_pf (by omega) ?_ | refine gsel_nt (by omega) ?_ | refine gsel_nf (by omega) ?_ | refine pick_t (by omega) ?_ | refine pick_f (by omega) ?_ | refine sti_of (fun _ hK => bin_eql hK) ?_ | refine sti_of (fun _ hK => bin_neq hK) ?_ | refine sti_of (fun _ hK => bin_lss hK) ?_ | refine sti_of (fun _ hK => bin_leq hK) ?_ | refine sti_of (fun _ hK => bin_gtr hK) ?_ | refine sti_of (fun _ hK => bin_geq hK) ?_ | refine sti_of (fun _ hK => add64 (by omega) (by omega) hK) ?_ | refine sti_of (fun _ hK => sub64 (by omega) (by omega) hK) ?_ | refine sti_of (fun _ hK => un_notD hK) ?_ | refine sti_of (fun _ hK => len8 hK) ?_ | refine sti_of (fun _ hK => pick_T hK) ?_ | refine sti_of (fun _ hK => pick_F hK) ?_))
    exact works_c h
  (repeat (first | refine lenBo ?_ | refine bin_eql ?_ | refine bin_neq ?_ | refine bin_lss ?_ | refine bin_leq ?_ | refine bin_gtr ?_ | refine bin_geq ?_ | refine add64 (by omega) (by omega) ?_ | refine sub64 (by omega) (by omega) ?_ | refine ext_a ?_ | refine ext_b ?_ | refine ext3_a ?_ | refine ext3_b ?_ | refine ext3_c ?_ | refine un_notD ?_ | refine mul64 (by omega) (by omega) ?_ | refine cvIU (by omega) (by omega) ?_ | refine cvIUint (by omega) (by omega) ?_ | refine cvUI (by omega) (by omega) ?_ | refine cvBU (by omega) (by omega) ?_ | refine len8 ?_ | refine len36 ?_ | refine pick_T ?_ | refine pick_F ?_ | refine cond_T ?_ | refine cond_F ?_ | refine cond_t (by omega) ?_ | refine cond_f (by omega) ?_ | refine gsel_T ?_ | refine gsel_F ?_ | refine gsel_Tn ?_ | refine gsel_Fn ?_ | refine gsel_U ?_ | refine gsel_pt (by omega) ?_ | refine gsel_pf (by omega) ?_ | refine gsel_nt (by omega) ?_ | refine gsel_nf (by omega) ?_ | refine pick_t (by omega) ?_ | refine pick_f (by omega) ?_ | refine sti_of (fun _ hK => bin_eql hK) ?_ | refine sti_of (fun _ hK => bin_neq hK) ?_ | refine sti_of (fun _ hK => bin_lss hK) ?_ | refine sti_of (fun _ hK => bin_leq hK) ?_ | refine sti_of (fun _ hK => bin_gtr hK) ?_ | refine sti_of (fun _ hK => bin_geq hK) ?_ | refine sti_of (fun _ hK => add64 (by omega) (by omega) hK) ?_ | refine sti_of (fun _ hK => sub64 (by omega) (by omega) hK) ?_ | refine sti_of (fun _ hK => un_notD hK) ?_ | refine sti_of (fun _ hK => len8 hK) ?_ | refine sti_of (fun _ hK => pick_T hK) ?_ | refine sti_of (fun _ hK => pick_F hK) ?_))
  refine new_c ?_
  intro w1 p hd1 b1 hpe
  have hpB : w.heap.size ≤ p := by omega
  (repeat (first | refine eqP_nil ?_ | refine neP_nil ?_ | refine eqP_none ?_ | refine neP_none ?_ | refine bin_eql ?_ | refine bin_neq ?_ | refine bin_lss ?_ | refine bin_leq ?_ | refine bin_gtr ?_ | refine bin_geq ?_ | refine add64 (by omega) (by omega) ?_ | refine sub64 (by omega) (by omega) ?_ | refine ext_a ?_ | refine ext_b ?_ | refine ext3_a ?_ | refine ext3_b ?_ | refine ext3_c ?_ | refine un_notD ?_ | refine mul64 (by omega) (by omega) ?_ | refine cvIU (by omega) (by omega) ?_ | refine cvIUint (by omega) (by omega) ?_ | refine cvUI (by omega) (by omega) ?_ | refine cvBU (by omega) (by omega) ?_ | refine len8 ?_ | refine len36 ?_ | refine pick_T ?_ | refine pick_F ?_ | refine cond_T ?_ | refine cond_F ?_ | refine cond_t (by omega) ?_ | refine cond_f (by omega) ?_ | refine gsel_T ?_ | refine gsel_F ?_ | refine gsel_Tn ?_ | refine gsel_Fn ?_ | refine gsel_U ?_ | refine gsel_pt (by omega) ?_ | refine gsel_pf (by omega) ?_ | refine gsel_nt (by omega) ?_ | refine gsel_nf (by omega) ?_ | refine pick_t (by omega) ?_ | refine pick_f (by omega) ?_ | refine sti_of (fun _ hK => bin_eql hK) ?_ | refine sti_of (fun _ hK => bin_neq hK) ?_ | refine sti_of (fun _ hK => bin_lss hK) ?_ | refine sti_of (fun _ hK => bin_leq hK) ?_ | refine sti_of (fun _ hK => bin_gtr hK) ?_ | refine sti_of (fun _ hK => bin_geq hK) ?_ | refine sti_of (fun _ hK => add64 (by omega) (by omega) hK) ?_ | refine sti_of (fun _ hK => sub64 (by omega) (by omega) hK) ?_ | refine sti_of (fun _ hK => un_notD hK) ?_ | refine sti_of (fun _ hK => len8 hK) ?_ | refine sti_of (fun _ hK => pick_T hK) ?_ | refine sti_of (fun _ hK => pick_F hK) ?_))
  refine conv_int Try.underlying5 Try.underlying3 ?_
  rw [wrap_i64 (by omega) (by omega)]
  refine rem_nn (by omega) (by omega) ?_
  obtain ⟨many, hmany⟩ : ∃ k : Nat, n % 100 = k := Int.eq_ofNat_of_zero_le (Int.emod_nonneg _ (by omega))
  have hm100 : many < 100 := by have := Int.emod_lt_of_pos n (show (0 : Int) < 100 by omega); omega
  rw [hmany]
  refine fuse_c hd1 (by omega) ?_
  intro w2 hd2 k2
  have B2 : Keep DT w.heap.size w w2 := (Keep.of b1).trans (k2.mono (by simp) hpB)
  have hd2 : DK (ZZ none none) w2 w.heap.size p (fD [] [] 0 many) := by
    have hd2 := hd2.mono (Z' := ZZ none none) (fun b _ _ => ⟨nb_none b, nb_none b⟩) (fun b _ => ⟨nb_none b, nb_none b⟩)
    have e : fD [] [] 0 many = ⟨([], []), [], false, many⟩ := by simp [fD, lap]
    rw [e]
    have hd2 : DK (ZZ none none) w2 w.heap.size p ⟨([], []), [], false, if 0 ≤ (many : Int) then (many : Int) else -1⟩ := hd2
    rwa [if_pos (by omega)] at hd2
  (repeat (first | refine leatlaw04_DiskFuses_P1_r ?_ | refine leatlaw04_DiskFuses_P2_r ?_ | refine leatlaw04_DiskFuses_A1_r ?_ | refine leatlaw04_DiskFuses_P3_r ?_ | refine leatlaw04_DiskFuses_A2_r ?_ | refine leatlaw04_DiskFuses_A3_r ?_ | refine leatlaw04_DiskFuses_A4_r ?_ | refine bin_eql ?_ | refine bin_neq ?_ | refine bin_lss ?_ | refine bin_leq ?_ | refine bin_gtr ?_ | refine bin_geq ?_ | refine add64 (by omega) (by omega) ?_ | refine sub64 (by omega) (by omega) ?_ | refine ext_a ?_ | refine ext_b ?_ | refine ext3_a ?_ | refine ext3_b ?_ | refine ext3_c ?_ | refine un_notD ?_ | refine mul64 (by omega) (by omega) ?_ | refine cvIU (by omega) (by omega) ?_ | refine cvIUint (by omega) (by omega) ?_ | refine cvUI (by omega) (by omega) ?_ | refine cvBU (by omega) (by omega) ?_ | refine len8 ?_ | refine len36 ?_ | refine pick_T ?_ | refine pick_F ?_ | refine cond_T ?_ | refine cond_F ?_ | refine cond_t (by omega) ?_ | refine cond_f (by omega) ?_ | refine gsel_T ?_ | refine gsel_F ?_ | refine gsel_Tn ?_ | refine gsel_Fn ?_ | refine gsel_U ?_ | refine gsel_pt (by omega) ?_ | refine gsel_pf (by omega) ?_ | refine gsel_nt (by omega) ?_ | refine gsel_nf (by omega) ?_ | refine pick_t (by omega) ?_ | refine pick_f (by omega) ?_ | refine sti_of (fun _ hK => bin_eql hK) ?_ | refine sti_of (fun _ hK => bin_neq hK) ?_ | refine sti_of (fun _ hK => bin_lss hK) ?_ | refine sti_of (fun _ hK => bin_leq hK) ?_ | refine sti_of (fun _ hK => bin_gtr hK) ?_ | refine sti_of (fun _ hK => bin_geq hK) ?_ | refine sti_of (fun _ hK => add64 (by omega) (by omega) hK) ?_ | refine sti_of (fun _ hK => sub64 (by omega) (by omega) hK) ?_ | refine sti_of (fun _ hK => un_notD hK) ?_ | refine sti_of (fun _ hK => len8 hK) ?_ | refine sti_of (fun _ hK => pick_T hK) ?_ | refine sti_of (fun _ hK => pick_F hK) ?_))
  refine leatlaw04_DiskFuses_L1_r (Inv := fun su lo i _ _ _ _ _ _ _ _ _ _ _ _ _ _ _ _ _ _ _ _ _ _ _ wr => ∃ (j : Nat) (sa la : Option Addr) (sn sc ln lc : Nat) (S X : List UInt8), j ≤ n1 ∧ i = .int .i64 (j : Nat) ∧ su = .slice sa sn sc ∧ lo = .slice la ln lc ∧ OB wr w.heap.size sa sn sc S ∧ OB wr w.heap.size la ln lc X ∧
      S.length + X.length ≤ j ∧ (∀ ad, sa = some ad → nb la ad.block) ∧ DK (ZZ sa la) wr w.heap.size p (fD S X j many) ∧ Below w.heap.size w wr)
    (μ := fun _ _ i _ _ _ _ _ _ _ _ _ _ _ _ _ _ _ _ _ _ _ _ _ _ _ _ => n1 - (intOf i).toNat) ⟨0, _, _, _, _, _, _, [], [], by omega, rfl, rfl, rfl, OB.nil _ _, OB.nil _ _, by simp, (fun ad ha => by cases ha), hd2, B2.below (Nat.le_refl _)⟩ ?_
  rintro _ _ _ _ _ _ _ _ _ _ _ _ _ _ _ _ _ _ _ _ _ _ _ _ _ _ _ w3 m ⟨j, sa, la, sn, sc, ln, lc, S, X, hj, rfl, rfl, rfl, oS, oX, hlen, hsl, hd3, b3⟩ hm
  have hS := oS.len
  have hX := oX.len
  by_cases hjn : j < n1
  · have rd : ∀ (w' : World) (K' : Value → KV), Below w.heap.size w w' → (∀ t, K' t (.bool (l.getD j false)) w') → idxA Try.prog 38 (.slice a1 n1 c1) (.int .i64 (j : Nat)) (fun t w => ld Try.prog 4 t (K' t) w) w' := by
      intro w' K' hb hK
      refine idxBo (RV.below r1 hb (Nat.le_refl _)) hjn ?_
      intro hc
      exact ldBo hc (hK _)
    have hsl2 : ∀ {w8 : World} {a9 : Option Addr}, (a9 = la ∨ a9 = some ⟨w8.heap.size, 0, none⟩) → (∀ ad, sa = some ad → ad.block < w8.heap.size) → ∀ ad, sa = some ad → nb a9 ad.block := by
      intro w8 a9 hw hlt ad ha
      exact nb_where hw (hsl ad ha) (hlt ad ha)
    have mu : ∀ m', m' = n1 - (intOf (Value.int .i64 (j : Nat))).toNat → n1 - (intOf (Value.int .i64 ((j : Int) + 1))).toNat < m' := by
      intro m' e; rw [e]; simp only [intOf]; omega
    have hcv : ∀ {w' : World} {K' : KV}, K' (u8v (UInt8.ofNat (j + 1))) w' → conv Try.prog 3 5 (.int .i64 ((j : Int) + 1)) K' w' := by
      intro w' K' hK
      refine conv_int Try.underlying3 Try.underlying5 ?_
      rw [show ((j : Int) + 1) = ((j + 1 : Nat) : Int) by omega, byte_val2]; exact hK
    -- behind the round
    have stay : ∀ (w6 : World) (m' : Nat), m' = n1 - (intOf (Value.int .i64 (j : Nat))).toNat → OB w6 w.heap.size sa sn sc S → OB w6 w.heap.size la ln lc X → DK (ZZ sa la) w6 w.heap.size p (fD S X (j + 1) many) → Below w.heap.size w w6 → ∀ e : Nat, e = 0 → True := fun _ _ _ _ _ _ _ _ _ => trivial
    (repeat (first | refine lenBo ?_ | refine leatlaw04_DiskFuses_P1_r ?_ | refine leatlaw04_DiskFuses_P2_r ?_ | refine leatlaw04_DiskFuses_A1_r ?_ | refine leatlaw04_DiskFuses_P3_r ?_ | refine leatlaw04_DiskFuses_A2_r ?_ | refine leatlaw04_DiskFuses_A3_r ?_ | refine leatlaw04_DiskFuses_A4_r ?_ | refine bin_eql ?_ | refine bin_neq ?_ | refine bin_lss ?_ | refine bin_leq ?_ | refine bin_gtr ?_ | refine bin_geq ?_ | refine add64 (by omega) (by omega) ?_ | refine sub64 (by omega) (by omega) ?_ | refine ext_a ?_ | refine ext_b ?_ | refine ext3_a ?_ | refine ext3_b ?_ | refine ext3_c ?_ | refine un_notD ?_ | refine mul64 (by omega) (by omega) ?_ | refine cvIU (by omega) (by omega) ?_ | refine cvIUint (by omega) (by omega) ?_ | refine cvUI (by omega) (by omega) ?_ | refine cvBU (by omega) (by omega) ?_ | refine len8 ?_ | refine len36 ?_ | refine pick_T ?_ | refine pick_F ?_ | refine cond_T ?_ | refine cond_F ?_ | refine cond_t (by omega) ?_ | refine cond_f (by omega) ?_ | refine gsel_T ?_ | refine gsel_F ?_ | refine gsel_Tn ?_ | refine gsel_Fn ?_ | refine gsel_U ?_ | refine gsel_pt (by omega) ?_ | refine gsel_pf (by omega) ?_ | refine gsel_nt (by omega) ?_ | refine gsel_nf (by omega) ?_ | refine pick_t (by omega) ?_ | refine pick_f (by omega) ?_ | refine sti_of (fun _ hK => bin_eql hK) ?_ | refine sti_of (fun _ hK => bin_neq hK) ?_ | refine sti_of (fun _ hK => bin_lss hK) ?_ | refine sti_of (fun _ hK => bin_leq hK) ?_ | refine sti_of (fun _ hK => bin_gtr hK) ?_ | refine sti_of (fun _ hK => bin_geq hK) ?_ | refine sti_of (fun _ hK => add64 (by omega) (by omega) hK) ?_ | refine sti_of (fun _ hK => sub64 (by omega) (by omega) hK) ?_ | refine sti_of (fun _ hK => un_notD hK) ?_ | refine sti_of (fun _ hK => len8 hK) ?_ | refine sti_of (fun _ hK => pick_T hK) ?_ | refine sti_of (fun _ hK => pick_F hK) ?_))
    by_cases hjm : j ≤ many
    · (repeat (first | refine bin_eql ?_ | refine bin_neq ?_ | refine bin_lss ?_ | refine bin_leq ?_ | refine bin_gtr ?_ | refine bin_geq ?_ | refine add64 (by omega) (by omega) ?_ | refine sub64 (by omega) (by omega) ?_ | refine ext_a ?_ | refine ext_b ?_ | refine ext3_a ?_ | refine ext3_b ?_ | refine ext3_c ?_ | refine un_notD ?_ | refine mul64 (by omega) (by omega) ?_ | refine cvIU (by omega) (by omega) ?_ | refine cvIUint (by omega) (by omega) ?_ | refine cvUI (by omega) (by omega) ?_ | refine cvBU (by omega) (by omega) ?_ | refine len8 ?_ | refine len36 ?_ | refine pick_T ?_ | refine pick_F ?_ | refine cond_T ?_ | refine cond_F ?_ | refine cond_t (by omega) ?_ | refine cond_f (by omega) ?_ | refine gsel_T ?_ | refine gsel_F ?_ | refine gsel_Tn ?_ | refine gsel_Fn ?_ | refine gsel_U ?_ | refine gsel_pt (by omega) ?_ | refine gsel_pf (by omega) ?_ | refine gsel_nt (by omega) ?_ | refine gsel_nf (by omega) ?_ | refine pick_t (by omega) ?_ | refine pick_f (by omega) ?_ | refine sti_of (fun _ hK => bin_eql hK) ?_ | refine sti_of (fun _ hK => bin_neq hK) ?_ | refine sti_of (fun _ hK => bin_lss hK) ?_ | refine sti_of (fun _ hK => bin_leq hK) ?_ | refine sti_of (fun _ hK => bin_gtr hK) ?_ | refine sti_of (fun _ hK => bin_geq hK) ?_ | refine sti_of (fun _ hK => add64 (by omega) (by omega) hK) ?_ | refine sti_of (fun _ hK => sub64 (by omega) (by omega) hK) ?_ | refine sti_of (fun _ hK => un_notD hK) ?_ | refine sti_of (fun _ hK => len8 hK) ?_ | refine sti_of (fun _ hK => pick_T hK) ?_ | refine sti_of (fun _ hK => pick_F hK) ?_))
      refine const8 [120] rfl rfl (by simp) (by simp) ?_
      intro a4 w4 r4 b4
      have hlo := (fD_loose (S := S) (X := X) (j := j) (many := many)).1
      refine append_c (hd3.below b4) r4 (by omega) (by rw [hlo]; simp [lap]; omega) ?_
      rw [app_bad hjm]
      intro w5 hd5 k5
      have K5 : Keep DT w.heap.size w3 w5 := (Keep.of b4).trans k5
      have oS := oS.keep K5 (by decide)
      have oX := oX.keep K5 (by decide)
      have b5 : Below w.heap.size w w5 := b3.trans (K5.below b3.size)
      (repeat (first | refine bin_eql ?_ | refine bin_neq ?_ | refine bin_lss ?_ | refine bin_leq ?_ | refine bin_gtr ?_ | refine bin_geq ?_ | refine add64 (by omega) (by omega) ?_ | refine sub64 (by omega) (by omega) ?_ | refine ext_a ?_ | refine ext_b ?_ | refine ext3_a ?_ | refine ext3_b ?_ | refine ext3_c ?_ | refine un_notD ?_ | refine mul64 (by omega) (by omega) ?_ | refine cvIU (by omega) (by omega) ?_ | refine cvIUint (by omega) (by omega) ?_ | refine cvUI (by omega) (by omega) ?_ | refine cvBU (by omega) (by omega) ?_ | refine len8 ?_ | refine len36 ?_ | refine pick_T ?_ | refine pick_F ?_ | refine cond_T ?_ | refine cond_F ?_ | refine cond_t (by omega) ?_ | refine cond_f (by omega) ?_ | refine gsel_T ?_ | refine gsel_F ?_ | refine gsel_Tn ?_ | refine gsel_Fn ?_ | refine gsel_U ?_ | refine gsel_pt (by omega) ?_ | refine gsel_pf (by omega) ?_ | refine gsel_nt (by omega) ?_ | refine gsel_nf (by omega) ?_ | refine pick_t (by omega) ?_ | refine pick_f (by omega) ?_ | refine sti_of (fun _ hK => bin_eql hK) ?_ | refine sti_of (fun _ hK => bin_neq hK) ?_ | refine sti_of (fun _ hK => bin_lss hK) ?_ | refine sti_of (fun _ hK => bin_leq hK) ?_ | refine sti_of (fun _ hK => bin_gtr hK) ?_ | refine sti_of (fun _ hK => bin_geq hK) ?_ | refine sti_of (fun _ hK => add64 (by omega) (by omega) hK) ?_ | refine sti_of (fun _ hK => sub64 (by omega) (by omega) hK) ?_ | refine sti_of (fun _ hK => un_notD hK) ?_ | refine sti_of (fun _ hK => len8 hK) ?_ | refine sti_of (fun _ hK => pick_T hK) ?_ | refine sti_of (fun _ hK => pick_F hK) ?_))
      refine rd _ _ b5 fun tq => ?_
      cases hlj : l.getD j false with
      | true =>
        rw [hlj] at rd
        (repeat (first | refine leatlaw04_DiskFuses_P1_r ?_ | refine leatlaw04_DiskFuses_P2_r ?_ | refine leatlaw04_DiskFuses_A1_r ?_ | refine leatlaw04_DiskFuses_P3_r ?_ | refine leatlaw04_DiskFuses_A2_r ?_ | refine leatlaw04_DiskFuses_A3_r ?_ | refine leatlaw04_DiskFuses_A4_r ?_ | refine bin_eql ?_ | refine bin_neq ?_ | refine bin_lss ?_ | refine bin_leq ?_ | refine bin_gtr ?_ | refine bin_geq ?_ | refine add64 (by omega) (by omega) ?_ | refine sub64 (by omega) (by omega) ?_ | refine ext_a ?_ | refine ext_b ?_ | refine ext3_a ?_ | refine ext3_b ?_ | refine ext3_c ?_ | refine un_notD ?_ | refine mul64 (by omega) (by omega) ?_ | refine cvIU (by omega) (by omega) ?_ | refine cvIUint (by omega) (by omega) ?_ | refine cvUI (by omega) (by omega) ?_ | refine cvBU (by omega) (by omega) ?_ | refine len8 ?_ | refine len36 ?_ | refine pick_T ?_ | refine pick_F ?_ | refine cond_T ?_ | refine cond_F ?_ | refine cond_t (by omega) ?_ | refine cond_f (by omega) ?_ | refine gsel_T ?_ | refine gsel_F ?_ | refine gsel_Tn ?_ | refine gsel_Fn ?_ | refine gsel_U ?_ | refine gsel_pt (by omega) ?_ | refine gsel_pf (by omega) ?_ | refine gsel_nt (by omega) ?_ | refine gsel_nf (by omega) ?_ | refine pick_t (by omega) ?_ | refine pick_f (by omega) ?_ | refine sti_of (fun _ hK => bin_eql hK) ?_ | refine sti_of (fun _ hK => bin_neq hK) ?_ | refine sti_of (fun _ hK => bin_lss hK) ?_ | refine sti_of (fun _ hK => bin_leq hK) ?_ | refine sti_of (fun _ hK => bin_gtr hK) ?_ | refine sti_of (fun _ hK => bin_geq hK) ?_ | refine sti_of (fun _ hK => add64 (by omega) (by omega) hK) ?_ | refine sti_of (fun _ hK => sub64 (by omega) (by omega) hK) ?_ | refine sti_of (fun _ hK => un_notD hK) ?_ | refine sti_of (fun _ hK => len8 hK) ?_ | refine sti_of (fun _ hK => pick_T hK) ?_ | refine sti_of (fun _ hK => pick_F hK) ?_))
        refine sync_c hd5 ?_
        by_cases hjm2 : j < many
        · rw [sync_lt hjm2]
          intro w6 hd6 k6
          have oS := oS.keep k6 (by decide)
          have oX := oX.keep k6 (by decide)
          have b6 : Below w.heap.size w w6 := b5.trans (k6.below b5.size)
          have hof : (fD (S ++ X) [] (j + 1) many).off = false := by rw [fD_le (by omega)]
          (repeat (first | refine leatlaw04_DiskFuses_P1_r ?_ | refine leatlaw04_DiskFuses_P2_r ?_ | refine leatlaw04_DiskFuses_A1_r ?_ | refine leatlaw04_DiskFuses_P3_r ?_ | refine leatlaw04_DiskFuses_A2_r ?_ | refine leatlaw04_DiskFuses_A3_r ?_ | refine leatlaw04_DiskFuses_A4_r ?_ | refine bin_eql ?_ | refine bin_neq ?_ | refine bin_lss ?_ | refine bin_leq ?_ | refine bin_gtr ?_ | refine bin_geq ?_ | refine add64 (by omega) (by omega) ?_ | refine sub64 (by omega) (by omega) ?_ | refine ext_a ?_ | refine ext_b ?_ | refine ext3_a ?_ | refine ext3_b ?_ | refine ext3_c ?_ | refine un_notD ?_ | refine mul64 (by omega) (by omega) ?_ | refine cvIU (by omega) (by omega) ?_ | refine cvIUint (by omega) (by omega) ?_ | refine cvUI (by omega) (by omega) ?_ | refine cvBU (by omega) (by omega) ?_ | refine len8 ?_ | refine len36 ?_ | refine pick_T ?_ | refine pick_F ?_ | refine cond_T ?_ | refine cond_F ?_ | refine cond_t (by omega) ?_ | refine cond_f (by omega) ?_ | refine gsel_T ?_ | refine gsel_F ?_ | refine gsel_Tn ?_ | refine gsel_Fn ?_ | refine gsel_U ?_ | refine gsel_pt (by omega) ?_ | refine gsel_pf (by omega) ?_ | refine gsel_nt (by omega) ?_ | refine gsel_nf (by omega) ?_ | refine pick_t (by omega) ?_ | refine pick_f (by omega) ?_ | refine sti_of (fun _ hK => bin_eql hK) ?_ | refine sti_of (fun _ hK => bin_neq hK) ?_ | refine sti_of (fun _ hK => bin_lss hK) ?_ | refine sti_of (fun _ hK => bin_leq hK) ?_ | refine sti_of (fun _ hK => bin_gtr hK) ?_ | refine sti_of (fun _ hK => bin_geq hK) ?_ | refine sti_of (fun _ hK => add64 (by omega) (by omega) hK) ?_ | refine sti_of (fun _ hK => sub64 (by omega) (by omega) hK) ?_ | refine sti_of (fun _ hK => un_notD hK) ?_ | refine sti_of (fun _ hK => len8 hK) ?_ | refine sti_of (fun _ hK => pick_T hK) ?_ | refine sti_of (fun _ hK => pick_F hK) ?_))
          refine power_c hd6 ?_
          rw [hof]
          refine un_not ?_
          (repeat (first | refine leatlaw04_DiskFuses_P1_r ?_ | refine leatlaw04_DiskFuses_P2_r ?_ | refine leatlaw04_DiskFuses_A1_r ?_ | refine leatlaw04_DiskFuses_P3_r ?_ | refine leatlaw04_DiskFuses_A2_r ?_ | refine leatlaw04_DiskFuses_A3_r ?_ | refine leatlaw04_DiskFuses_A4_r ?_ | refine bin_eql ?_ | refine bin_neq ?_ | refine bin_lss ?_ | refine bin_leq ?_ | refine bin_gtr ?_ | refine bin_geq ?_ | refine add64 (by omega) (by omega) ?_ | refine sub64 (by omega) (by omega) ?_ | refine ext_a ?_ | refine ext_b ?_ | refine ext3_a ?_ | refine ext3_b ?_ | refine ext3_c ?_ | refine un_notD ?_ | refine mul64 (by omega) (by omega) ?_ | refine cvIU (by omega) (by omega) ?_ | refine cvIUint (by omega) (by omega) ?_ | refine cvUI (by omega) (by omega) ?_ | refine cvBU (by omega) (by omega) ?_ | refine len8 ?_ | refine len36 ?_ | refine pick_T ?_ | refine pick_F ?_ | refine cond_T ?_ | refine cond_F ?_ | refine cond_t (by omega) ?_ | refine cond_f (by omega) ?_ | refine gsel_T ?_ | refine gsel_F ?_ | refine gsel_Tn ?_ | refine gsel_Fn ?_ | refine gsel_U ?_ | refine gsel_pt (by omega) ?_ | refine gsel_pf (by omega) ?_ | refine gsel_nt (by omega) ?_ | refine gsel_nf (by omega) ?_ | refine pick_t (by omega) ?_ | refine pick_f (by omega) ?_ | refine sti_of (fun _ hK => bin_eql hK) ?_ | refine sti_of (fun _ hK => bin_neq hK) ?_ | refine sti_of (fun _ hK => bin_lss hK) ?_ | refine sti_of (fun _ hK => bin_leq hK) ?_ | refine sti_of (fun _ hK => bin_gtr hK) ?_ | refine sti_of (fun _ hK => bin_geq hK) ?_ | refine sti_of (fun _ hK => add64 (by omega) (by omega) hK) ?_ | refine sti_of (fun _ hK => sub64 (by omega) (by omega) hK) ?_ | refine sti_of (fun _ hK => un_notD hK) ?_ | refine sti_of (fun _ hK => len8 hK) ?_ | refine sti_of (fun _ hK => pick_T hK) ?_ | refine sti_of (fun _ hK => pick_F hK) ?_))
          refine rd _ _ b6 fun tq => ?_
          refine un_not ?_
          (repeat (first | refine leatlaw04_DiskFuses_P1_r ?_ | refine leatlaw04_DiskFuses_P2_r ?_ | refine leatlaw04_DiskFuses_A1_r ?_ | refine leatlaw04_DiskFuses_P3_r ?_ | refine leatlaw04_DiskFuses_A2_r ?_ | refine leatlaw04_DiskFuses_A3_r ?_ | refine leatlaw04_DiskFuses_A4_r ?_ | refine bin_eql ?_ | refine bin_neq ?_ | refine bin_lss ?_ | refine bin_leq ?_ | refine bin_gtr ?_ | refine bin_geq ?_ | refine add64 (by omega) (by omega) ?_ | refine sub64 (by omega) (by omega) ?_ | refine ext_a ?_ | refine ext_b ?_ | refine ext3_a ?_ | refine ext3_b ?_ | refine ext3_c ?_ | refine un_notD ?_ | refine mul64 (by omega) (by omega) ?_ | refine cvIU (by omega) (by omega) ?_ | refine cvIUint (by omega) (by omega) ?_ | refine cvUI (by omega) (by omega) ?_ | refine cvBU (by omega) (by omega) ?_ | refine len8 ?_ | refine len36 ?_ | refine pick_T ?_ | refine pick_F ?_ | refine cond_T ?_ | refine cond_F ?_ | refine cond_t (by omega) ?_ | refine cond_f (by omega) ?_ | refine gsel_T ?_ | refine gsel_F ?_ | refine gsel_Tn ?_ | refine gsel_Fn ?_ | refine gsel_U ?_ | refine gsel_pt (by omega) ?_ | refine gsel_pf (by omega) ?_ | refine gsel_nt (by omega) ?_ | refine gsel_nf (by omega) ?_ | refine pick_t (by omega) ?_ | refine pick_f (by omega) ?_ | refine sti_of (fun _ hK => bin_eql hK) ?_ | refine sti_of (fun _ hK => bin_neq hK) ?_ | refine sti_of (fun _ hK => bin_lss hK) ?_ | refine sti_of (fun _ hK => bin_leq hK) ?_ | refine sti_of (fun _ hK => bin_gtr hK) ?_ | refine sti_of (fun _ hK => bin_geq hK) ?_ | refine sti_of (fun _ hK => add64 (by omega) (by omega) hK) ?_ | refine sti_of (fun _ hK => sub64 (by omega) (by omega) hK) ?_ | refine sti_of (fun _ hK => un_notD hK) ?_ | refine sti_of (fun _ hK => len8 hK) ?_ | refine sti_of (fun _ hK => pick_T hK) ?_ | refine sti_of (fun _ hK => pick_F hK) ?_))
          refine app8s w.heap.size oS oX.rb (by omega) b6.size ?_
          intro a7 c7 w7 o7 g7 wh7
          have k7 : Keep [5] w.heap.size w6 w7 := Keep.grown g7 oS (by simp) (Nat.le_refl _)
          have b7 : Below w.heap.size w w7 := b6.trans (k7.below b6.size)
          have hd7 : DK (ZZ a7 none) w7 w.heap.size p _ := hd6.step (KeepZ.grown g7 oS (fun ad ha hz => hz.1 ad ha rfl)) (fun b hb hz => ⟨nb_where wh7 hz.1 hb, nb_none b⟩) (fun b hb => ⟨nb_fresh o7 b hb, nb_none b⟩)
          (repeat (first | refine leatlaw04_DiskFuses_P1_r ?_ | refine leatlaw04_DiskFuses_P2_r ?_ | refine leatlaw04_DiskFuses_A1_r ?_ | refine leatlaw04_DiskFuses_P3_r ?_ | refine leatlaw04_DiskFuses_A2_r ?_ | refine leatlaw04_DiskFuses_A3_r ?_ | refine leatlaw04_DiskFuses_A4_r ?_ | refine bin_eql ?_ | refine bin_neq ?_ | refine bin_lss ?_ | refine bin_leq ?_ | refine bin_gtr ?_ | refine bin_geq ?_ | refine add64 (by omega) (by omega) ?_ | refine sub64 (by omega) (by omega) ?_ | refine ext_a ?_ | refine ext_b ?_ | refine ext3_a ?_ | refine ext3_b ?_ | refine ext3_c ?_ | refine un_notD ?_ | refine mul64 (by omega) (by omega) ?_ | refine cvIU (by omega) (by omega) ?_ | refine cvIUint (by omega) (by omega) ?_ | refine cvUI (by omega) (by omega) ?_ | refine cvBU (by omega) (by omega) ?_ | refine len8 ?_ | refine len36 ?_ | refine pick_T ?_ | refine pick_F ?_ | refine cond_T ?_ | refine cond_F ?_ | refine cond_t (by omega) ?_ | refine cond_f (by omega) ?_ | refine gsel_T ?_ | refine gsel_F ?_ | refine gsel_Tn ?_ | refine gsel_Fn ?_ | refine gsel_U ?_ | refine gsel_pt (by omega) ?_ | refine gsel_pf (by omega) ?_ | refine gsel_nt (by omega) ?_ | refine gsel_nf (by omega) ?_ | refine pick_t (by omega) ?_ | refine pick_f (by omega) ?_ | refine sti_of (fun _ hK => bin_eql hK) ?_ | refine sti_of (fun _ hK => bin_neq hK) ?_ | refine sti_of (fun _ hK => bin_lss hK) ?_ | refine sti_of (fun _ hK => bin_leq hK) ?_ | refine sti_of (fun _ hK => bin_gtr hK) ?_ | refine sti_of (fun _ hK => bin_geq hK) ?_ | refine sti_of (fun _ hK => add64 (by omega) (by omega) hK) ?_ | refine sti_of (fun _ hK => sub64 (by omega) (by omega) hK) ?_ | refine sti_of (fun _ hK => un_notD hK) ?_ | refine sti_of (fun _ hK => len8 hK) ?_ | refine sti_of (fun _ hK => pick_T hK) ?_ | refine sti_of (fun _ hK => pick_F hK) ?_))
          exact ⟨⟨j + 1, _, _, _, _, _, _, S ++ X, [], by omega, rfl, rfl, rfl, o7, OB.nil _ _, by simp; omega, (fun ad _ => nb_none _), hd7, b7⟩, mu _ hm⟩
        · have hjeq : j = many := by omega
          subst hjeq
          rw [sync_eq]
          intro w6 hd6 k6
          have oS := oS.keep k6 (by decide)
          have oX := oX.keep k6 (by decide)
          have b6 : Below w.heap.size w w6 := b5.trans (k6.below b5.size)
          have hof : (fD S X (j + 1) j).off = true := by rw [fD_gt (by omega)]
          (repeat (first | refine leatlaw04_DiskFuses_P1_r ?_ | refine leatlaw04_DiskFuses_P2_r ?_ | refine leatlaw04_DiskFuses_A1_r ?_ | refine leatlaw04_DiskFuses_P3_r ?_ | refine leatlaw04_DiskFuses_A2_r ?_ | refine leatlaw04_DiskFuses_A3_r ?_ | refine leatlaw04_DiskFuses_A4_r ?_ | refine bin_eql ?_ | refine bin_neq ?_ | refine bin_lss ?_ | refine bin_leq ?_ | refine bin_gtr ?_ | refine bin_geq ?_ | refine add64 (by omega) (by omega) ?_ | refine sub64 (by omega) (by omega) ?_ | refine ext_a ?_ | refine ext_b ?_ | refine ext3_a ?_ | refine ext3_b ?_ | refine ext3_c ?_ | refine un_notD ?_ | refine mul64 (by omega) (by omega) ?_ | refine cvIU (by omega) (by omega) ?_ | refine cvIUint (by omega) (by omega) ?_ | refine cvUI (by omega) (by omega) ?_ | refine cvBU (by omega) (by omega) ?_ | refine len8 ?_ | refine len36 ?_ | refine pick_T ?_ | refine pick_F ?_ | refine cond_T ?_ | refine cond_F ?_ | refine cond_t (by omega) ?_ | refine cond_f (by omega) ?_ | refine gsel_T ?_ | refine gsel_F ?_ | refine gsel_Tn ?_ | refine gsel_Fn ?_ | refine gsel_U ?_ | refine gsel_pt (by omega) ?_ | refine gsel_pf (by omega) ?_ | refine gsel_nt (by omega) ?_ | refine gsel_nf (by omega) ?_ | refine pick_t (by omega) ?_ | refine pick_f (by omega) ?_ | refine sti_of (fun _ hK => bin_eql hK) ?_ | refine sti_of (fun _ hK => bin_neq hK) ?_ | refine sti_of (fun _ hK => bin_lss hK) ?_ | refine sti_of (fun _ hK => bin_leq hK) ?_ | refine sti_of (fun _ hK => bin_gtr hK) ?_ | refine sti_of (fun _ hK => bin_geq hK) ?_ | refine sti_of (fun _ hK => add64 (by omega) (by omega) hK) ?_ | refine sti_of (fun _ hK => sub64 (by omega) (by omega) hK) ?_ | refine sti_of (fun _ hK => un_notD hK) ?_ | refine sti_of (fun _ hK => len8 hK) ?_ | refine sti_of (fun _ hK => pick_T hK) ?_ | refine sti_of (fun _ hK => pick_F hK) ?_))
          refine power_c hd6 ?_
          rw [hof]
          (repeat (first | refine leatlaw04_DiskFuses_P1_r ?_ | refine leatlaw04_DiskFuses_P2_r ?_ | refine leatlaw04_DiskFuses_A1_r ?_ | refine leatlaw04_DiskFuses_P3_r ?_ | refine leatlaw04_DiskFuses_A2_r ?_ | refine leatlaw04_DiskFuses_A3_r ?_ | refine leatlaw04_DiskFuses_A4_r ?_ | refine bin_eql ?_ | refine bin_neq ?_ | refine bin_lss ?_ | refine bin_leq ?_ | refine bin_gtr ?_ | refine bin_geq ?_ | refine add64 (by omega) (by omega) ?_ | refine sub64 (by omega) (by omega) ?_ | refine ext_a ?_ | refine ext_b ?_ | refine ext3_a ?_ | refine ext3_b ?_ | refine ext3_c ?_ | refine un_notD ?_ | refine mul64 (by omega) (by omega) ?_ | refine cvIU (by omega) (by omega) ?_ | refine cvIUint (by omega) (by omega) ?_ | refine cvUI (by omega) (by omega) ?_ | refine cvBU (by omega) (by omega) ?_ | refine len8 ?_ | refine len36 ?_ | refine pick_T ?_ | refine pick_F ?_ | refine cond_T ?_ | refine cond_F ?_ | refine cond_t (by omega) ?_ | refine cond_f (by omega) ?_ | refine gsel_T ?_ | refine gsel_F ?_ | refine gsel_Tn ?_ | refine gsel_Fn ?_ | refine gsel_U ?_ | refine gsel_pt (by omega) ?_ | refine gsel_pf (by omega) ?_ | refine gsel_nt (by omega) ?_ | refine gsel_nf (by omega) ?_ | refine pick_t (by omega) ?_ | refine pick_f (by omega) ?_ | refine sti_of (fun _ hK => bin_eql hK) ?_ | refine sti_of (fun _ hK => bin_neq hK) ?_ | refine sti_of (fun _ hK => bin_lss hK) ?_ | refine sti_of (fun _ hK => bin_leq hK) ?_ | refine sti_of (fun _ hK => bin_gtr hK) ?_ | refine sti_of (fun _ hK => bin_geq hK) ?_ | refine sti_of (fun _ hK => add64 (by omega) (by omega) hK) ?_ | refine sti_of (fun _ hK => sub64 (by omega) (by omega) hK) ?_ | refine sti_of (fun _ hK => un_notD hK) ?_ | refine sti_of (fun _ hK => len8 hK) ?_ | refine sti_of (fun _ hK => pick_T hK) ?_ | refine sti_of (fun _ hK => pick_F hK) ?_))
          refine rd _ _ b6 fun tq => ?_
          refine un_not ?_
          (repeat (first | refine leatlaw04_DiskFuses_P1_r ?_ | refine leatlaw04_DiskFuses_P2_r ?_ | refine leatlaw04_DiskFuses_A1_r ?_ | refine leatlaw04_DiskFuses_P3_r ?_ | refine leatlaw04_DiskFuses_A2_r ?_ | refine leatlaw04_DiskFuses_A3_r ?_ | refine leatlaw04_DiskFuses_A4_r ?_ | refine bin_eql ?_ | refine bin_neq ?_ | refine bin_lss ?_ | refine bin_leq ?_ | refine bin_gtr ?_ | refine bin_geq ?_ | refine add64 (by omega) (by omega) ?_ | refine sub64 (by omega) (by omega) ?_ | refine ext_a ?_ | refine ext_b ?_ | refine ext3_a ?_ | refine ext3_b ?_ | refine ext3_c ?_ | refine un_notD ?_ | refine mul64 (by omega) (by omega) ?_ | refine cvIU (by omega) (by omega) ?_ | refine cvIUint (by omega) (by omega) ?_ | refine cvUI (by omega) (by omega) ?_ | refine cvBU (by omega) (by omega) ?_ | refine len8 ?_ | refine len36 ?_ | refine pick_T ?_ | refine pick_F ?_ | refine cond_T ?_ | refine cond_F ?_ | refine cond_t (by omega) ?_ | refine cond_f (by omega) ?_ | refine gsel_T ?_ | refine gsel_F ?_ | refine gsel_Tn ?_ | refine gsel_Fn ?_ | refine gsel_U ?_ | refine gsel_pt (by omega) ?_ | refine gsel_pf (by omega) ?_ | refine gsel_nt (by omega) ?_ | refine gsel_nf (by omega) ?_ | refine pick_t (by omega) ?_ | refine pick_f (by omega) ?_ | refine sti_of (fun _ hK => bin_eql hK) ?_ | refine sti_of (fun _ hK => bin_neq hK) ?_ | refine sti_of (fun _ hK => bin_lss hK) ?_ | refine sti_of (fun _ hK => bin_leq hK) ?_ | refine sti_of (fun _ hK => bin_gtr hK) ?_ | refine sti_of (fun _ hK => bin_geq hK) ?_ | refine sti_of (fun _ hK => add64 (by omega) (by omega) hK) ?_ | refine sti_of (fun _ hK => sub64 (by omega) (by omega) hK) ?_ | refine sti_of (fun _ hK => un_notD hK) ?_ | refine sti_of (fun _ hK => len8 hK) ?_ | refine sti_of (fun _ hK => pick_T hK) ?_ | refine sti_of (fun _ hK => pick_F hK) ?_))
          exact ⟨⟨j + 1, _, _, _, _, _, _, S, X, by omega, rfl, rfl, rfl, oS, oX, by omega, hsl, hd6, b6⟩, mu _ hm⟩
      | false =>
        rw [hlj] at rd
        (repeat (first | refine leatlaw04_DiskFuses_P1_r ?_ | refine leatlaw04_DiskFuses_P2_r ?_ | refine leatlaw04_DiskFuses_A1_r ?_ | refine leatlaw04_DiskFuses_P3_r ?_ | refine leatlaw04_DiskFuses_A2_r ?_ | refine leatlaw04_DiskFuses_A3_r ?_ | refine leatlaw04_DiskFuses_A4_r ?_ | refine bin_eql ?_ | refine bin_neq ?_ | refine bin_lss ?_ | refine bin_leq ?_ | refine bin_gtr ?_ | refine bin_geq ?_ | refine add64 (by omega) (by omega) ?_ | refine sub64 (by omega) (by omega) ?_ | refine ext_a ?_ | refine ext_b ?_ | refine ext3_a ?_ | refine ext3_b ?_ | refine ext3_c ?_ | refine un_notD ?_ | refine mul64 (by omega) (by omega) ?_ | refine cvIU (by omega) (by omega) ?_ | refine cvIUint (by omega) (by omega) ?_ | refine cvUI (by omega) (by omega) ?_ | refine cvBU (by omega) (by omega) ?_ | refine len8 ?_ | refine len36 ?_ | refine pick_T ?_ | refine pick_F ?_ | refine cond_T ?_ | refine cond_F ?_ | refine cond_t (by omega) ?_ | refine cond_f (by omega) ?_ | refine gsel_T ?_ | refine gsel_F ?_ | refine gsel_Tn ?_ | refine gsel_Fn ?_ | refine gsel_U ?_ | refine gsel_pt (by omega) ?_ | refine gsel_pf (by omega) ?_ | refine gsel_nt (by omega) ?_ | refine gsel_nf (by omega) ?_ | refine pick_t (by omega) ?_ | refine pick_f (by omega) ?_ | refine sti_of (fun _ hK => bin_eql hK) ?_ | refine sti_of (fun _ hK => bin_neq hK) ?_ | refine sti_of (fun _ hK => bin_lss hK) ?_ | refine sti_of (fun _ hK => bin_leq hK) ?_ | refine sti_of (fun _ hK => bin_gtr hK) ?_ | refine sti_of (fun _ hK => bin_geq hK) ?_ | refine sti_of (fun _ hK => add64 (by omega) (by omega) hK) ?_ | refine sti_of (fun _ hK => sub64 (by omega) (by omega) hK) ?_ | refine sti_of (fun _ hK => un_notD hK) ?_ | refine sti_of (fun _ hK => len8 hK) ?_ | refine sti_of (fun _ hK => pick_T hK) ?_ | refine sti_of (fun _ hK => pick_F hK) ?_))
        refine hcv ?_
        refine bld8 rfl ?_
        intro w6 b6' r6 s6
        have hlo := (fD_loose (S := S) (X := X) (j := j) (many := many)).1
        refine append_c (hd5.below b6') r6 (by omega) (by rw [hlo]; simp [lap]; omega) ?_
        by_cases hjm2 : j < many
        · rw [app_lt hjm2 (by omega)]
          intro w7 hd7 k7
          have K7 : Keep DT w.heap.size w5 w7 := (Keep.of b6').trans k7
          have oS := oS.keep K7 (by decide)
          have oX := oX.keep K7 (by decide)
          have b7 : Below w.heap.size w w7 := b5.trans (K7.below b5.size)
          have hof : (fD S (X ++ [UInt8.ofNat (j + 1)]) (j + 1) many).off = false := by rw [fD_le (by omega)]
          (repeat (first | refine leatlaw04_DiskFuses_P1_r ?_ | refine leatlaw04_DiskFuses_P2_r ?_ | refine leatlaw04_DiskFuses_A1_r ?_ | refine leatlaw04_DiskFuses_P3_r ?_ | refine leatlaw04_DiskFuses_A2_r ?_ | refine leatlaw04_DiskFuses_A3_r ?_ | refine leatlaw04_DiskFuses_A4_r ?_ | refine bin_eql ?_ | refine bin_neq ?_ | refine bin_lss ?_ | refine bin_leq ?_ | refine bin_gtr ?_ | refine bin_geq ?_ | refine add64 (by omega) (by omega) ?_ | refine sub64 (by omega) (by omega) ?_ | refine ext_a ?_ | refine ext_b ?_ | refine ext3_a ?_ | refine ext3_b ?_ | refine ext3_c ?_ | refine un_notD ?_ | refine mul64 (by omega) (by omega) ?_ | refine cvIU (by omega) (by omega) ?_ | refine cvIUint (by omega) (by omega) ?_ | refine cvUI (by omega) (by omega) ?_ | refine cvBU (by omega) (by omega) ?_ | refine len8 ?_ | refine len36 ?_ | refine pick_T ?_ | refine pick_F ?_ | refine cond_T ?_ | refine cond_F ?_ | refine cond_t (by omega) ?_ | refine cond_f (by omega) ?_ | refine gsel_T ?_ | refine gsel_F ?_ | refine gsel_Tn ?_ | refine gsel_Fn ?_ | refine gsel_U ?_ | refine gsel_pt (by omega) ?_ | refine gsel_pf (by omega) ?_ | refine gsel_nt (by omega) ?_ | refine gsel_nf (by omega) ?_ | refine pick_t (by omega) ?_ | refine pick_f (by omega) ?_ | refine sti_of (fun _ hK => bin_eql hK) ?_ | refine sti_of (fun _ hK => bin_neq hK) ?_ | refine sti_of (fun _ hK => bin_lss hK) ?_ | refine sti_of (fun _ hK => bin_leq hK) ?_ | refine sti_of (fun _ hK => bin_gtr hK) ?_ | refine sti_of (fun _ hK => bin_geq hK) ?_ | refine sti_of (fun _ hK => add64 (by omega) (by omega) hK) ?_ | refine sti_of (fun _ hK => sub64 (by omega) (by omega) hK) ?_ | refine sti_of (fun _ hK => un_notD hK) ?_ | refine sti_of (fun _ hK => len8 hK) ?_ | refine sti_of (fun _ hK => pick_T hK) ?_ | refine sti_of (fun _ hK => pick_F hK) ?_))
          refine power_c hd7 ?_
          rw [hof]
          refine un_not ?_
          (repeat (first | refine leatlaw04_DiskFuses_P1_r ?_ | refine leatlaw04_DiskFuses_P2_r ?_ | refine leatlaw04_DiskFuses_A1_r ?_ | refine leatlaw04_DiskFuses_P3_r ?_ | refine leatlaw04_DiskFuses_A2_r ?_ | refine leatlaw04_DiskFuses_A3_r ?_ | refine leatlaw04_DiskFuses_A4_r ?_ | refine bin_eql ?_ | refine bin_neq ?_ | refine bin_lss ?_ | refine bin_leq ?_ | refine bin_gtr ?_ | refine bin_geq ?_ | refine add64 (by omega) (by omega) ?_ | refine sub64 (by omega) (by omega) ?_ | refine ext_a ?_ | refine ext_b ?_ | refine ext3_a ?_ | refine ext3_b ?_ | refine ext3_c ?_ | refine un_notD ?_ | refine mul64 (by omega) (by omega) ?_ | refine cvIU (by omega) (by omega) ?_ | refine cvIUint (by omega) (by omega) ?_ | refine cvUI (by omega) (by omega) ?_ | refine cvBU (by omega) (by omega) ?_ | refine len8 ?_ | refine len36 ?_ | refine pick_T ?_ | refine pick_F ?_ | refine cond_T ?_ | refine cond_F ?_ | refine cond_t (by omega) ?_ | refine cond_f (by omega) ?_ | refine gsel_T ?_ | refine gsel_F ?_ | refine gsel_Tn ?_ | refine gsel_Fn ?_ | refine gsel_U ?_ | refine gsel_pt (by omega) ?_ | refine gsel_pf (by omega) ?_ | refine gsel_nt (by omega) ?_ | refine gsel_nf (by omega) ?_ | refine pick_t (by omega) ?_ | refine pick_f (by omega) ?_ | refine sti_of (fun _ hK => bin_eql hK) ?_ | refine sti_of (fun _ hK => bin_neq hK) ?_ | refine sti_of (fun _ hK => bin_lss hK) ?_ | refine sti_of (fun _ hK => bin_leq hK) ?_ | refine sti_of (fun _ hK => bin_gtr hK) ?_ | refine sti_of (fun _ hK => bin_geq hK) ?_ | refine sti_of (fun _ hK => add64 (by omega) (by omega) hK) ?_ | refine sti_of (fun _ hK => sub64 (by omega) (by omega) hK) ?_ | refine sti_of (fun _ hK => un_notD hK) ?_ | refine sti_of (fun _ hK => len8 hK) ?_ | refine sti_of (fun _ hK => pick_T hK) ?_ | refine sti_of (fun _ hK => pick_F hK) ?_))
          refine rd _ _ b7 fun tq => ?_
          refine un_not ?_
          (repeat (first | refine leatlaw04_DiskFuses_P1_r ?_ | refine leatlaw04_DiskFuses_P2_r ?_ | refine leatlaw04_DiskFuses_A1_r ?_ | refine leatlaw04_DiskFuses_P3_r ?_ | refine leatlaw04_DiskFuses_A2_r ?_ | refine leatlaw04_DiskFuses_A3_r ?_ | refine leatlaw04_DiskFuses_A4_r ?_ | refine bin_eql ?_ | refine bin_neq ?_ | refine bin_lss ?_ | refine bin_leq ?_ | refine bin_gtr ?_ | refine bin_geq ?_ | refine add64 (by omega) (by omega) ?_ | refine sub64 (by omega) (by omega) ?_ | refine ext_a ?_ | refine ext_b ?_ | refine ext3_a ?_ | refine ext3_b ?_ | refine ext3_c ?_ | refine un_notD ?_ | refine mul64 (by omega) (by omega) ?_ | refine cvIU (by omega) (by omega) ?_ | refine cvIUint (by omega) (by omega) ?_ | refine cvUI (by omega) (by omega) ?_ | refine cvBU (by omega) (by omega) ?_ | refine len8 ?_ | refine len36 ?_ | refine pick_T ?_ | refine pick_F ?_ | refine cond_T ?_ | refine cond_F ?_ | refine cond_t (by omega) ?_ | refine cond_f (by omega) ?_ | refine gsel_T ?_ | refine gsel_F ?_ | refine gsel_Tn ?_ | refine gsel_Fn ?_ | refine gsel_U ?_ | refine gsel_pt (by omega) ?_ | refine gsel_pf (by omega) ?_ | refine gsel_nt (by omega) ?_ | refine gsel_nf (by omega) ?_ | refine pick_t (by omega) ?_ | refine pick_f (by omega) ?_ | refine sti_of (fun _ hK => bin_eql hK) ?_ | refine sti_of (fun _ hK => bin_neq hK) ?_ | refine sti_of (fun _ hK => bin_lss hK) ?_ | refine sti_of (fun _ hK => bin_leq hK) ?_ | refine sti_of (fun _ hK => bin_gtr hK) ?_ | refine sti_of (fun _ hK => bin_geq hK) ?_ | refine sti_of (fun _ hK => add64 (by omega) (by omega) hK) ?_ | refine sti_of (fun _ hK => sub64 (by omega) (by omega) hK) ?_ | refine sti_of (fun _ hK => un_notD hK) ?_ | refine sti_of (fun _ hK => len8 hK) ?_ | refine sti_of (fun _ hK => pick_T hK) ?_ | refine sti_of (fun _ hK => pick_F hK) ?_))
          refine hcv ?_
          refine bld8 rfl ?_
          intro w8 b8 r8 s8
          have oS := OB.below oS b8 (Nat.le_refl _)
          have oX := OB.below oX b8 (Nat.le_refl _)
          have hd8 := hd7.below b8
          have b8w : Below w.heap.size w w8 := b7.trans (b8.mono b7.size)
          refine app8s w.heap.size oX r8 (by omega) b8w.size ?_
          intro a9 c9 w9 o9 g9 wh9
          have k9 : Keep [5] w.heap.size w8 w9 := Keep.grown g9 oX (by simp) (Nat.le_refl _)
          have b9 : Below w.heap.size w w9 := b8w.trans (k9.below b8w.size)
          -- the row of what is sure lies in another block
          have oS9 : OB w9 w.heap.size sa sn sc S := oS.grownOther g9 oX hsl
          have hd9 : DK (ZZ sa a9) w9 w.heap.size p _ := hd8.step (KeepZ.grown g9 oX (fun ad ha hz => hz.2 ad ha rfl)) (fun b hb hz => ⟨hz.1, nb_where wh9 hz.2 hb⟩) (fun b hb => ⟨nb_fresh oS9 b hb, nb_fresh o9 b hb⟩)
          (repeat (first | refine leatlaw04_DiskFuses_P1_r ?_ | refine leatlaw04_DiskFuses_P2_r ?_ | refine leatlaw04_DiskFuses_A1_r ?_ | refine leatlaw04_DiskFuses_P3_r ?_ | refine leatlaw04_DiskFuses_A2_r ?_ | refine leatlaw04_DiskFuses_A3_r ?_ | refine leatlaw04_DiskFuses_A4_r ?_ | refine bin_eql ?_ | refine bin_neq ?_ | refine bin_lss ?_ | refine bin_leq ?_ | refine bin_gtr ?_ | refine bin_geq ?_ | refine add64 (by omega) (by omega) ?_ | refine sub64 (by omega) (by omega) ?_ | refine ext_a ?_ | refine ext_b ?_ | refine ext3_a ?_ | refine ext3_b ?_ | refine ext3_c ?_ | refine un_notD ?_ | refine mul64 (by omega) (by omega) ?_ | refine cvIU (by omega) (by omega) ?_ | refine cvIUint (by omega) (by omega) ?_ | refine cvUI (by omega) (by omega) ?_ | refine cvBU (by omega) (by omega) ?_ | refine len8 ?_ | refine len36 ?_ | refine pick_T ?_ | refine pick_F ?_ | refine cond_T ?_ | refine cond_F ?_ | refine cond_t (by omega) ?_ | refine cond_f (by omega) ?_ | refine gsel_T ?_ | refine gsel_F ?_ | refine gsel_Tn ?_ | refine gsel_Fn ?_ | refine gsel_U ?_ | refine gsel_pt (by omega) ?_ | refine gsel_pf (by omega) ?_ | refine gsel_nt (by omega) ?_ | refine gsel_nf (by omega) ?_ | refine pick_t (by omega) ?_ | refine pick_f (by omega) ?_ | refine sti_of (fun _ hK => bin_eql hK) ?_ | refine sti_of (fun _ hK => bin_neq hK) ?_ | refine sti_of (fun _ hK => bin_lss hK) ?_ | refine sti_of (fun _ hK => bin_leq hK) ?_ | refine sti_of (fun _ hK => bin_gtr hK) ?_ | refine sti_of (fun _ hK => bin_geq hK) ?_ | refine sti_of (fun _ hK => add64 (by omega) (by omega) hK) ?_ | refine sti_of (fun _ hK => sub64 (by omega) (by omega) hK) ?_ | refine sti_of (fun _ hK => un_notD hK) ?_ | refine sti_of (fun _ hK => len8 hK) ?_ | refine sti_of (fun _ hK => pick_T hK) ?_ | refine sti_of (fun _ hK => pick_F hK) ?_))
          exact ⟨⟨j + 1, _, _, _, _, _, _, S, X ++ [UInt8.ofNat (j + 1)], by omega, rfl, rfl, rfl, oS9, o9, by simp; omega, (hsl2 wh9 (OB.lt oS)), hd9, b9⟩, mu _ hm⟩
        · have hjeq : j = many := by omega
          subst hjeq
          rw [app_eq (by omega)]
          intro w7 hd7 k7
          have K7 : Keep DT w.heap.size w5 w7 := (Keep.of b6').trans k7
          have oS := oS.keep K7 (by decide)
          have oX := oX.keep K7 (by decide)
          have b7 : Below w.heap.size w w7 := b5.trans (K7.below b5.size)
          have hof : (fD S (X ++ [UInt8.ofNat (j + 1)]) (j + 1) j).off = true := by rw [fD_gt (by omega)]
          (repeat (first | refine leatlaw04_DiskFuses_P1_r ?_ | refine leatlaw04_DiskFuses_P2_r ?_ | refine leatlaw04_DiskFuses_A1_r ?_ | refine leatlaw04_DiskFuses_P3_r ?_ | refine leatlaw04_DiskFuses_A2_r ?_ | refine leatlaw04_DiskFuses_A3_r ?_ | refine leatlaw04_DiskFuses_A4_r ?_ | refine bin_eql ?_ | refine bin_neq ?_ | refine bin_lss ?_ | refine bin_leq ?_ | refine bin_gtr ?_ | refine bin_geq ?_ | refine add64 (by omega) (by omega) ?_ | refine sub64 (by omega) (by omega) ?_ | refine ext_a ?_ | refine ext_b ?_ | refine ext3_a ?_ | refine ext3_b ?_ | refine ext3_c ?_ | refine un_notD ?_ | refine mul64 (by omega) (by omega) ?_ | refine cvIU (by omega) (by omega) ?_ | refine cvIUint (by omega) (by omega) ?_ | refine cvUI (by omega) (by omega) ?_ | refine cvBU (by omega) (by omega) ?_ | refine len8 ?_ | refine len36 ?_ | refine pick_T ?_ | refine pick_F ?_ | refine cond_T ?_ | refine cond_F ?_ | refine cond_t (by omega) ?_ | refine cond_f (by omega) ?_ | refine gsel_T ?_ | refine gsel_F ?_ | refine gsel_Tn ?_ | refine gsel_Fn ?_ | refine gsel_U ?_ | refine gsel_pt (by omega) ?_ | refine gsel_pf (by omega) ?_ | refine gsel_nt (by omega) ?_ | refine gsel_nf (by omega) ?_ | refine pick_t (by omega) ?_ | refine pick_f (by omega) ?_ | refine sti_of (fun _ hK => bin_eql hK) ?_ | refine sti_of (fun _ hK => bin_neq hK) ?_ | refine sti_of (fun _ hK => bin_lss hK) ?_ | refine sti_of (fun _ hK => bin_leq hK) ?_ | refine sti_of (fun _ hK => bin_gtr hK) ?_ | refine sti_of (fun _ hK => bin_geq hK) ?_ | refine sti_of (fun _ hK => add64 (by omega) (by omega) hK) ?_ | refine sti_of (fun _ hK => sub64 (by omega) (by omega) hK) ?_ | refine sti_of (fun _ hK => un_notD hK) ?_ | refine sti_of (fun _ hK => len8 hK) ?_ | refine sti_of (fun _ hK => pick_T hK) ?_ | refine sti_of (fun _ hK => pick_F hK) ?_))
          refine power_c hd7 ?_
          rw [hof]
          (repeat (first | refine leatlaw04_DiskFuses_P1_r ?_ | refine leatlaw04_DiskFuses_P2_r ?_ | refine leatlaw04_DiskFuses_A1_r ?_ | refine leatlaw04_DiskFuses_P3_r ?_ | refine leatlaw04_DiskFuses_A2_r ?_ | refine leatlaw04_DiskFuses_A3_r ?_ | refine leatlaw04_DiskFuses_A4_r ?_ | refine bin_eql ?_ | refine bin_neq ?_ | refine bin_lss ?_ | refine bin_leq ?_ | refine bin_gtr ?_ | refine bin_geq ?_ | refine add64 (by omega) (by omega) ?_ | refine sub64 (by omega) (by omega) ?_ | refine ext_a ?_ | refine ext_b ?_ | refine ext3_a ?_ | refine ext3_b ?_ | refine ext3_c ?_ | refine un_notD ?_ | refine mul64 (by omega) (by omega) ?_ | refine cvIU (by omega) (by omega) ?_ | refine cvIUint (by omega) (by omega) ?_ | refine cvUI (by omega) (by omega) ?_ | refine cvBU (by omega) (by omega) ?_ | refine len8 ?_ | refine len36 ?_ | refine pick_T ?_ | refine pick_F ?_ | refine cond_T ?_ | refine cond_F ?_ | refine cond_t (by omega) ?_ | refine cond_f (by omega) ?_ | refine gsel_T ?_ | refine gsel_F ?_ | refine gsel_Tn ?_ | refine gsel_Fn ?_ | refine gsel_U ?_ | refine gsel_pt (by omega) ?_ | refine gsel_pf (by omega) ?_ | refine gsel_nt (by omega) ?_ | refine gsel_nf (by omega) ?_ | refine pick_t (by omega) ?_ | refine pick_f (by omega) ?_ | refine sti_of (fun _ hK => bin_eql hK) ?_ | refine sti_of (fun _ hK => bin_neq hK) ?_ | refine sti_of (fun _ hK => bin_lss hK) ?_ | refine sti_of (fun _ hK => bin_leq hK) ?_ | refine sti_of (fun _ hK => bin_gtr hK) ?_ | refine sti_of (fun _ hK => bin_geq hK) ?_ | refine sti_of (fun _ hK => add64 (by omega) (by omega) hK) ?_ | refine sti_of (fun _ hK => sub64 (by omega) (by omega) hK) ?_ | refine sti_of (fun _ hK => un_notD hK) ?_ | refine sti_of (fun _ hK => len8 hK) ?_ | refine sti_of (fun _ hK => pick_T hK) ?_ | refine sti_of (fun _ hK => pick_F hK) ?_))
          refine rd _ _ b7 fun tq => ?_
          refine un_not ?_
          (repeat (first | refine leatlaw04_DiskFuses_P1_r ?_ | refine leatlaw04_DiskFuses_P2_r ?_ | refine leatlaw04_DiskFuses_A1_r ?_ | refine leatlaw04_DiskFuses_P3_r ?_ | refine leatlaw04_DiskFuses_A2_r ?_ | refine leatlaw04_DiskFuses_A3_r ?_ | refine leatlaw04_DiskFuses_A4_r ?_ | refine bin_eql ?_ | refine bin_neq ?_ | refine bin_lss ?_ | refine bin_leq ?_ | refine bin_gtr ?_ | refine bin_geq ?_ | refine add64 (by omega) (by omega) ?_ | refine sub64 (by omega) (by omega) ?_ | refine ext_a ?_ | refine ext_b ?_ | refine ext3_a ?_ | refine ext3_b ?_ | refine ext3_c ?_ | refine un_notD ?_ | refine mul64 (by omega) (by omega) ?_ | refine cvIU (by omega) (by omega) ?_ | refine cvIUint (by omega) (by omega) ?_ | refine cvUI (by omega) (by omega) ?_ | refine cvBU (by omega) (by omega) ?_ | refine len8 ?_ | refine len36 ?_ | refine pick_T ?_ | refine pick_F ?_ | refine cond_T ?_ | refine cond_F ?_ | refine cond_t (by omega) ?_ | refine cond_f (by omega) ?_ | refine gsel_T ?_ | refine gsel_F ?_ | refine gsel_Tn ?_ | refine gsel_Fn ?_ | refine gsel_U ?_ | refine gsel_pt (by omega) ?_ | refine gsel_pf (by omega) ?_ | refine gsel_nt (by omega) ?_ | refine gsel_nf (by omega) ?_ | refine pick_t (by omega) ?_ | refine pick_f (by omega) ?_ | refine sti_of (fun _ hK => bin_eql hK) ?_ | refine sti_of (fun _ hK => bin_neq hK) ?_ | refine sti_of (fun _ hK => bin_lss hK) ?_ | refine sti_of (fun _ hK => bin_leq hK) ?_ | refine sti_of (fun _ hK => bin_gtr hK) ?_ | refine sti_of (fun _ hK => bin_geq hK) ?_ | refine sti_of (fun _ hK => add64 (by omega) (by omega) hK) ?_ | refine sti_of (fun _ hK => sub64 (by omega) (by omega) hK) ?_ | refine sti_of (fun _ hK => un_notD hK) ?_ | refine sti_of (fun _ hK => len8 hK) ?_ | refine sti_of (fun _ hK => pick_T hK) ?_ | refine sti_of (fun _ hK => pick_F hK) ?_))
          refine hcv ?_
          refine bld8 rfl ?_
          intro w8 b8 r8 s8
          have oS := OB.below oS b8 (Nat.le_refl _)
          have oX := OB.below oX b8 (Nat.le_refl _)
          have hd8 := hd7.below b8
          have b8w : Below w.heap.size w w8 := b7.trans (b8.mono b7.size)
          refine app8s w.heap.size oX r8 (by omega) b8w.size ?_
          intro a9 c9 w9 o9 g9 wh9
          have k9 : Keep [5] w.heap.size w8 w9 := Keep.grown g9 oX (by simp) (Nat.le_refl _)
          have b9 : Below w.heap.size w w9 := b8w.trans (k9.below b8w.size)
          -- the row of what is sure lies in another block
          have oS9 : OB w9 w.heap.size sa sn sc S := oS.grownOther g9 oX hsl
          have hd9 : DK (ZZ sa a9) w9 w.heap.size p _ := hd8.step (KeepZ.grown g9 oX (fun ad ha hz => hz.2 ad ha rfl)) (fun b hb hz => ⟨hz.1, nb_where wh9 hz.2 hb⟩) (fun b hb => ⟨nb_fresh oS9 b hb, nb_fresh o9 b hb⟩)
          (repeat (first | refine leatlaw04_DiskFuses_P1_r ?_ | refine leatlaw04_DiskFuses_P2_r ?_ | refine leatlaw04_DiskFuses_A1_r ?_ | refine leatlaw04_DiskFuses_P3_r ?_ | refine leatlaw04_DiskFuses_A2_r ?_ | refine leatlaw04_DiskFuses_A3_r ?_ | refine leatlaw04_DiskFuses_A4_r ?_ | refine bin_eql ?_ | refine bin_neq ?_ | refine bin_lss ?_ | refine bin_leq ?_ | refine bin_gtr ?_ | refine bin_geq ?_ | refine add64 (by omega) (by omega) ?_ | refine sub64 (by omega) (by omega) ?_ | refine ext_a ?_ | refine ext_b ?_ | refine ext3_a ?_ | refine ext3_b ?_ | refine ext3_c ?_ | refine un_notD ?_ | refine mul64 (by omega) (by omega) ?_ | refine cvIU (by omega) (by omega) ?_ | refine cvIUint (by omega) (by omega) ?_ | refine cvUI (by omega) (by omega) ?_ | refine cvBU (by omega) (by omega) ?_ | refine len8 ?_ | refine len36 ?_ | refine pick_T ?_ | refine pick_F ?_ | refine cond_T ?_ | refine cond_F ?_ | refine cond_t (by omega) ?_ | refine cond_f (by omega) ?_ | refine gsel_T ?_ | refine gsel_F ?_ | refine gsel_Tn ?_ | refine gsel_Fn ?_ | refine gsel_U ?_ | refine gsel_pt (by omega) ?_ | refine gsel_pf (by omega) ?_ | refine gsel_nt (by omega) ?_ | refine gsel_nf (by omega) ?_ | refine pick_t (by omega) ?_ | refine pick_f (by omega) ?_ | refine sti_of (fun _ hK => bin_eql hK) ?_ | refine sti_of (fun _ hK => bin_neq hK) ?_ | refine sti_of (fun _ hK => bin_lss hK) ?_ | refine sti_of (fun _ hK => bin_leq hK) ?_ | refine sti_of (fun _ hK => bin_gtr hK) ?_ | refine sti_of (fun _ hK => bin_geq hK) ?_ | refine sti_of (fun _ hK => add64 (by omega) (by omega) hK) ?_ | refine sti_of (fun _ hK => sub64 (by omega) (by omega) hK) ?_ | refine sti_of (fun _ hK => un_notD hK) ?_ | refine sti_of (fun _ hK => len8 hK) ?_ | refine sti_of (fun _ hK => pick_T hK) ?_ | refine sti_of (fun _ hK => pick_F hK) ?_))
          exact ⟨⟨j + 1, _, _, _, _, _, _, S, X ++ [UInt8.ofNat (j + 1)], by omega, rfl, rfl, rfl, oS9, o9, by simp; omega, (hsl2 wh9 (OB.lt oS)), hd9, b9⟩, mu _ hm⟩
    · (repeat (first | refine bin_eql ?_ | refine bin_neq ?_ | refine bin_lss ?_ | refine bin_leq ?_ | refine bin_gtr ?_ | refine bin_geq ?_ | refine add64 (by omega) (by omega) ?_ | refine sub64 (by omega) (by omega) ?_ | refine ext_a ?_ | refine ext_b ?_ | refine ext3_a ?_ | refine ext3_b ?_ | refine ext3_c ?_ | refine un_notD ?_ | refine mul64 (by omega) (by omega) ?_ | refine cvIU (by omega) (by omega) ?_ | refine cvIUint (by omega) (by omega) ?_ | refine cvUI (by omega) (by omega) ?_ | refine cvBU (by omega) (by omega) ?_ | refine len8 ?_ | refine len36 ?_ | refine pick_T ?_ | refine pick_F ?_ | refine cond_T ?_ | refine cond_F ?_ | refine cond_t (by omega) ?_ | refine cond_f (by omega) ?_ | refine gsel_T ?_ | refine gsel_F ?_ | refine gsel_Tn ?_ | refine gsel_Fn ?_ | refine gsel_U ?_ | refine gsel_pt (by omega) ?_ | refine gsel_pf (by omega) ?_ | refine gsel_nt (by omega) ?_ | refine gsel_nf (by omega) ?_ | refine pick_t (by omega) ?_ | refine pick_f (by omega) ?_ | refine sti_of (fun _ hK => bin_eql hK) ?_ | refine sti_of (fun _ hK => bin_neq hK) ?_ | refine sti_of (fun _ hK => bin_lss hK) ?_ | refine sti_of (fun _ hK => bin_leq hK) ?_ | refine sti_of (fun _ hK => bin_gtr hK) ?_ | refine sti_of (fun _ hK => bin_geq hK) ?_ | refine sti_of (fun _ hK => add64 (by omega) (by omega) hK) ?_ | refine sti_of (fun _ hK => sub64 (by omega) (by omega) hK) ?_ | refine sti_of (fun _ hK => un_notD hK) ?_ | refine sti_of (fun _ hK => len8 hK) ?_ | refine sti_of (fun _ hK => pick_T hK) ?_ | refine sti_of (fun _ hK => pick_F hK) ?_))
      refine rd _ _ b3 fun tq => ?_
      cases hlj : l.getD j false with
      | true =>
        rw [hlj] at rd
        (repeat (first | refine leatlaw04_DiskFuses_P1_r ?_ | refine leatlaw04_DiskFuses_P2_r ?_ | refine leatlaw04_DiskFuses_A1_r ?_ | refine leatlaw04_DiskFuses_P3_r ?_ | refine leatlaw04_DiskFuses_A2_r ?_ | refine leatlaw04_DiskFuses_A3_r ?_ | refine leatlaw04_DiskFuses_A4_r ?_ | refine bin_eql ?_ | refine bin_neq ?_ | refine bin_lss ?_ | refine bin_leq ?_ | refine bin_gtr ?_ | refine bin_geq ?_ | refine add64 (by omega) (by omega) ?_ | refine sub64 (by omega) (by omega) ?_ | refine ext_a ?_ | refine ext_b ?_ | refine ext3_a ?_ | refine ext3_b ?_ | refine ext3_c ?_ | refine un_notD ?_ | refine mul64 (by omega) (by omega) ?_ | refine cvIU (by omega) (by omega) ?_ | refine cvIUint (by omega) (by omega) ?_ | refine cvUI (by omega) (by omega) ?_ | refine cvBU (by omega) (by omega) ?_ | refine len8 ?_ | refine len36 ?_ | refine pick_T ?_ | refine pick_F ?_ | refine cond_T ?_ | refine cond_F ?_ | refine cond_t (by omega) ?_ | refine cond_f (by omega) ?_ | refine gsel_T ?_ | refine gsel_F ?_ | refine gsel_Tn ?_ | refine gsel_Fn ?_ | refine gsel_U ?_ | refine gsel_pt (by omega) ?_ | refine gsel_pf (by omega) ?_ | refine gsel_nt (by omega) ?_ | refine gsel_nf (by omega) ?_ | refine pick_t (by omega) ?_ | refine pick_f (by omega) ?_ | refine sti_of (fun _ hK => bin_eql hK) ?_ | refine sti_of (fun _ hK => bin_neq hK) ?_ | refine sti_of (fun _ hK => bin_lss hK) ?_ | refine sti_of (fun _ hK => bin_leq hK) ?_ | refine sti_of (fun _ hK => bin_gtr hK) ?_ | refine sti_of (fun _ hK => bin_geq hK) ?_ | refine sti_of (fun _ hK => add64 (by omega) (by omega) hK) ?_ | refine sti_of (fun _ hK => sub64 (by omega) (by omega) hK) ?_ | refine sti_of (fun _ hK => un_notD hK) ?_ | refine sti_of (fun _ hK => len8 hK) ?_ | refine sti_of (fun _ hK => pick_T hK) ?_ | refine sti_of (fun _ hK => pick_F hK) ?_))
        refine sync_c hd3 ?_
        rw [sync_gt (by omega)]
        intro w6 hd6 k6
        have oS := oS.keep k6 (by decide)
        have oX := oX.keep k6 (by decide)
        have b6 : Below w.heap.size w w6 := b3.trans (k6.below b3.size)
        have hof : (fD S X (j + 1) many).off = true := by rw [fD_gt (by omega)]
        (repeat (first | refine leatlaw04_DiskFuses_P1_r ?_ | refine leatlaw04_DiskFuses_P2_r ?_ | refine leatlaw04_DiskFuses_A1_r ?_ | refine leatlaw04_DiskFuses_P3_r ?_ | refine leatlaw04_DiskFuses_A2_r ?_ | refine leatlaw04_DiskFuses_A3_r ?_ | refine leatlaw04_DiskFuses_A4_r ?_ | refine bin_eql ?_ | refine bin_neq ?_ | refine bin_lss ?_ | refine bin_leq ?_ | refine bin_gtr ?_ | refine bin_geq ?_ | refine add64 (by omega) (by omega) ?_ | refine sub64 (by omega) (by omega) ?_ | refine ext_a ?_ | refine ext_b ?_ | refine ext3_a ?_ | refine ext3_b ?_ | refine ext3_c ?_ | refine un_notD ?_ | refine mul64 (by omega) (by omega) ?_ | refine cvIU (by omega) (by omega) ?_ | refine cvIUint (by omega) (by omega) ?_ | refine cvUI (by omega) (by omega) ?_ | refine cvBU (by omega) (by omega) ?_ | refine len8 ?_ | refine len36 ?_ | refine pick_T ?_ | refine pick_F ?_ | refine cond_T ?_ | refine cond_F ?_ | refine cond_t (by omega) ?_ | refine cond_f (by omega) ?_ | refine gsel_T ?_ | refine gsel_F ?_ | refine gsel_Tn ?_ | refine gsel_Fn ?_ | refine gsel_U ?_ | refine gsel_pt (by omega) ?_ | refine gsel_pf (by omega) ?_ | refine gsel_nt (by omega) ?_ | refine gsel_nf (by omega) ?_ | refine pick_t (by omega) ?_ | refine pick_f (by omega) ?_ | refine sti_of (fun _ hK => bin_eql hK) ?_ | refine sti_of (fun _ hK => bin_neq hK) ?_ | refine sti_of (fun _ hK => bin_lss hK) ?_ | refine sti_of (fun _ hK => bin_leq hK) ?_ | refine sti_of (fun _ hK => bin_gtr hK) ?_ | refine sti_of (fun _ hK => bin_geq hK) ?_ | refine sti_of (fun _ hK => add64 (by omega) (by omega) hK) ?_ | refine sti_of (fun _ hK => sub64 (by omega) (by omega) hK) ?_ | refine sti_of (fun _ hK => un_notD hK) ?_ | refine sti_of (fun _ hK => len8 hK) ?_ | refine sti_of (fun _ hK => pick_T hK) ?_ | refine sti_of (fun _ hK => pick_F hK) ?_))
        refine power_c hd6 ?_
        rw [hof]
        (repeat (first | refine leatlaw04_DiskFuses_P1_r ?_ | refine leatlaw04_DiskFuses_P2_r ?_ | refine leatlaw04_DiskFuses_A1_r ?_ | refine leatlaw04_DiskFuses_P3_r ?_ | refine leatlaw04_DiskFuses_A2_r ?_ | refine leatlaw04_DiskFuses_A3_r ?_ | refine leatlaw04_DiskFuses_A4_r ?_ | refine bin_eql ?_ | refine bin_neq ?_ | refine bin_lss ?_ | refine bin_leq ?_ | refine bin_gtr ?_ | refine bin_geq ?_ | refine add64 (by omega) (by omega) ?_ | refine sub64 (by omega) (by omega) ?_ | refine ext_a ?_ | refine ext_b ?_ | refine ext3_a ?_ | refine ext3_b ?_ | refine ext3_c ?_ | refine un_notD ?_ | refine mul64 (by omega) (by omega) ?_ | refine cvIU (by omega) (by omega) ?_ | refine cvIUint (by omega) (by omega) ?_ | refine cvUI (by omega) (by omega) ?_ | refine cvBU (by omega) (by omega) ?_ | refine len8 ?_ | refine len36 ?_ | refine pick_T ?_ | refine pick_F ?_ | refine cond_T ?_ | refine cond_F ?_ | refine cond_t (by omega) ?_ | refine cond_f (by omega) ?_ | refine gsel_T ?_ | refine gsel_F ?_ | refine gsel_Tn ?_ | refine gsel_Fn ?_ | refine gsel_U ?_ | refine gsel_pt (by omega) ?_ | refine gsel_pf (by omega) ?_ | refine gsel_nt (by omega) ?_ | refine gsel_nf (by omega) ?_ | refine pick_t (by omega) ?_ | refine pick_f (by omega) ?_ | refine sti_of (fun _ hK => bin_eql hK) ?_ | refine sti_of (fun _ hK => bin_neq hK) ?_ | refine sti_of (fun _ hK => bin_lss hK) ?_ | refine sti_of (fun _ hK => bin_leq hK) ?_ | refine sti_of (fun _ hK => bin_gtr hK) ?_ | refine sti_of (fun _ hK => bin_geq hK) ?_ | refine sti_of (fun _ hK => add64 (by omega) (by omega) hK) ?_ | refine sti_of (fun _ hK => sub64 (by omega) (by omega) hK) ?_ | refine sti_of (fun _ hK => un_notD hK) ?_ | refine sti_of (fun _ hK => len8 hK) ?_ | refine sti_of (fun _ hK => pick_T hK) ?_ | refine sti_of (fun _ hK => pick_F hK) ?_))
        exact ⟨⟨j + 1, _, _, _, _, _, _, S, X, by omega, rfl, rfl, rfl, oS, oX, by omega, hsl, hd6, b6⟩, mu _ hm⟩
      | false =>
        rw [hlj] at rd
        (repeat (first | refine leatlaw04_DiskFuses_P1_r ?_ | refine leatlaw04_DiskFuses_P2_r ?_ | refine leatlaw04_DiskFuses_A1_r ?_ | refine leatlaw04_DiskFuses_P3_r ?_ | refine leatlaw04_DiskFuses_A2_r ?_ | refine leatlaw04_DiskFuses_A3_r ?_ | refine leatlaw04_DiskFuses_A4_r ?_ | refine bin_eql ?_ | refine bin_neq ?_ | refine bin_lss ?_ | refine bin_leq ?_ | refine bin_gtr ?_ | refine bin_geq ?_ | refine add64 (by omega) (by omega) ?_ | refine sub64 (by omega) (by omega) ?_ | refine ext_a ?_ | refine ext_b ?_ | refine ext3_a ?_ | refine ext3_b ?_ | refine ext3_c ?_ | refine un_notD ?_ | refine mul64 (by omega) (by omega) ?_ | refine cvIU (by omega) (by omega) ?_ | refine cvIUint (by omega) (by omega) ?_ | refine cvUI (by omega) (by omega) ?_ | refine cvBU (by omega) (by omega) ?_ | refine len8 ?_ | refine len36 ?_ | refine pick_T ?_ | refine pick_F ?_ | refine cond_T ?_ | refine cond_F ?_ | refine cond_t (by omega) ?_ | refine cond_f (by omega) ?_ | refine gsel_T ?_ | refine gsel_F ?_ | refine gsel_Tn ?_ | refine gsel_Fn ?_ | refine gsel_U ?_ | refine gsel_pt (by omega) ?_ | refine gsel_pf (by omega) ?_ | refine gsel_nt (by omega) ?_ | refine gsel_nf (by omega) ?_ | refine pick_t (by omega) ?_ | refine pick_f (by omega) ?_ | refine sti_of (fun _ hK => bin_eql hK) ?_ | refine sti_of (fun _ hK => bin_neq hK) ?_ | refine sti_of (fun _ hK => bin_lss hK) ?_ | refine sti_of (fun _ hK => bin_leq hK) ?_ | refine sti_of (fun _ hK => bin_gtr hK) ?_ | refine sti_of (fun _ hK => bin_geq hK) ?_ | refine sti_of (fun _ hK => add64 (by omega) (by omega) hK) ?_ | refine sti_of (fun _ hK => sub64 (by omega) (by omega) hK) ?_ | refine sti_of (fun _ hK => un_notD hK) ?_ | refine sti_of (fun _ hK => len8 hK) ?_ | refine sti_of (fun _ hK => pick_T hK) ?_ | refine sti_of (fun _ hK => pick_F hK) ?_))
        refine hcv ?_
        refine bld8 rfl ?_
        intro w6 b6' r6 s6
        have hlo := (fD_loose (S := S) (X := X) (j := j) (many := many)).1
        refine append_c (hd3.below b6') r6 (by omega) (by rw [hlo]; simp [lap]; omega) ?_
        rw [app_gt (by omega)]
        intro w7 hd7 k7
        have K7 : Keep DT w.heap.size w3 w7 := (Keep.of b6').trans k7
        have oS := oS.keep K7 (by decide)
        have oX := oX.keep K7 (by decide)
        have b7 : Below w.heap.size w w7 := b3.trans (K7.below b3.size)
        have hof : (fD S X (j + 1) many).off = true := by rw [fD_gt (by omega)]
        (repeat (first | refine leatlaw04_DiskFuses_P1_r ?_ | refine leatlaw04_DiskFuses_P2_r ?_ | refine leatlaw04_DiskFuses_A1_r ?_ | refine leatlaw04_DiskFuses_P3_r ?_ | refine leatlaw04_DiskFuses_A2_r ?_ | refine leatlaw04_DiskFuses_A3_r ?_ | refine leatlaw04_DiskFuses_A4_r ?_ | refine bin_eql ?_ | refine bin_neq ?_ | refine bin_lss ?_ | refine bin_leq ?_ | refine bin_gtr ?_ | refine bin_geq ?_ | refine add64 (by omega) (by omega) ?_ | refine sub64 (by omega) (by omega) ?_ | refine ext_a ?_ | refine ext_b ?_ | refine ext3_a ?_ | refine ext3_b ?_ | refine ext3_c ?_ | refine un_notD ?_ | refine mul64 (by omega) (by omega) ?_ | refine cvIU (by omega) (by omega) ?_ | refine cvIUint (by omega) (by omega) ?_ | refine cvUI (by omega) (by omega) ?_ | refine cvBU (by omega) (by omega) ?_ | refine len8 ?_ | refine len36 ?_ | refine pick_T ?_ | refine pick_F ?_ | refine cond_T ?_ | refine cond_F ?_ | refine cond_t (by omega) ?_ | refine cond_f (by omega) ?_ | refine gsel_T ?_ | refine gsel_F ?_ | refine gsel_Tn ?_ | refine gsel_Fn ?_ | refine gsel_U ?_ | refine gsel_pt (by omega) ?_ | refine gsel_pf (by omega) ?_ | refine gsel_nt (by omega) ?_ | refine gsel_nf (by omega) ?_ | refine pick_t (by omega) ?_ | refine pick_f (by omega) ?_ | refine sti_of (fun _ hK => bin_eql hK) ?_ | refine sti_of (fun _ hK => bin_neq hK) ?_ | refine sti_of (fun _ hK => bin_lss hK) ?_ | refine sti_of (fun _ hK => bin_leq hK) ?_ | refine sti_of (fun _ hK => bin_gtr hK) ?_ | refine sti_of (fun _ hK => bin_geq hK) ?_ | refine sti_of (fun _ hK => add64 (by omega) (by omega) hK) ?_ | refine sti_of (fun _ hK => sub64 (by omega) (by omega) hK) ?_ | refine sti_of (fun _ hK => un_notD hK) ?_ | refine sti_of (fun _ hK => len8 hK) ?_ | refine sti_of (fun _ hK => pick_T hK) ?_ | refine sti_of (fun _ hK => pick_F hK) ?_))
        refine power_c hd7 ?_
        rw [hof]
        (repeat (first | refine leatlaw04_DiskFuses_P1_r ?_ | refine leatlaw04_DiskFuses_P2_r ?_ | refine leatlaw04_DiskFuses_A1_r ?_ | refine leatlaw04_DiskFuses_P3_r ?_ | refine leatlaw04_DiskFuses_A2_r ?_ | refine leatlaw04_DiskFuses_A3_r ?_ | refine leatlaw04_DiskFuses_A4_r ?_ | refine bin_eql ?_ | refine bin_neq ?_ | refine bin_lss ?_ | refine bin_leq ?_ | refine bin_gtr ?_ | refine bin_geq ?_ | refine add64 (by omega) (by omega) ?_ | refine sub64 (by omega) (by omega) ?_ | refine ext_a ?_ | refine ext_b ?_ | refine ext3_a ?_ | refine ext3_b ?_ | refine ext3_c ?_ | refine un_notD ?_ | refine mul64 (by omega) (by omega) ?_ | refine cvIU (by omega) (by omega) ?_ | refine cvIUint (by omega) (by omega) ?_ | refine cvUI (by omega) (by omega) ?_ | refine cvBU (by omega) (by omega) ?_ | refine len8 ?_ | refine len36 ?_ | refine pick_T ?_ | refine pick_F ?_ | refine cond_T ?_ | refine cond_F ?_ | refine cond_t (by omega) ?_ | refine cond_f (by omega) ?_ | refine gsel_T ?_ | refine gsel_F ?_ | refine gsel_Tn ?_ | refine gsel_Fn ?_ | refine gsel_U ?_ | refine gsel_pt (by omega) ?_ | refine gsel_pf (by omega) ?_ | refine gsel_nt (by omega) ?_ | refine gsel_nf (by omega) ?_ | refine pick_t (by omega) ?_ | refine pick_f (by omega) ?_ | refine sti_of (fun _ hK => bin_eql hK) ?_ | refine sti_of (fun _ hK => bin_neq hK) ?_ | refine sti_of (fun _ hK => bin_lss hK) ?_ | refine sti_of (fun _ hK => bin_leq hK) ?_ | refine sti_of (fun _ hK => bin_gtr hK) ?_ | refine sti_of (fun _ hK => bin_geq hK) ?_ | refine sti_of (fun _ hK => add64 (by omega) (by omega) hK) ?_ | refine sti_of (fun _ hK => sub64 (by omega) (by omega) hK) ?_ | refine sti_of (fun _ hK => un_notD hK) ?_ | refine sti_of (fun _ hK => len8 hK) ?_ | refine sti_of (fun _ hK => pick_T hK) ?_ | refine sti_of (fun _ hK => pick_F hK) ?_))
        exact ⟨⟨j + 1, _, _, _, _, _, _, S, X, by omega, rfl, rfl, rfl, oS, oX, by omega, hsl, hd7, b7⟩, mu _ hm⟩
  · have hjn : j = n1 := by omega
    subst hjn
    clear hm
    (repeat (first | refine lenBo ?_ | refine leatlaw04_DiskFuses_P1_r ?_ | refine leatlaw04_DiskFuses_P2_r ?_ | refine leatlaw04_DiskFuses_A1_r ?_ | refine leatlaw04_DiskFuses_P3_r ?_ | refine leatlaw04_DiskFuses_A2_r ?_ | refine leatlaw04_DiskFuses_A3_r ?_ | refine leatlaw04_DiskFuses_A4_r ?_ | refine bin_eql ?_ | refine bin_neq ?_ | refine bin_lss ?_ | refine bin_leq ?_ | refine bin_gtr ?_ | refine bin_geq ?_ | refine add64 (by omega) (by omega) ?_ | refine sub64 (by omega) (by omega) ?_ | refine ext_a ?_ | refine ext_b ?_ | refine ext3_a ?_ | refine ext3_b ?_ | refine ext3_c ?_ | refine un_notD ?_ | refine mul64 (by omega) (by omega) ?_ | refine cvIU (by omega) (by omega) ?_ | refine cvIUint (by omega) (by omega) ?_ | refine cvUI (by omega) (by omega) ?_ | refine cvBU (by omega) (by omega) ?_ | refine len8 ?_ | refine len36 ?_ | refine pick_T ?_ | refine pick_F ?_ | refine cond_T ?_ | refine cond_F ?_ | refine cond_t (by omega) ?_ | refine cond_f (by omega) ?_ | refine gsel_T ?_ | refine gsel_F ?_ | refine gsel_Tn ?_ | refine gsel_Fn ?_ | refine gsel_U ?_ | refine gsel_pt (by omega) ?_ | refine gsel_pf (by omega) ?_ | refine gsel_nt (by omega) ?_ | refine gsel_nf (by omega) ?_ | refine pick_t (by omega) ?_ | refine pick_f (by omega) ?_ | refine sti_of (fun _ hK => bin_eql hK) ?_ | refine sti_of (fun _ hK => bin_neq hK) ?_ | refine sti_of (fun _ hK => bin_lss hK) ?_ | refine sti_of (fun _ hK => bin_leq hK) ?_ | refine sti_of (fun _ hK => bin_gtr hK) ?_ | refine sti_of (fun _ hK => bin_geq hK) ?_ | refine sti_of (fun _ hK => add64 (by omega) (by omega) hK) ?_ | refine sti_of (fun _ hK => sub64 (by omega) (by omega) hK) ?_ | refine sti_of (fun _ hK => un_notD hK) ?_ | refine sti_of (fun _ hK => len8 hK) ?_ | refine sti_of (fun _ hK => pick_T hK) ?_ | refine sti_of (fun _ hK => pick_F hK) ?_))
    have hlo := (fD_loose (S := S) (X := X) (j := j) (many := many)).1
    have hsu : (fD S X j many).sure = (S, []) := by unfold fD; split <;> rfl
    have hlX : (lap X).length = X.length := by simp [lap]
    refine loose_c hd3 ?_
    rw [hlo, hlX]
    (repeat (first | refine bin_eql ?_ | refine bin_neq ?_ | refine bin_lss ?_ | refine bin_leq ?_ | refine bin_gtr ?_ | refine bin_geq ?_ | refine add64 (by omega) (by omega) ?_ | refine sub64 (by omega) (by omega) ?_ | refine ext_a ?_ | refine ext_b ?_ | refine ext3_a ?_ | refine ext3_b ?_ | refine ext3_c ?_ | refine un_notD ?_ | refine mul64 (by omega) (by omega) ?_ | refine cvIU (by omega) (by omega) ?_ | refine cvIUint (by omega) (by omega) ?_ | refine cvUI (by omega) (by omega) ?_ | refine cvBU (by omega) (by omega) ?_ | refine len8 ?_ | refine len36 ?_ | refine pick_T ?_ | refine pick_F ?_ | refine cond_T ?_ | refine cond_F ?_ | refine cond_t (by omega) ?_ | refine cond_f (by omega) ?_ | refine gsel_T ?_ | refine gsel_F ?_ | refine gsel_Tn ?_ | refine gsel_Fn ?_ | refine gsel_U ?_ | refine gsel_pt (by omega) ?_ | refine gsel_pf (by omega) ?_ | refine gsel_nt (by omega) ?_ | refine gsel_nf (by omega) ?_ | refine pick_t (by omega) ?_ | refine pick_f (by omega) ?_ | refine sti_of (fun _ hK => bin_eql hK) ?_ | refine sti_of (fun _ hK => bin_neq hK) ?_ | refine sti_of (fun _ hK => bin_lss hK) ?_ | refine sti_of (fun _ hK => bin_leq hK) ?_ | refine sti_of (fun _ hK => bin_gtr hK) ?_ | refine sti_of (fun _ hK => bin_geq hK) ?_ | refine sti_of (fun _ hK => add64 (by omega) (by omega) hK) ?_ | refine sti_of (fun _ hK => sub64 (by omega) (by omega) hK) ?_ | refine sti_of (fun _ hK => un_notD hK) ?_ | refine sti_of (fun _ hK => len8 hK) ?_ | refine sti_of (fun _ hK => pick_T hK) ?_ | refine sti_of (fun _ hK => pick_F hK) ?_))
    refine off_c hd3 ?_
    rw [hlo, hsu]
    intro w4 hd4 k4
    have K4 := k4.mono (T' := DT) (by simp) hpB
    have oS := oS.keep K4 (by decide)
    have oX := oX.keep K4 (by decide)
    have b4 : Below w.heap.size w w4 := b3.trans (K4.below b3.size)
    have hpk : ∀ {w' : World} {K' : KV}, K' (.int .i64 pk) w' → conv Try.prog 5 3 (.int .u8 pk) K' w' := by
      intro w' K' hK
      refine conv_int Try.underlying5 Try.underlying3 ?_
      rw [wrap_i64 (by omega) (by omega)]; exact hK
    refine hpk ?_
    (repeat (first | refine bin_eql ?_ | refine bin_neq ?_ | refine bin_lss ?_ | refine bin_leq ?_ | refine bin_gtr ?_ | refine bin_geq ?_ | refine add64 (by omega) (by omega) ?_ | refine sub64 (by omega) (by omega) ?_ | refine ext_a ?_ | refine ext_b ?_ | refine ext3_a ?_ | refine ext3_b ?_ | refine ext3_c ?_ | refine un_notD ?_ | refine mul64 (by omega) (by omega) ?_ | refine cvIU (by omega) (by omega) ?_ | refine cvIUint (by omega) (by omega) ?_ | refine cvUI (by omega) (by omega) ?_ | refine cvBU (by omega) (by omega) ?_ | refine len8 ?_ | refine len36 ?_ | refine pick_T ?_ | refine pick_F ?_ | refine cond_T ?_ | refine cond_F ?_ | refine cond_t (by omega) ?_ | refine cond_f (by omega) ?_ | refine gsel_T ?_ | refine gsel_F ?_ | refine gsel_Tn ?_ | refine gsel_Fn ?_ | refine gsel_U ?_ | refine gsel_pt (by omega) ?_ | refine gsel_pf (by omega) ?_ | refine gsel_nt (by omega) ?_ | refine gsel_nf (by omega) ?_ | refine pick_t (by omega) ?_ | refine pick_f (by omega) ?_ | refine sti_of (fun _ hK => bin_eql hK) ?_ | refine sti_of (fun _ hK => bin_neq hK) ?_ | refine sti_of (fun _ hK => bin_lss hK) ?_ | refine sti_of (fun _ hK => bin_leq hK) ?_ | refine sti_of (fun _ hK => bin_gtr hK) ?_ | refine sti_of (fun _ hK => bin_geq hK) ?_ | refine sti_of (fun _ hK => add64 (by omega) (by omega) hK) ?_ | refine sti_of (fun _ hK => sub64 (by omega) (by omega) hK) ?_ | refine sti_of (fun _ hK => un_notD hK) ?_ | refine sti_of (fun _ hK => len8 hK) ?_ | refine sti_of (fun _ hK => pick_T hK) ?_ | refine sti_of (fun _ hK => pick_F hK) ?_))
    refine rem_nn (by omega) (by omega) ?_
    rw [← hX]
    have hkk := Int.emod_lt_of_pos pk (show (0 : Int) < (X.length : Int) + 1 by omega)
    have hon := onS_lap S X pk hp.1
    obtain ⟨k, hk⟩ : ∃ k : Nat, pk % ((X.length : Int) + 1) = k := Int.eq_ofNat_of_zero_le (Int.emod_nonneg _ (by omega))
    rw [hk] at hkk hon ⊢
    rw [Int.toNat_natCast] at hon
    refine hpk ?_
    refine bldI [pk] rfl rfl (by simp) (by simp) ?_
    intro a5 w5 r5 b5
    refine on_c (hd4.below b5) r5 (by simp [lap]; omega) ?_
    rw [hon]
    intro w6 hd6 k6
    have K6 : Keep DT w.heap.size w4 w6 := (Keep.of b5).trans k6
    have oS := oS.keep K6 (by decide)
    have oX := oX.keep K6 (by decide)
    have b6 : Below w.heap.size w w6 := b4.trans (K6.below b4.size)
    have hlt6 := OB.lt oS
    (repeat (first | refine bin_eql ?_ | refine bin_neq ?_ | refine bin_lss ?_ | refine bin_leq ?_ | refine bin_gtr ?_ | refine bin_geq ?_ | refine add64 (by omega) (by omega) ?_ | refine sub64 (by omega) (by omega) ?_ | refine ext_a ?_ | refine ext_b ?_ | refine ext3_a ?_ | refine ext3_b ?_ | refine ext3_c ?_ | refine un_notD ?_ | refine mul64 (by omega) (by omega) ?_ | refine cvIU (by omega) (by omega) ?_ | refine cvIUint (by omega) (by omega) ?_ | refine cvUI (by omega) (by omega) ?_ | refine cvBU (by omega) (by omega) ?_ | refine len8 ?_ | refine len36 ?_ | refine pick_T ?_ | refine pick_F ?_ | refine cond_T ?_ | refine cond_F ?_ | refine cond_t (by omega) ?_ | refine cond_f (by omega) ?_ | refine gsel_T ?_ | refine gsel_F ?_ | refine gsel_Tn ?_ | refine gsel_Fn ?_ | refine gsel_U ?_ | refine gsel_pt (by omega) ?_ | refine gsel_pf (by omega) ?_ | refine gsel_nt (by omega) ?_ | refine gsel_nf (by omega) ?_ | refine pick_t (by omega) ?_ | refine pick_f (by omega) ?_ | refine sti_of (fun _ hK => bin_eql hK) ?_ | refine sti_of (fun _ hK => bin_neq hK) ?_ | refine sti_of (fun _ hK => bin_lss hK) ?_ | refine sti_of (fun _ hK => bin_leq hK) ?_ | refine sti_of (fun _ hK => bin_gtr hK) ?_ | refine sti_of (fun _ hK => bin_geq hK) ?_ | refine sti_of (fun _ hK => add64 (by omega) (by omega) hK) ?_ | refine sti_of (fun _ hK => sub64 (by omega) (by omega) hK) ?_ | refine sti_of (fun _ hK => un_notD hK) ?_ | refine sti_of (fun _ hK => len8 hK) ?_ | refine sti_of (fun _ hK => pick_T hK) ?_ | refine sti_of (fun _ hK => pick_F hK) ?_))
    refine power_c hd6 ?_
    refine un_not ?_
    (repeat (first | refine bin_eql ?_ | refine bin_neq ?_ | refine bin_lss ?_ | refine bin_leq ?_ | refine bin_gtr ?_ | refine bin_geq ?_ | refine add64 (by omega) (by omega) ?_ | refine sub64 (by omega) (by omega) ?_ | refine ext_a ?_ | refine ext_b ?_ | refine ext3_a ?_ | refine ext3_b ?_ | refine ext3_c ?_ | refine un_notD ?_ | refine mul64 (by omega) (by omega) ?_ | refine cvIU (by omega) (by omega) ?_ | refine cvIUint (by omega) (by omega) ?_ | refine cvUI (by omega) (by omega) ?_ | refine cvBU (by omega) (by omega) ?_ | refine len8 ?_ | refine len36 ?_ | refine pick_T ?_ | refine pick_F ?_ | refine cond_T ?_ | refine cond_F ?_ | refine cond_t (by omega) ?_ | refine cond_f (by omega) ?_ | refine gsel_T ?_ | refine gsel_F ?_ | refine gsel_Tn ?_ | refine gsel_Fn ?_ | refine gsel_U ?_ | refine gsel_pt (by omega) ?_ | refine gsel_pf (by omega) ?_ | refine gsel_nt (by omega) ?_ | refine gsel_nf (by omega) ?_ | refine pick_t (by omega) ?_ | refine pick_f (by omega) ?_ | refine sti_of (fun _ hK => bin_eql hK) ?_ | refine sti_of (fun _ hK => bin_neq hK) ?_ | refine sti_of (fun _ hK => bin_lss hK) ?_ | refine sti_of (fun _ hK => bin_leq hK) ?_ | refine sti_of (fun _ hK => bin_gtr hK) ?_ | refine sti_of (fun _ hK => bin_geq hK) ?_ | refine sti_of (fun _ hK => add64 (by omega) (by omega) hK) ?_ | refine sti_of (fun _ hK => sub64 (by omega) (by omega) hK) ?_ | refine sti_of (fun _ hK => un_notD hK) ?_ | refine sti_of (fun _ hK => len8 hK) ?_ | refine sti_of (fun _ hK => pick_T hK) ?_ | refine sti_of (fun _ hK => pick_F hK) ?_))
    refine loose_c hd6 ?_
    (repeat (first | refine leatlaw04_DiskFuses_P1_r ?_ | refine leatlaw04_DiskFuses_P2_r ?_ | refine leatlaw04_DiskFuses_A1_r ?_ | refine leatlaw04_DiskFuses_P3_r ?_ | refine leatlaw04_DiskFuses_A2_r ?_ | refine leatlaw04_DiskFuses_A3_r ?_ | refine leatlaw04_DiskFuses_A4_r ?_ | refine bin_eql ?_ | refine bin_neq ?_ | refine bin_lss ?_ | refine bin_leq ?_ | refine bin_gtr ?_ | refine bin_geq ?_ | refine add64 (by omega) (by omega) ?_ | refine sub64 (by omega) (by omega) ?_ | refine ext_a ?_ | refine ext_b ?_ | refine ext3_a ?_ | refine ext3_b ?_ | refine ext3_c ?_ | refine un_notD ?_ | refine mul64 (by omega) (by omega) ?_ | refine cvIU (by omega) (by omega) ?_ | refine cvIUint (by omega) (by omega) ?_ | refine cvUI (by omega) (by omega) ?_ | refine cvBU (by omega) (by omega) ?_ | refine len8 ?_ | refine len36 ?_ | refine pick_T ?_ | refine pick_F ?_ | refine cond_T ?_ | refine cond_F ?_ | refine cond_t (by omega) ?_ | refine cond_f (by omega) ?_ | refine gsel_T ?_ | refine gsel_F ?_ | refine gsel_Tn ?_ | refine gsel_Fn ?_ | refine gsel_U ?_ | refine gsel_pt (by omega) ?_ | refine gsel_pf (by omega) ?_ | refine gsel_nt (by omega) ?_ | refine gsel_nf (by omega) ?_ | refine pick_t (by omega) ?_ | refine pick_f (by omega) ?_ | refine sti_of (fun _ hK => bin_eql hK) ?_ | refine sti_of (fun _ hK => bin_neq hK) ?_ | refine sti_of (fun _ hK => bin_lss hK) ?_ | refine sti_of (fun _ hK => bin_leq hK) ?_ | refine sti_of (fun _ hK => bin_gtr hK) ?_ | refine sti_of (fun _ hK => bin_geq hK) ?_ | refine sti_of (fun _ hK => add64 (by omega) (by omega) hK) ?_ | refine sti_of (fun _ hK => sub64 (by omega) (by omega) hK) ?_ | refine sti_of (fun _ hK => un_notD hK) ?_ | refine sti_of (fun _ hK => len8 hK) ?_ | refine sti_of (fun _ hK => pick_T hK) ?_ | refine sti_of (fun _ hK => pick_F hK) ?_))
    refine read_c hd6 ?_
    rw [show readS ⟨(S ++ X.take k, []), [], false, -1⟩ 0 = (S ++ X.take k, 0) from rfl]
    intro a7 n7 c7 w7 o7 b7
    have oS := OB.below oS b7 (Nat.le_refl _)
    have oX := OB.below oX b7 (Nat.le_refl _)
    have b7w : Below w.heap.size w w7 := b6.trans (b7.mono b6.size)
    (repeat (first | refine leatlaw04_DiskFuses_P1_r ?_ | refine leatlaw04_DiskFuses_P2_r ?_ | refine leatlaw04_DiskFuses_A1_r ?_ | refine leatlaw04_DiskFuses_P3_r ?_ | refine leatlaw04_DiskFuses_A2_r ?_ | refine leatlaw04_DiskFuses_A3_r ?_ | refine leatlaw04_DiskFuses_A4_r ?_ | refine bin_eql ?_ | refine bin_neq ?_ | refine bin_lss ?_ | refine bin_leq ?_ | refine bin_gtr ?_ | refine bin_geq ?_ | refine add64 (by omega) (by omega) ?_ | refine sub64 (by omega) (by omega) ?_ | refine ext_a ?_ | refine ext_b ?_ | refine ext3_a ?_ | refine ext3_b ?_ | refine ext3_c ?_ | refine un_notD ?_ | refine mul64 (by omega) (by omega) ?_ | refine cvIU (by omega) (by omega) ?_ | refine cvIUint (by omega) (by omega) ?_ | refine cvUI (by omega) (by omega) ?_ | refine cvBU (by omega) (by omega) ?_ | refine len8 ?_ | refine len36 ?_ | refine pick_T ?_ | refine pick_F ?_ | refine cond_T ?_ | refine cond_F ?_ | refine cond_t (by omega) ?_ | refine cond_f (by omega) ?_ | refine gsel_T ?_ | refine gsel_F ?_ | refine gsel_Tn ?_ | refine gsel_Fn ?_ | refine gsel_U ?_ | refine gsel_pt (by omega) ?_ | refine gsel_pf (by omega) ?_ | refine gsel_nt (by omega) ?_ | refine gsel_nf (by omega) ?_ | refine pick_t (by omega) ?_ | refine pick_f (by omega) ?_ | refine sti_of (fun _ hK => bin_eql hK) ?_ | refine sti_of (fun _ hK => bin_neq hK) ?_ | refine sti_of (fun _ hK => bin_lss hK) ?_ | refine sti_of (fun _ hK => bin_leq hK) ?_ | refine sti_of (fun _ hK => bin_gtr hK) ?_ | refine sti_of (fun _ hK => bin_geq hK) ?_ | refine sti_of (fun _ hK => add64 (by omega) (by omega) hK) ?_ | refine sti_of (fun _ hK => sub64 (by omega) (by omega) hK) ?_ | refine sti_of (fun _ hK => un_notD hK) ?_ | refine sti_of (fun _ hK => len8 hK) ?_ | refine sti_of (fun _ hK => pick_T hK) ?_ | refine sti_of (fun _ hK => pick_F hK) ?_))
    have oSd := OB.below oS ((Below.refl _ w7).drew) (Nat.le_refl _)
    have oXd := OB.below oX ((Below.refl _ w7).drew) (Nat.le_refl _)
    have o7d := OB.below o7 ((Below.refl _ w7).drew) (Nat.le_refl _)
    refine hReg_of (fun w' => RB w' a7 n7 c7 (S ++ X.take k)) o7d.rb ?_
    refine hld_of (fun w hw K hK => bin_eql hK) ?_
    refine hG_t rfl (fun w hw K hK => hK) ?_
    refine hG_t rfl (fun w hw K hK => str8 hw hK) ?_
    refine hG_t rfl (fun w hw K hK => hK) ?_
    refine hG_t rfl (fun w hw K hK => hK) ?_
    refine hG_t rfl (fun w hw K hK => hK) ?_
    refine hG_t rfl (fun w hw K hK => slcTo (s := 1) (m := k) Try.underlying22 size_u8 (by have := RV.cap oX.rb.rv; omega) hK) ?_
    refine xG_t rfl ?_
    have rXk : RB w7.drew la k lc (X.take k) := by
      have r := oXd.rb
      refine ⟨by simp; omega, by have := RV.cap r; omega, fun h0 => RV.some_ r (by omega), fun ha => ?_, fun i u hu => ?_⟩
      · have := RV.nil_ r ha
        omega
      · refine RV.cell r i u ?_
        rw [List.map_take, List.getElem?_take] at hu
        split at hu
        · exact hu
        · cases hu
    refine app8s w.heap.size oSd rXk (by omega) b7w.drew.size ?_
    intro a8 c8 w8 o8 g8 wh8
    have o7n : OB w8 w6.heap.size a7 n7 c7 (S ++ X.take k) := by
      refine World.ownsRow.kept o7d g8 ?_
      cases ha7 : a7 with
      | none => exact .inl rfl
      | some ad =>
        right
        cases hsa : sa with
        | none => simp [Value.ownBlock]
        | some ad2 =>
          have h1 := (OV.block o7d ad.block (by rw [ha7]; rfl)).1
          have h2 := hlt6 ad2 hsa
          simp only [Value.ownBlock, ne_eq, Option.some.injEq]
          omega
    refine hSub_of (fun w' => RB w' a7 n7 c7 (S ++ X.take k) ∧ RB w' a8 (sn + k) c8 (S ++ X.take k)) (fun x hx => hx.1) ⟨o7n.rb, o8.rb⟩ ?_
    refine hG_t rfl (fun w hw K hK => str8 hw.2 hK) ?_
    refine hG_t rfl (fun w hw K hK => bin_eqlS hK) ?_
    refine hld_of (fun w hw K hK => pick_T hK) ?_
    refine xG_t (by show some (decide _) = some true; rw [decide_eq_true rfl]) ?_
    refine works_c ?_
    intro w9 b9
    refine hReg_of (fun _ => True) trivial ?_
    refine hld_of (v := .bool true) (fun w hw K hK => ?_) ?_
    · show pick (.bool (decide (S ++ X.take k = S ++ X.take k))) (.bool true) (.bool false) K w
      exact pick_t rfl hK
    have k8 : Below w.heap.size w7.drew w8 := below_of_grown g8 b7w.drew.size (fun k hk => (OV.block oSd k hk).1)
    exact h _ ((b7w.drew.trans k8).trans (b9.mono (b7w.drew.trans k8).size))
end

set_option maxRecDepth 100000 in
theorem diskFuses_contract (H : Type) (enc : TypeId × Value → H) (W : World) (base : Nat) (args : Array Value) (ds gs : List (DataW H)) (before : List MemPlace)
    (hval0 : ∀ (j : Nat) t v, Try.f5.params[j]? = some t → args[j]? = some v → Value.okWide Try.prog W .any base t v)
    (hW : DataW.Whole enc Try.prog Try.f5.params.toList Rows.diskFusesSpec.vars false W args.toList ds gs before) :
    Calls Try.prog 5 args W fun e W' => ∃ v, e = .returned v ∧ Rows.diskFusesSpec.post enc Try.prog Try.f5 false true false false W args v W' := by
  have hval := hval0
  have hW' := hW
  obtain ⟨p, q, hA0, hV, rfl, hfz, hnd⟩ := hW
  have hA : DataW.TrodAll enc Try.prog W 0 (fun _ => true) true Try.f5.params.toList args.toList ds p := hA0
  rw [Try.params5] at hA hval
  obtain ⟨v0, vs0, d0, ds0, p0, q0, hargs, rfl, rfl, h0, r0⟩ := trodAll_cons hA
  obtain ⟨v1, vs1, d1, ds1, p1, q1, rfl, rfl, rfl, h1, r1⟩ := trodAll_cons r0
  obtain ⟨v2, vs2, d2, ds2, p2, q2, rfl, rfl, rfl, h2, r2⟩ := trodAll_cons r1
  obtain ⟨rfl, rfl, rfl⟩ := trodAll_nil r2
  obtain rfl : args = #[v0, v1, v2] := by cases args; simp_all
  obtain ⟨rfl, rfl⟩ := trodVars_none hV
  obtain ⟨a0, rfl, rfl, rfl, w0⟩ := open_int Try.underlying5 (hval 0 5 v0 rfl rfl) h0
  have hx0 : 0 ≤ a0 ∧ a0 ≤ 255 := by simpa [Lit.wf, IntKind.min, IntKind.max, IntKind.signed, IntKind.bits] using w0
  obtain ⟨a1, n1, c1, rfl⟩ := okWide_slice Try.underlying38 (hval 1 38 v1 rfl rfl)
  have k1 := h1
  have lt1 : ∀ x ∈ p1, x.block < W.heap.size := by obtain ⟨m, hm⟩ := k1; exact DataW.trod_lt m _ _ _ hm
  obtain ⟨⟨l1, rb1⟩, hle1, hmx1⟩ : (∃ l, RBo W a1 n1 c1 l) ∧ n1 ≤ c1 ∧ c1 ≤ 9223372036854775807 := by
    obtain ⟨fuel, hf⟩ := h1
    exact rbo_of_trod (by rfl) hf
  obtain ⟨a2, rfl, rfl, rfl, w2⟩ := open_int Try.underlying5 (hval 2 5 v2 rfl rfl) h2
  have hx2 : 0 ≤ a2 ∧ a2 ≤ 255 := by simpa [Lit.wf, IntKind.min, IntKind.max, IntKind.signed, IntKind.bits] using w2
  clear hA0 hval0 hval
  have hcalls : Calls Try.prog 5 #[.int .u8 a0, .slice a1 n1 c1, .int .u8 a2] W fun e w' => e = .returned (.bool true) ∧ Below W.heap.size W w' := by
    exact calls_of (fuses_law (by omega) rb1 (by omega) (by omega) (fun w' hb' => ⟨rfl, hb'⟩))
  refine hcalls.mono fun e W' ⟨he, bel⟩ => ?_
  subst he
  exact ⟨_, rfl, _, _, _, [], _, [], hW', trodAll_mk1 (shut_bool Try.underlying4 _), (trodAll_cons_mk (shut_int Try.underlying5 w0) (trodAll_cons_mk (Below.trod frame_laid (by kernel_rfl) (of_decide_eq_true (by kernel_rfl)) k1 bel lt1) (trodAll_cons_mk (shut_int Try.underlying5 w2) trodAll_mk0))), rfl, bel.frame _, fun h => by cases h⟩

set_option maxRecDepth 100000 in
theorem diskFuses_lifted (os : Os) (started : os.Started) (H : Type) (enc : TypeId × Value → H) :
    ReturnsInHanded {} Try.checked os 5 .any (Rows.diskFusesSpec.pre6 enc Try.prog Try.f5 Rows.diskFusesRow.domain false) (Rows.diskFusesSpec.post enc Try.prog Try.f5 false true false false) := by
  refine returnsInHanded_of_change (C := Try.checked) frame_own started (by kernel_rfl) Try.func5
    (ChangeSpec.witness6 (enc := enc) (C := Try.checked) false ⟨#[], #[.int .u8 0, .slice none 0 0, .int .u8 0], []⟩ 8 (by kernel_rfl) (by kernel_rfl) (by kernel_rfl) (by kernel_rfl)) ?_
  intro W base args ds gs before hval hW _ _
  exact diskFuses_contract H enc W base args ds gs before hval hW

theorem diskFuses_proved : Rows.DiskFusesSaid :=
  OpenClaim.holds_of_wide 5 Try.f5 rfl rfl rfl rfl rfl rfl rfl ⟨rfl, rfl, rfl, rfl, rfl⟩ rfl rfl rfl rfl rfl (by kernel_rfl) Try.func5 (by kernel_rfl)
    (of_decide_eq_true (by kernel_rfl)) (by unfold Func.isWrapper; first | (rw [if_pos (by decide +kernel)]; kernel_rfl) | (rw [if_neg (by decide +kernel)]; exact ⟨rfl, rfl⟩))
    (fun os started H enc _ => diskFuses_lifted os started H enc)

end Go.Proofs.Ythmgiggmnbdnjaa
