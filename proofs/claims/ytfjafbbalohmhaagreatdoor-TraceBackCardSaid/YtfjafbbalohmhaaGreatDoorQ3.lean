/- Laid together: Trc2 Mem2 Mem3 Trc3 Be TPl Frame TArg Trc4 SRef Ref. -/
import Derived.Test.YtfjafbbalohmhaaGreatDoorQ2
import Derived.Test.YtfjafbbalohmhaaGreatDoorQ1
import Derived.Test.YtfjafbbalohmhaaGreatDoorRows
import Derived.WalkKit
import Derived.ProofKit
import Derived.OpenShut
import Derived.ShutString
import Derived.ChangeOld
import Derived.Below
import Derived.JoinedCond
import Derived.Deep.Matrix
import Derived.Test.YtfjafbbalohmhaaGreatDoorSh
import Derived.Test.YtfjafbbalohmhaaGreatDoorChecked
/- A step's bytes (trace.Put). -/
namespace Go.Proofs.YtfjafbbalohmhaaGreatDoor
set_option maxRecDepth 100000
open Go.RowKit
attribute [local irreducible] bin un conv call callV blt slc fldA fld idxA idx lkp mUpd mEnt eSt rng nxt ent ext alc box bld bldS ld sto nilC mkMap mkS ifc pick rdy wts gsel sti cond retM Gives cCode cGrp cSeq cOp
section
variable {w : World} {K : KV}
theorem pst2_c {B p q : Nat} {s : STP} {v : Value} {l : List UInt8} {x kk : Int} (k : Nat) (hs : PSt B w p q s v l) (hBw : B ≤ w.heap.size) (hl : l.length ≤ 1000) (hk : k = 1 ∨ k = 2 ∨ k = 4 ∨ k = 8) (h0 : 0 ≤ x) (hx : x < 256 ^ k) (hkk : kk = (k : Int))
    (h : ∀ w', PSt B w' p q s v (l ++ beBytes x.toNat k) → Below B w w' → Tn p w w' → K (.tuple #[]) w') : call Tryz.prog 26 #[.pointer (some ⟨p, 0, none⟩), .int .u64 x, .int .i64 kk] K w := by
  subst hkk
  obtain ⟨y, rfl⟩ := Int.eq_ofNat_of_zero_le h0
  rw [Int.toNat_natCast] at h
  exact pst_c hs hBw hl hk (by rcases hk with rfl | rfl | rfl | rfl <;> omega) h
theorem conv64 {a : Int} (h1 : 0 ≤ a) (h2 : a ≤ 18446744073709551615) (h : K (.int .u64 a) w) : conv Tryz.prog 2 22 (.int .i64 a) K w := by
  refine conv_int Tryz.underlying2 Tryz.underlying22 ?_
  rw [wrap_u64, show a % 18446744073709551616 = a by omega]
  exact h
def hdT (s : STP) : List UInt8 := beBytes s.d.toNat 1 ++ beBytes (s.who + 1).toNat 2 ++ beBytes (s.j + 1).toNat 2 ++ beBytes (s.k + 1).toNat 2
def bdT (s : STP) : List UInt8 := hdT s ++ beBytes (s.n + 1).toNat 4 ++ beBytes s.kind.toNat 1 ++ beBytes s.node.toNat 8 ++ beBytes (s.to + 1).toNat 2 ++ beBytes (s.am + 1).toNat 8 ++ beBytes s.req.toNat 8 ++ beBytes s.of_.toNat 8 ++ beBytes s.picks.length 1
def pkT (l : List Int) : List UInt8 := l.flatMap fun x => beBytes (x + 1).toNat 1
theorem putT_t {s : STP} (h : mayT s = true) : putT s = bdT s ++ pkT s.picks := by
  unfold putT
  rw [h]
  rfl
theorem hdT_len (s : STP) : (hdT s).length = 7 := by simp [hdT, beBytes_len]
theorem bdT_len (s : STP) : (bdT s).length = 47 := by simp [bdT, hdT_len, beBytes_len]
theorem pkT_len : ∀ l : List Int, (pkT l).length = l.length
  | [] => rfl
  | x :: l => by
    have := pkT_len l
    unfold pkT at *
    rw [List.flatMap_cons, List.length_append, this, beBytes_len, List.length_cons]; omega
theorem pkT_snoc (l : List Int) (x : Int) : pkT (l ++ [x]) = pkT l ++ beBytes (x + 1).toNat 1 := by simp [pkT]
theorem putT_len {s : STP} (h : mayT s = true) : (putT s).length = 47 + s.picks.length := by rw [putT_t h, List.length_append, bdT_len, pkT_len]
theorem l3_of {x y z : Int} {i : Nat} (h : i < 3) : ([x, y, z].map i6)[i]? = some (i6 ([x, y, z].getD i 0)) := by
  rcases (show i = 0 ∨ i = 1 ∨ i = 2 by omega) with rfl | rfl | rfl <;> rfl
def firsts (s : STP) (i : Nat) : List UInt8 := beBytes s.d.toNat 1 ++ ([s.who, s.j, s.k].take i).flatMap fun x => beBytes (x + 1).toNat 2
theorem firsts_succ (s : STP) {i : Nat} (h : i < 3) : firsts s (i + 1) = firsts s i ++ beBytes (([s.who, s.j, s.k].getD i 0) + 1).toNat 2 := by
  rcases (show i = 0 ∨ i = 1 ∨ i = 2 by omega) with rfl | rfl | rfl <;> simp [firsts]
theorem firsts_len (s : STP) {i : Nat} (h : i ≤ 3) : (firsts s i).length ≤ 7 := by
  rcases (show i = 0 ∨ i = 1 ∨ i = 2 ∨ i = 3 by omega) with rfl | rfl | rfl | rfl <;> simp [firsts, beBytes_len]
theorem firsts_3 (s : STP) : firsts s 3 = hdT s := by simp [firsts, hdT, List.append_assoc]
set_option maxHeartbeats 4000000 in
theorem tput_c {s : STP} {a : Option Addr} {c : Nat} (hw : STW s) (hr : RN w a s.picks.length c s.picks) (hn : s.picks.length ≤ 4611686018427387904) (h : ∀ w' a' n' c', RB w' a' n' c' (putT s) → Below w.heap.size w w' → K (.slice a' n' c') w') :
    call Tryz.prog 8 #[.agg (stC s (.slice a s.picks.length c)).toArray] K w := by
  refine call_of trace_Put_go (trace_Put_in ?_)
  refine box_of fun w1 hb b1 s1 => ?_
  have hb : blk w1 w.heap.size 27 (stC s (.slice a s.picks.length c)) := hb
  generalize hq0 : w.heap.size = q at *
  refine ldA (n := 12) (vs := stC s (.slice a s.picks.length c)) Tryz.underlying27 rfl (by kernel_rfl) hb rfl rfl ?_
  have hr1 : RN w1 a s.picks.length c s.picks := hr.below b1 (by omega)
  refine tmay_c hw hr1 hn ?_
  intro w2 b2
  have hb2 : blk w2 q 27 (stC s (.slice a s.picks.length c)) := below_blk b2 hb (by omega)
  have b12 : Below q w w2 := b1.trans (b2.mono (by omega))
  refine un_not ?_
  cases hm : mayT s with
  | false =>
    rw [Bool.not_false]
    refine cond_T ?_
    have hp : putT s = [] := by unfold putT; rw [hm]
    have := h w2 none 0 0 (by rw [hp]; exact RV.nil w2) b12
    exact this
  | true =>
  obtain ⟨⟨d1, d2⟩, k1, ⟨w1', w2'⟩, ⟨j1, j2⟩, ⟨kk1, kk2⟩, ⟨t1, t2⟩, ⟨n1, n2⟩, ⟨a1, a2⟩, p1, p2⟩ := mayT_iff.1 hm
  rw [Bool.not_true]
  refine cond_F ?_
  refine alc_of (z := .slice none 0 0) (by kernel_rfl) fun w3 hp3 b3 s3 => ?_
  have hb3 : blk w3 q 27 (stC s (.slice a s.picks.length c)) := below_blk b3 hb2 (by have := b2.size; omega)
  generalize hp0 : w2.heap.size = p at *
  have hqp : q ≠ p := by have := b2.size; omega
  have hqle : q ≤ p := by have := b2.size; omega
  have b13 : Below q w w3 := b12.trans (b3.mono hqle)
  have hs3 : PSt q w3 p q s (.slice a s.picks.length c) [] := ⟨⟨none, 0, 0, by simpa [Value.cells] using hp3, RV.nil w3⟩, hb3, hqle, hqp⟩
  have hw3 : q ≤ w3.heap.size := by omega
  (repeat (first | refine fA_Stp_0 ?_ | (refine ld_TL_0 ?_ (by assumption) ?_ ?_; rotate_left; exact rfl) | refine cvBU (by omega) (by omega) ?_))
  have hd := hw.d
  have hkd := hw.kind
  have hnd := hw.node
  have hrq := hw.req
  have hof := hw.of_
  refine pst2_c 1 hs3 hw3 (by simp) (by simp) (by omega) (by omega) rfl ?_
  intro w4 hs4 b4 _
  rw [List.nil_append] at hs4
  have hb4 := hs4.stp
  have hw4 : q ≤ w4.heap.size := Nat.le_trans hw3 b4.size
  (repeat (first | refine fA_Stp_1 ?_ | refine fA_Stp_3 ?_ | refine fA_Stp_4 ?_ | (refine ld_TL_1 ?_ (by assumption) ?_ ?_; rotate_left; exact rfl)))
  refine bldSG (vs := [i6 s.who, i6 s.j, i6 s.k]) Tryz.underlying25 (s := 1) (by kernel_rfl) (by kernel_rfl) (by omega) rfl (by simp) (by simp) (by simp) (by simp [Value.cells, i6]) ?_
  intro w5 hb5 b5 s5
  have hb5 : blk w5 w4.heap.size 3 [i6 s.who, i6 s.j, i6 s.k] := by simpa [Value.cells, i6] using hb5
  refine len_slc Tryz.underlying25 ?_
  have hs5 : PSt q w5 p q s (.slice a s.picks.length c) (firsts s 0) := by
    obtain ⟨a', n', c', x1, x2⟩ := hs4.pen
    exact ⟨⟨a', n', c', below_blk b5 x1 x1.lt, by simpa [firsts] using x2.below b5 (Nat.le_refl _)⟩, below_blk b5 hb4 hb4.lt, hqle, hqp⟩
  have hne5 : w4.heap.size ≠ p := by obtain ⟨_, _, _, x1, _⟩ := hs4.pen; have := x1.lt; omega
  have b15 : Below q w w5 := (b13.trans b4).trans (b5.mono hw4)
  refine trace_Put_L1_r (Inv := fun i wr => ∃ e : Nat, i = .int .i64 (e : Nat) ∧ e ≤ 3 ∧ PSt q wr p q s (.slice a s.picks.length c) (firsts s e) ∧ blk wr w4.heap.size 3 [i6 s.who, i6 s.j, i6 s.k] ∧ Below q w wr)
    (μ := fun i _ => 3 - (intOf i).toNat) ⟨0, rfl, by omega, hs5, hb5, b15⟩ ?_
  rintro _ dd w6 m ⟨e, rfl, he, hs6, hb6, b6⟩ hmm
  have hst6 := hs6.stp
  have hw6 : q ≤ w6.heap.size := by have := hst6.lt; omega
  refine bin_lss ?_
  by_cases he3 : e < 3
  · refine cond_t (by omega) ?_
    have hrr := rv_blk hb6
    have hx := l3_of (x := s.who) (y := s.j) (z := s.k) he3
    have hxb : -1 ≤ [s.who, s.j, s.k].getD e 0 ∧ [s.who, s.j, s.k].getD e 0 ≤ 255 := by
      rcases (show e = 0 ∨ e = 1 ∨ e = 2 by omega) with rfl | rfl | rfl
      · exact ⟨w1', w2'⟩
      · exact ⟨j1, j2⟩
      · exact ⟨kk1, kk2⟩
    have hf := firsts_succ s he3
    generalize [s.who, s.j, s.k].getD e 0 = x at hx hxb hf
    refine idx_slc Tryz.underlying25 (fun _ => by kernel_rfl) (by omega) (by simp; omega) hrr.some_ ?_
    rw [Int.toNat_natCast]
    refine ld_cell (fun _ => by kernel_rfl) (hrr.cell _ _ hx) ?_
    unfold i6
    refine add64 (by omega) (by omega) ?_
    refine cvIU (by omega) (by omega) ?_
    refine pst2_c 2 hs6 hw6 (by have := firsts_len s he; omega) (by simp) (by omega) (by omega) rfl ?_
    intro w7 hs7 b7 t7
    refine add64 (by omega) (by omega) ?_
    refine ⟨⟨e + 1, by simp, by omega, by rw [hf]; exact hs7, t7.blk hb6 hne5, b6.trans b7⟩, by rw [hmm]; simp [intOf]; omega⟩
  obtain rfl : e = 3 := by omega
  rw [firsts_3] at hs6
  refine cond_f (by simp) ?_
  clear hs3 hs4 hs5 hb5 hb6 hmm b15 b13 b12 hb4 hb3 hb2
  (repeat (first | refine fA_Stp_5 ?_ | (refine ld_TL_1 ?_ (by assumption) ?_ ?_; rotate_left; exact rfl) | refine trace_Put_P1_r ?_ | refine add64 (by omega) (by omega) ?_ | refine cvIU (by omega) (by omega) ?_))
  refine pst2_c 4 hs6 hw6 (by rw [hdT_len]; omega) (by simp) (by omega) (by omega) rfl ?_
  intro w7 hs7 b7 _
  clear hs6 hst6
  have hst7 := hs7.stp
  have hw7 : q ≤ w7.heap.size := by have := hst7.lt; omega
  (repeat (first | refine fA_Stp_2 ?_ | refine fA_Tas_0 ?_ | (refine ld_TL_0 ?_ (by assumption) ?_ ?_; rotate_left; exact rfl) | refine cvBU (by omega) (by omega) ?_))
  refine pst2_c 1 hs7 hw7 (by simp [hdT_len, beBytes_len]) (by simp) (by omega) (by omega) rfl ?_
  intro w8 hs8 b8 _
  clear hs7 hst7
  have hst8 := hs8.stp
  have hw8 : q ≤ w8.heap.size := by have := hst8.lt; omega
  (repeat (first | refine fA_Stp_2 ?_ | refine fA_Tas_1 ?_ | (refine ld_TL_2 ?_ (by assumption) ?_ ?_; rotate_left; exact rfl)))
  refine pst2_c 8 hs8 hw8 (by simp [hdT_len, beBytes_len]) (by simp) (by omega) (by omega) rfl ?_
  intro w9 hs9 b9 _
  clear hs8 hst8
  have hst9 := hs9.stp
  have hw9 : q ≤ w9.heap.size := by have := hst9.lt; omega
  (repeat (first | refine fA_Stp_2 ?_ | refine fA_Tas_2 ?_ | (refine ld_TL_1 ?_ (by assumption) ?_ ?_; rotate_left; exact rfl) | refine add64 (by omega) (by omega) ?_ | refine cvIU (by omega) (by omega) ?_))
  refine pst2_c 2 hs9 hw9 (by simp [hdT_len, beBytes_len]) (by simp) (by omega) (by omega) rfl ?_
  intro w10 hs10 b10 _
  clear hs9 hst9
  have hst10 := hs10.stp
  have hw10 : q ≤ w10.heap.size := by have := hst10.lt; omega
  (repeat (first | refine fA_Stp_2 ?_ | refine fA_Tas_3 ?_ | (refine ld_TL_3 ?_ (by assumption) ?_ ?_; rotate_left; exact rfl) | refine conv64 (by omega) (by omega) ?_ | refine add64 (by omega) (by omega) ?_))
  refine pst2_c 8 hs10 hw10 (by simp [hdT_len, beBytes_len]) (by simp) (by omega) (by omega) rfl ?_
  intro w11 hs11 b11 _
  clear hs10 hst10
  have hst11 := hs11.stp
  have hw11 : q ≤ w11.heap.size := by have := hst11.lt; omega
  (repeat (first | refine fA_Stp_2 ?_ | refine fA_Tas_4 ?_ | (refine ld_TL_2 ?_ (by assumption) ?_ ?_; rotate_left; exact rfl) | refine trace_Put_A1_r ?_))
  refine pst2_c 8 hs11 hw11 (by simp [hdT_len, beBytes_len]) (by simp) (by omega) (by omega) rfl ?_
  intro w12 hs12 b12 _
  clear hs11 hst11
  have hst12 := hs12.stp
  have hw12 : q ≤ w12.heap.size := by have := hst12.lt; omega
  (repeat (first | refine fA_Stp_2 ?_ | refine fA_Tas_5 ?_ | (refine ld_TL_2 ?_ (by assumption) ?_ ?_; rotate_left; exact rfl)))
  refine pst2_c 8 hs12 hw12 (by simp [hdT_len, beBytes_len]) (by simp) (by omega) (by omega) rfl ?_
  intro w13 hs13 b13 _
  clear hs12 hst12
  have hst13 := hs13.stp
  have hw13 : q ≤ w13.heap.size := by have := hst13.lt; omega
  (repeat (first | refine fA_Stp_6 ?_ | (refine ld_TL_4 ?_ (by assumption) ?_ ?_; rotate_left; exact rfl)))
  refine len_slc Tryz.underlying25 ?_
  refine cvIU (by omega) (by omega) ?_
  refine pst2_c 1 hs13 hw13 (by simp [hdT_len, beBytes_len]) (by simp) (by omega) (by omega) rfl ?_
  intro w14 hs14 b14 _
  clear hs13 hst13
  have hst14 := hs14.stp
  have hw14 : q ≤ w14.heap.size := by have := hst14.lt; omega
  rw [Int.toNat_natCast] at hs14
  have hs14 : PSt q w14 p q s (.slice a s.picks.length c) (bdT s ++ pkT (s.picks.take 0)) := by simpa [pkT, bdT] using hs14
  (repeat (first | refine fA_Stp_6 ?_ | (refine ld_TL_4 ?_ (by assumption) ?_ ?_; rotate_left; exact rfl)))
  refine len_slc Tryz.underlying25 ?_
  have b014 : Below q w w14 := ((((((((b6.trans b7).trans b8).trans b9).trans b10).trans b11).trans b12).trans b13).trans b14)
  refine trace_Put_L2_r (Inv := fun i wr => ∃ e : Nat, i = .int .i64 (e : Nat) ∧ e ≤ s.picks.length ∧ PSt q wr p q s (.slice a s.picks.length c) (bdT s ++ pkT (s.picks.take e)) ∧ Below q w wr)
    (μ := fun i _ => s.picks.length - (intOf i).toNat) ⟨0, rfl, by omega, hs14, b014⟩ ?_
  rintro _ dd w15 m ⟨e, rfl, he, hs15, b15⟩ hmm
  have hst15 := hs15.stp
  have hw15 : q ≤ w15.heap.size := by have := hst15.lt; omega
  refine bin_lss ?_
  by_cases hel : e < s.picks.length
  · refine cond_t (by omega) ?_
    have hrr : RN w15 a s.picks.length c s.picks := hr.below b15 (by omega)
    have hx : (s.picks.map i6)[e]? = some (i6 (s.picks.getD e 0)) := by simp [List.getD, List.getElem?_eq_getElem hel]
    have hxe : s.picks.getD e 0 = s.picks[e] := by simp [List.getD, hel]
    have hxb := inB_iff.1 (List.all_eq_true.1 p2 _ (List.getElem_mem hel))
    have ht : s.picks.take (e + 1) = s.picks.take e ++ [s.picks.getD e 0] := by rw [hxe, List.take_append_getElem hel]
    rw [← hxe] at hxb
    generalize s.picks.getD e 0 = x at hx hxb ht
    refine idx_slc Tryz.underlying25 (fun _ => by kernel_rfl) (by omega) (by omega) hrr.some_ ?_
    rw [Int.toNat_natCast]
    refine ld_cell (fun _ => by kernel_rfl) (hrr.cell _ _ hx) ?_
    unfold i6
    refine add64 (by omega) (by omega) ?_
    refine cvIU (by omega) (by omega) ?_
    refine pst2_c 1 hs15 hw15 (by rw [List.length_append, bdT_len, pkT_len, List.length_take]; omega) (by simp) (by omega) (by omega) rfl ?_
    intro w16 hs16 b16 _
    refine add64 (by omega) (by omega) ?_
    refine ⟨⟨e + 1, by simp, by omega, by rw [ht, pkT_snoc, ← List.append_assoc]; exact hs16, b15.trans b16⟩, by rw [hmm]; simp [intOf]; omega⟩
  obtain rfl : e = s.picks.length := by omega
  refine cond_f (by omega) ?_
  refine trace_Put_P2_r ?_
  obtain ⟨a', n', c', x1, x2⟩ := hs15.pen
  refine ld1 (fun _ => by kernel_rfl) x1 rfl ?_
  rw [List.take_length, ← putT_t hm] at x2
  exact h w15 a' n' c' x2 b15
end
end Go.Proofs.YtfjafbbalohmhaaGreatDoor
/- More rules: make with a length, max and min. Nothing of the program is named here. -/
namespace Go.Proofs.YtfjafbbalohmhaaGreatDoor
set_option maxRecDepth 100000
open Go.RowKit
section
variable {P : Program} {K : KV} {w : World} {t : TypeId}

theorem max2i {ats : Array TypeId} {ty : TypeId} {cs : Array Bool} {k k' : IntKind} {x y : Int} (h : K (.int k (if x < y then y else x)) w) : blt P .max ats ty cs #[.int k x, .int k' y] K w :=
  blt_of (v := .int k (if x < y then y else x)) (w' := w) (by rw [BigFrame.builtin_max]; simp [Builtin.max_, Builtin.max2, Sem.run_pure]) h
theorem min2i {ats : Array TypeId} {ty : TypeId} {cs : Array Bool} {k k' : IntKind} {x y : Int} (h : K (.int k (if y < x then y else x)) w) : blt P .min ats ty cs #[.int k x, .int k' y] K w :=
  blt_of (v := .int k (if y < x then y else x)) (w' := w) (by rw [BigFrame.builtin_min]; simp [Builtin.min_, Builtin.min2, Sem.run_pure]) h

/-- make([]T, n), elements of one cell. -/
theorem mkSN {e : TypeId} {i : TypeInfo} {z : Value} {bytes : Nat} (ht : P.underlying t = some (.slice e)) (hi : P.info? e = some i) (hz : i.zero = some z) (hsize : i.size = 1) (hby : i.bytes = bytes) (hzs : z.cells = #[z])
    {kl kc : IntKind} {L C : Int} {n : Nat} (hL : L = (n : Int)) (hC : C = (n : Int)) (b2 : bytes * n ≤ 281474976710656) (b3 : n ≤ 9223372036854775807)
    (h : ∀ w', blk w' w.heap.size e (List.replicate n z) → Below w.heap.size w w' → w'.heap.size = w.heap.size + 1 → K (.slice (some ⟨w.heap.size, 0, none⟩) n n) w') : mkS P t (.int kl L) (.int kc C) K w := by
  subst hC
  subst hL
  have hrun := run_make (P := P) w t e i z ht hi hz kl kc n n (by omega) (by omega) (by rw [hby]; omega) (by omega)
  rw [hsize, hzs] at hrun
  have hm : madeCells #[z] (((n : Int)).toNat * 1) = (List.replicate n z).toArray := by
    have := toList_madeCells_one z n
    rw [← this]; simp
  rw [hm] at hrun
  unfold mkS
  exact okV_of hrun (h _ (heap_alloc_new w _) (below_of_grown (World.grownBy_alloc _ _ none) (Nat.le_refl _) (fun k hk => by cases hk)) (by simp))
end
section
variable {P : Program} {t : TypeId} {w : World} {K : KV} {cx cy : Bool}

theorem idx_cell {e : TypeId} (ht : P.underlying t = some (.slice e)) (hs : ∀ w, (sizeOf e).run P w = .ok 1 w) {av : Option Addr} {n c : Nat} {iv : Int} {k : IntKind} {vs : List Value} {v : Value} (hr : RV w av n c vs)
    (h0 : 0 ≤ iv) (hv : vs[iv.toNat]? = some v) (h : w.cell? (slotA av iv.toNat) = some v → K (.pointer (some (slotA av iv.toNat))) w) : idxA P t (.slice av n c) (.int k iv) K w := by
  have hl := (List.getElem?_eq_some_iff.1 hv).1
  exact idx_slc ht hs h0 (by rw [← hr.len]; omega) hr.some_ (h (hr.cell _ _ hv))

theorem bin_neqBF {p q : Prop} [Decidable p] [Decidable q] (hg : P.underlying t = some .bool) (hpq : p ↔ q) (h : K (.bool false) w) : bin P .neq t cx cy (.bool (decide p)) (.bool (decide q)) K w := by
  refine bin_neqB ?_ hg
  have : decide p = decide q := decide_eq_decide.2 hpq
  rw [this]; simpa using h
theorem bin_neqBS {x y : Bool} (hg : P.underlying t = some .bool) (hxy : x = y) (h : K (.bool false) w) : bin P .neq t cx cy (.bool x) (.bool y) K w := by
  refine bin_neqB ?_ hg
  rw [hxy]; simpa using h
end
end Go.Proofs.YtfjafbbalohmhaaGreatDoor
/- What several texts share: pointers, slices of bytes and rows that a change keeps. -/
namespace Go.Proofs.YtfjafbbalohmhaaGreatDoor
set_option maxRecDepth 100000
open Go.RowKit
abbrev ptr (b : Nat) : Value := .pointer (some ⟨b, 0, none⟩)
theorem size_int : ∀ w, (sizeOf 3).run Tryz.prog w = .ok 1 w := fun _ => by kernel_rfl
theorem RV.drew {w : World} {a : Option Addr} {n c : Nat} {xs : List Value} (h : RV w a n c xs) : RV w.drew a n c xs := ⟨h.len, h.cap, h.some_, h.nil_, h.cell⟩
theorem RB.drew {w : World} {a : Option Addr} {n c : Nat} {xs : List UInt8} (h : RB w a n c xs) : RB w.drew a n c xs := RV.drew h
theorem ownsRow_keep {T : List TypeId} {B B2 : Nat} {w w' : World} {E : TypeId} {s : Nat} {v : Value} {n : Nat} {xs : List Value} (h : w.ownsRow B2 E s v n xs) (hk : Keep T B w w') (hE : E ∉ T) : w'.ownsRow B2 E s v n xs := by
  refine ⟨h.1, ?_⟩
  rcases h.2 with h2 | ⟨g, cap, cur, hv, hb, hh, r⟩
  · exact .inl h2
  · exact .inr ⟨g, cap, cur, hv, hb, hk.block _ _ hh (.inr fun cs E' z e => by cases e; exact hE), r⟩
theorem OB.keep {T : List TypeId} {B B2 : Nat} {w w' : World} {a : Option Addr} {n c : Nat} {l : List UInt8} (h : OB w B2 a n c l) (hk : Keep T B w w') (hT : 5 ∉ T) : OB w' B2 a n c l := ownsRow_keep h hk hT
end Go.Proofs.YtfjafbbalohmhaaGreatDoor
/- The step of bytes (trace.Get). -/
namespace Go.Proofs.YtfjafbbalohmhaaGreatDoor
set_option maxRecDepth 100000
open Go.RowKit

/-- Where one reads, and whether it is spoilt. -/
abbrev EyS := Nat × Bool
def gtE (b : List UInt8) (st : EyS) (k : Nat) : Nat × EyS := if st.2 = false ∧ st.1 + k ≤ b.length then (beNat ((b.drop st.1).take k), (st.1 + k, false)) else (0, (st.1, true))
theorem gtE_le {b : List UInt8} {st : EyS} {k : Nat} (h : st.1 ≤ b.length) : (gtE b st k).2.1 ≤ b.length := by
  unfold gtE
  split
  · rename_i hh; exact hh.2
  · exact h
theorem gtE_lt {b : List UInt8} {st : EyS} {k : Nat} : (gtE b st k).1 < 256 ^ k := by
  unfold gtE
  split
  · rename_i hh
    have := beNat_lt ((b.drop st.1).take k)
    rwa [show ((b.drop st.1).take k).length = k by rw [List.length_take, List.length_drop]; omega] at this
  · exact Nat.pow_pos (by omega)
def amI (x : Nat) : Int := IntKind.i64.wrap (IntKind.u64.wrap ((x : Int) - 1))
/-- So many picks. -/
def pksE (b : List UInt8) : Nat → EyS → List Int × EyS
  | 0, st => ([], st)
  | n + 1, st => match st.2 with
    | true => ([], st)
    | false => ((((gtE b st 1).1 : Int) - 1) :: (pksE b n (gtE b st 1).2).1, (pksE b n (gtE b st 1).2).2)
structure Rds where
  d : Nat
  who : Nat
  j : Nat
  k : Nat
  n : Nat
  kind : Nat
  node : Nat
  to : Nat
  am : Nat
  req : Nat
  of_ : Nat
  cnt : Nat
  st : EyS
def rdsT (b : List UInt8) (s0 : EyS) : Rds :=
  let r1 := gtE b s0 1
  let r2 := gtE b r1.2 2
  let r3 := gtE b r2.2 2
  let r4 := gtE b r3.2 2
  let r5 := gtE b r4.2 4
  let r6 := gtE b r5.2 1
  let r7 := gtE b r6.2 8
  let r8 := gtE b r7.2 2
  let r9 := gtE b r8.2 8
  let r10 := gtE b r9.2 8
  let r11 := gtE b r10.2 8
  let r12 := gtE b r11.2 1
  ⟨r1.1, r2.1, r3.1, r4.1, r5.1, r6.1, r7.1, r8.1, r9.1, r10.1, r11.1, r12.1, r12.2⟩
def stpT (r : Rds) (l : List Int) : STP := ⟨r.d, (r.who : Int) - 1, r.kind, r.node, (r.to : Int) - 1, amI r.am, r.req, r.of_, (r.k : Int) - 1, (r.j : Int) - 1, (r.n : Int) - 1, l⟩
def getP (b : List UInt8) : Option STP :=
  let r := rdsT b (0, false)
  let q := pksE b r.cnt r.st
  if q.2.2 = false ∧ q.2.1 = b.length ∧ mayT (stpT r q.1) = true then some (stpT r q.1) else none
/-- The step of nothing. -/
def stp0 : List Value := [.int .u8 0, i6 0, .int .u8 0, .int .u64 0, i6 0, i6 0, .int .u64 0, .int .u64 0, i6 0, i6 0, i6 0, .slice none 0 0]
theorem fA_Eye_0 {w : World} {K : KV} {b o : Nat} (h : K (.pointer (some ⟨b, o + 0, none⟩)) w) : fldA Tryz.prog 75 (.pointer (some ⟨b, o, none⟩)) 0 K w := fldA_of (by kernel_rfl) h
theorem fA_Eye_1 {w : World} {K : KV} {b o : Nat} (h : K (.pointer (some ⟨b, o + 1, none⟩)) w) : fldA Tryz.prog 75 (.pointer (some ⟨b, o, none⟩)) 1 K w := fldA_of (by kernel_rfl) h
theorem fA_Eye_2 {w : World} {K : KV} {b o : Nat} (h : K (.pointer (some ⟨b, o + 2, none⟩)) w) : fldA Tryz.prog 75 (.pointer (some ⟨b, o, none⟩)) 2 K w := fldA_of (by kernel_rfl) h
theorem ld_EL_0 {w : World} {K : KV} {b o : Nat} {E : TypeId} {cs : List Value} (v : Value) (hb : blk w b E cs) (ho : cs[o]? = some v) (h : K v w) : ld Tryz.prog 28 (.pointer (some ⟨b, o, none⟩)) K w := ld1 (fun _ => by kernel_rfl) hb ho h
theorem ld_EL_1 {w : World} {K : KV} {b o : Nat} {E : TypeId} {cs : List Value} (v : Value) (hb : blk w b E cs) (ho : cs[o]? = some v) (h : K v w) : ld Tryz.prog 4 (.pointer (some ⟨b, o, none⟩)) K w := ld1 (fun _ => by kernel_rfl) hb ho h
attribute [local irreducible] bin un conv call callV blt slc fldA fld idxA idx lkp mUpd mEnt eSt rng nxt ent ext alc box bld bldS ld sto nilC mkMap mkS ifc pick rdy wts gsel sti cond retM Gives cCode cGrp cSeq cOp
section
variable {w : World} {K : KV}
theorem takeS_get {b : List UInt8} {i k : Nat} (hk : k = 1 ∨ k = 2 ∨ k = 4 ∨ k = 8) (hi : i ≤ b.length) :
    takeS b i k = if i + k ≤ b.length then (beNat ((b.drop i).take k), (i : Int) + k, 0) else (0, 0, 5) := by
  have hw : widthOf (k : Int) ≠ 0 := by rcases hk with rfl | rfl | rfl | rfl <;> decide
  unfold takeS
  rw [if_neg (by simp [hw]; omega)]
  by_cases h : i + k ≤ b.length
  · rw [if_neg (by omega), if_pos h, Int.toNat_natCast, Int.toNat_natCast]
  · rw [if_pos (by omega), if_neg h]
def eyC (a : Option Addr) (n c : Nat) (st : EyS) : List Value := [.slice a n c, i6 st.1, .bool st.2]
theorem eget_c {p : Nat} {a : Option Addr} {n c : Nat} {b : List UInt8} {st : EyS} {kk : Int} (k : Nat) (hp : blk w p 75 (eyC a n c st)) (hr : RB w a n c b) (hn : n ≤ 9223372036854775807) (hat : st.1 ≤ b.length) (hk : k = 1 ∨ k = 2 ∨ k = 4 ∨ k = 8) (hkk : kk = (k : Int))
    (h : ∀ w', blk w' p 75 (eyC a n c (gtE b st k).2) → Oth p w w' → K (.int .u64 ((gtE b st k).1 : Nat)) w') : call Tryz.prog 29 #[.pointer (some ⟨p, 0, none⟩), .int .i64 kk] K w := by
  subst hkk
  obtain ⟨i, sp⟩ := st
  have hlen := hr.len
  have hrd : RB w.drew a n c b := RV.drew hr
  refine call_of trace_eye_get_go (trace_eye_get_in ?_)
  refine hReg_of (fun x => blk x p 75 (eyC a n c (i, sp)) ∧ RB x a n c b) ⟨hp, hrd⟩ ?_
  refine hld_of (fun x hx K hK => nilC_p hK) ?_
  refine hld_of (fun x hx K hK => fA_Eye_0 hK) ?_
  refine hld_of (v := .slice a n c) (fun x hx K hK => ld1 (fun _ => by kernel_rfl) hx.1 rfl hK) ?_
  refine hld_of (fun x hx K hK => nilC_p hK) ?_
  refine hld_of (fun x hx K hK => fA_Eye_1 hK) ?_
  refine hld_of (v := i6 i) (fun x hx K hK => ld1 (fun _ => by kernel_rfl) hx.1 rfl hK) ?_
  unfold i6
  refine take_c hrd hn ?_
  have hpd : blk w.drew p 75 (eyC a n c (i, sp)) := hp
  refine hReg_of (fun _ => True) trivial ?_
  refine hld_of (fun x hx K hK => ext3_a hK) ?_
  refine hld_of (fun x hx K hK => ext3_b hK) ?_
  refine hld_of (fun x hx K hK => ext3_c hK) ?_
  refine nilC_p ?_
  refine fA_Eye_2 ?_
  refine ld1 (v := .bool sp) (fun _ => by kernel_rfl) hpd rfl ?_
  have hat : i ≤ b.length := hat
  rw [takeS_get hk hat]
  have bad : (gtE b (i, sp) k) = (0, (i, true)) → (∀ w', blk w' p 75 (eyC a n c (i, true)) → Oth p w.drew w' → K (.int .u64 0) w') := by
    intro hq w' h1 h2
    rw [hq] at h
    exact h w' h1 ⟨h2.os, h2.tape, h2.output, h2.size, h2.other⟩
  have stop : (gtE b (i, sp) k) = (0, (i, true)) → nilC (.pointer (some ⟨p, 0, none⟩)) (fun t31 w => fldA Tryz.prog 75 t31 2 (fun t32 w => sto Tryz.prog 4 t32 (.bool true) (fun _t w => K (.int .u64 0) w) w) w) w.drew := by
    intro hq
    refine nilC_p ?_
    refine fA_Eye_2 ?_
    refine sto1 (fun _ => by kernel_rfl) hpd (by simp [eyC]) rfl ?_
    intro w' h1 h2
    exact bad hq w' h1 h2
  cases sp with
  | true =>
    refine gsel_Tn ?_
    refine pick_T ?_
    refine cond_T ?_
    exact stop (by simp [gtE])
  | false =>
    refine gsel_Fn ?_
    by_cases hf : i + k ≤ b.length
    · rw [if_pos hf]
      refine bin_neq ?_
      refine pick_F ?_
      refine cond_f (by simp) ?_
      refine nilC_p ?_
      refine fA_Eye_1 ?_
      refine sto1 (fun _ => by kernel_rfl) hpd (by simp [eyC]) rfl ?_
      intro w' h1 h2
      have hq : gtE b (i, false) k = (beNat ((b.drop i).take k), (i + k, false)) := by simp [gtE, hf]
      rw [hq] at h
      exact h w' h1 ⟨h2.os, h2.tape, h2.output, h2.size, h2.other⟩
    · rw [if_neg hf]
      refine bin_neq ?_
      refine pick_F ?_
      refine cond_t (by simp) ?_
      exact stop (by simp [gtE, hf])
theorem eless_c {p : Nat} {a : Option Addr} {n c : Nat} {b : List UInt8} {st : EyS} {kk : Int} (k : Nat) (hp : blk w p 75 (eyC a n c st)) (hr : RB w a n c b) (hn : n ≤ 9223372036854775807) (hat : st.1 ≤ b.length) (hk : k = 1 ∨ k = 2 ∨ k = 4) (hkk : kk = (k : Int))
    (h : ∀ w', blk w' p 75 (eyC a n c (gtE b st k).2) → Oth p w w' → K (i6 (((gtE b st k).1 : Int) - 1)) w') : call Tryz.prog 30 #[.pointer (some ⟨p, 0, none⟩), .int .i64 kk] K w := by
  refine call_of trace_eye_less_go (trace_eye_less_in ?_)
  refine eget_c k hp hr hn hat (by omega) hkk ?_
  intro w' h1 h2
  have hlt := gtE_lt (b := b) (st := st) (k := k)
  have : (gtE b st k).1 < 4294967296 := Nat.lt_of_lt_of_le hlt (by rcases hk with rfl | rfl | rfl <;> decide)
  refine cvUI (by omega) (by omega) ?_
  refine sub64 (by omega) (by omega) ?_
  exact h w' h1 h2
end
end Go.Proofs.YtfjafbbalohmhaaGreatDoor
/- Plain laws of numbers as bytes. -/
namespace Go.Proofs.YtfjafbbalohmhaaGreatDoor
set_option maxRecDepth 100000

theorem beBytes_less (x y : Nat) : ∀ s, Op.bytesLess (beBytes x s) (beBytes y s) = decide (x % 256 ^ s < y % 256 ^ s) ∧ (beBytes x s = beBytes y s ↔ x % 256 ^ s = y % 256 ^ s) := by
  intro s
  induction s with
  | zero => simp [beBytes, Op.bytesLess, Nat.mod_one]
  | succ k ih =>
    obtain ⟨i1, i2⟩ := ih
    have hx := Nat.mod_pow_succ (b := 256) (k := k) (x := x)
    have hy := Nat.mod_pow_succ (b := 256) (k := k) (x := y)
    have lx : x % 256 ^ k < 256 ^ k := Nat.mod_lt _ (Nat.pow_pos (by omega))
    have ly : y % 256 ^ k < 256 ^ k := Nat.mod_lt _ (Nat.pow_pos (by omega))
    have bx : (UInt8.ofNat (x / 256 ^ k)).toNat = x / 256 ^ k % 256 := by simp
    have bY : (UInt8.ofNat (y / 256 ^ k)).toNat = y / 256 ^ k % 256 := by simp
    have e1 : UInt8.ofNat (x / 256 ^ k) < UInt8.ofNat (y / 256 ^ k) ↔ x / 256 ^ k % 256 < y / 256 ^ k % 256 := by rw [UInt8.lt_iff_toNat_lt, bx, bY]
    have e2 : UInt8.ofNat (x / 256 ^ k) = UInt8.ofNat (y / 256 ^ k) ↔ x / 256 ^ k % 256 = y / 256 ^ k % 256 := by rw [← UInt8.toNat_inj, bx, bY]
    simp only [beBytes, Op.bytesLess, List.cons.injEq]
    rw [i1, i2, e2, hx, hy]
    have e3 : (UInt8.ofNat (x / 256 ^ k) == UInt8.ofNat (y / 256 ^ k)) = decide (x / 256 ^ k % 256 = y / 256 ^ k % 256) := by
      by_cases hh : x / 256 ^ k % 256 = y / 256 ^ k % 256
      · rw [decide_eq_true hh, beq_iff_eq]; exact e2.2 hh
      · rw [decide_eq_false hh, beq_eq_false_iff_ne]; exact fun h => hh (e2.1 h)
    rw [e3]
    generalize x / 256 ^ k % 256 = dx at *
    generalize y / 256 ^ k % 256 = dy at *
    generalize x % 256 ^ k = rx at *
    generalize y % 256 ^ k = ry at *
    generalize 256 ^ k = B at *
    rcases Nat.lt_trichotomy dx dy with hd | hd | hd
    · have h1 := Nat.mul_le_mul_left B (show dx + 1 ≤ dy from hd)
      rw [Nat.mul_add, Nat.mul_one] at h1
      rw [decide_eq_true (e1.2 hd), decide_eq_true (show rx + B * dx < ry + B * dy by omega)]
      exact ⟨rfl, fun h => absurd h.1 (by omega), fun h => by omega⟩
    · subst hd
      have hn : ¬ UInt8.ofNat (x / B) < UInt8.ofNat (y / B) := fun h => by have := e1.1 h; omega
      rw [decide_eq_false hn]
      refine ⟨?_, ?_, ?_⟩
      · simp only [Bool.false_or, decide_true, Bool.true_and]
        exact decide_eq_decide.2 (by omega)
      · intro h; rw [h.2]
      · intro h; exact ⟨rfl, by omega⟩
    · have h1 := Nat.mul_le_mul_left B (show dy + 1 ≤ dx from hd)
      rw [Nat.mul_add, Nat.mul_one] at h1
      have hn : ¬ UInt8.ofNat (x / B) < UInt8.ofNat (y / B) := fun h => by have := e1.1 h; omega
      rw [decide_eq_false hn, decide_eq_false (show ¬ dx = dy by omega), decide_eq_false (show ¬ rx + B * dx < ry + B * dy by omega)]
      exact ⟨rfl, fun h => absurd h.1 (by omega), fun h => by omega⟩

theorem foldl_be (l : List UInt8) : ∀ n : Nat, l.foldl (fun n c => n * 256 + c.toNat) n = n * 256 ^ l.length + l.foldl (fun n c => n * 256 + c.toNat) 0 := by
  induction l with
  | nil => intro n; simp
  | cons c r ih =>
    intro n
    simp only [List.foldl_cons, List.length_cons]
    rw [ih (n * 256 + c.toNat), ih (0 * 256 + c.toNat)]
    rw [Nat.pow_succ, Nat.add_mul, Nat.add_mul, Nat.mul_assoc, Nat.mul_comm (256 ^ r.length) 256]
    omega
theorem beNat_cons (c : UInt8) (l : List UInt8) : beNat (c :: l) = c.toNat * 256 ^ l.length + beNat l := by
  unfold beNat
  rw [List.foldl_cons, foldl_be]
  simp
theorem beNat_be (x : Nat) : ∀ k, beNat (beBytes x k) = x % 256 ^ k := by
  intro k
  induction k with
  | zero => simp [beBytes, beNat, Nat.mod_one]
  | succ k ih =>
    rw [beBytes, beNat_cons, ih, beBytes_len, Nat.mod_pow_succ]
    have : (UInt8.ofNat (x / 256 ^ k)).toNat = x / 256 ^ k % 256 := by simp
    rw [this, Nat.mul_comm]
    omega
theorem be_beNat (l : List UInt8) : beBytes (beNat l) l.length = l := by
  induction l with
  | nil => rfl
  | cons c r ih =>
    have hlt := beNat_lt r
    have hB : 0 < 256 ^ r.length := Nat.pow_pos (by omega)
    rw [List.length_cons, beBytes, beNat_cons]
    have h1 : (c.toNat * 256 ^ r.length + beNat r) / 256 ^ r.length = c.toNat := by
      rw [Nat.mul_comm, Nat.mul_add_div hB, Nat.div_eq_of_lt hlt]; rfl
    have h2 : beBytes (c.toNat * 256 ^ r.length + beNat r) r.length = beBytes (beNat r) r.length := by
      refine (beBytes_less _ _ _).2.2 ?_
      rw [Nat.mul_comm, Nat.mul_add_mod]
    rw [h1, h2, ih]
    simp

theorem take_mid {α : Type} (pre x suf : List α) : ((pre ++ x ++ suf).drop pre.length).take x.length = x := by
  rw [List.append_assoc, List.drop_left, List.take_left]

theorem takeS_at {pre suf : List UInt8} {x k : Nat} (hk : k = 1 ∨ k = 2 ∨ k = 4 ∨ k = 8) : takeS (pre ++ beBytes x k ++ suf) pre.length k = (x % 256 ^ k, (pre.length : Int) + k, 0) := by
  have hw : widthOf (k : Int) ≠ 0 := by rcases hk with rfl | rfl | rfl | rfl <;> decide
  have hl : (pre ++ beBytes x k ++ suf).length = pre.length + k + suf.length := by simp [beBytes_len, Nat.add_assoc]
  have h3 : ((pre ++ beBytes x k ++ suf).drop (pre.length : Int).toNat).take (k : Int).toNat = beBytes x k := by
    have := take_mid pre (beBytes x k) suf
    rw [beBytes_len] at this
    simpa using this
  unfold takeS
  rw [if_neg (by rw [hl]; omega), if_neg (by rw [hl]; omega), h3, beNat_be]
end Go.Proofs.YtfjafbbalohmhaaGreatDoor
/- Plain laws of a step's bytes: what is put is got; which bytes are a step's. -/
namespace Go.Proofs.YtfjafbbalohmhaaGreatDoor
set_option maxRecDepth 100000

def rd (b : List UInt8) : List Nat → EyS → List Nat × EyS
  | [], st => ([], st)
  | k :: ks, st => ((gtE b st k).1 :: (rd b ks (gtE b st k).2).1, (rd b ks (gtE b st k).2).2)
def ksT : List Nat := [1, 2, 2, 2, 4, 1, 8, 2, 8, 8, 8, 1]
def valsT (r : Rds) : List Nat := [r.d, r.who, r.j, r.k, r.n, r.kind, r.node, r.to, r.am, r.req, r.of_, r.cnt]
theorem rds_rd (b : List UInt8) (s0 : EyS) : rd b ksT s0 = (valsT (rdsT b s0), (rdsT b s0).st) := by
  unfold rdsT valsT ksT
  simp only [rd]
structure RdsLt (r : Rds) : Prop where
  d : r.d < 256 ^ 1
  kind : r.kind < 256 ^ 1
  cnt : r.cnt < 256 ^ 1
  node : r.node < 256 ^ 8
  am : r.am < 256 ^ 8
  req : r.req < 256 ^ 8
  of_ : r.of_ < 256 ^ 8
theorem rds_lt (b : List UInt8) (s0 : EyS) : RdsLt (rdsT b s0) := by
  unfold rdsT
  exact ⟨gtE_lt, gtE_lt, gtE_lt, gtE_lt, gtE_lt, gtE_lt, gtE_lt⟩
attribute [local irreducible] rdsT
theorem stpT_w (b : List UInt8) (l : List Int) : STW (stpT (rdsT b (0, false)) l) := by
  have h := rds_lt b (0, false)
  have h1 := h.d
  have h2 := h.kind
  have h3 := h.node
  have h4 := h.req
  have h5 := h.of_
  exact ⟨by simp only [stpT]; omega, by simp only [stpT]; omega, by simp only [stpT]; omega, by simp only [stpT]; omega, by simp only [stpT]; omega⟩
def encL (l : List (Nat × Nat)) : List UInt8 := l.flatMap fun q => beBytes q.1 q.2
theorem gtE_sp (b : List UInt8) (i k : Nat) : gtE b (i, true) k = (0, (i, true)) := by simp [gtE]
theorem rd_sp (b : List UInt8) : ∀ (ks : List Nat) (i : Nat), (rd b ks (i, true)).2.2 = true
  | [], i => rfl
  | k :: ks, i => by
    show (rd b ks (gtE b (i, true) k).2).2.2 = true
    rw [gtE_sp]
    exact rd_sp b ks i
theorem gtE_at {pre suf : List UInt8} {x k : Nat} : gtE (pre ++ beBytes x k ++ suf) (pre.length, false) k = (x % 256 ^ k, (pre.length + k, false)) := by
  unfold gtE
  rw [if_pos ⟨rfl, by simp [beBytes_len]⟩]
  have := take_mid pre (beBytes x k) suf
  rw [beBytes_len] at this
  simp only
  rw [this, beNat_be]
theorem rd_enc : ∀ (l : List (Nat × Nat)) (pre suf : List UInt8), rd (pre ++ encL l ++ suf) (l.map (·.2)) (pre.length, false) = (l.map (fun q => q.1 % 256 ^ q.2), (pre.length + (l.map (·.2)).sum, false))
  | [], pre, suf => by simp [rd]
  | (x, k) :: l, pre, suf => by
    have e1 : pre ++ encL ((x, k) :: l) ++ suf = pre ++ beBytes x k ++ (encL l ++ suf) := by simp [encL, List.append_assoc]
    have e2 : pre ++ encL ((x, k) :: l) ++ suf = (pre ++ beBytes x k) ++ encL l ++ suf := by simp [encL, List.append_assoc]
    have hg : gtE (pre ++ encL ((x, k) :: l) ++ suf) (pre.length, false) k = (x % 256 ^ k, (pre.length + k, false)) := by rw [e1]; exact gtE_at
    have hr := rd_enc l (pre ++ beBytes x k) suf
    rw [← e2, List.length_append, beBytes_len] at hr
    simp only [List.map_cons, rd, hg, hr, List.sum_cons]
    rw [Nat.add_assoc]
theorem gtE_back {b : List UInt8} {i k : Nat} (h : (gtE b (i, false) k).2.2 = false) : i + k ≤ b.length ∧ gtE b (i, false) k = (beNat ((b.drop i).take k), (i + k, false)) ∧ beBytes (gtE b (i, false) k).1 k = (b.drop i).take k := by
  unfold gtE at *
  by_cases hh : i + k ≤ b.length
  · rw [if_pos ⟨rfl, hh⟩]
    refine ⟨hh, rfl, ?_⟩
    have := be_beNat ((b.drop i).take k)
    rwa [show ((b.drop i).take k).length = k by rw [List.length_take, List.length_drop]; omega] at this
  · rw [if_neg (fun hq => hh hq.2)] at h; cases h
theorem rd_back {b : List UInt8} : ∀ (ks : List Nat) (i : Nat), i ≤ b.length → (rd b ks (i, false)).2.2 = false → (rd b ks (i, false)).2.1 = i + ks.sum ∧ i + ks.sum ≤ b.length ∧ encL ((rd b ks (i, false)).1.zip ks) = (b.drop i).take ks.sum
  | [], i, hi, _ => by simp [rd, encL, hi]
  | k :: ks, i, hi, h => by
    have h : (rd b ks (gtE b (i, false) k).2).2.2 = false := h
    have h0 : (gtE b (i, false) k).2.2 = false := by
      cases hq : (gtE b (i, false) k).2.2 with
      | false => rfl
      | true =>
        have e : (gtE b (i, false) k).2 = ((gtE b (i, false) k).2.1, true) := by rw [← hq]
        rw [e, rd_sp] at h; cases h
    obtain ⟨h1, h2, h3⟩ := gtE_back h0
    have e : (gtE b (i, false) k).2 = (i + k, false) := by rw [h2]
    rw [e] at h
    obtain ⟨k1, k2, k3⟩ := rd_back ks (i + k) h1 h
    refine ⟨?_, by simp; omega, ?_⟩
    · show (rd b ks (gtE b (i, false) k).2).2.1 = _
      rw [e, k1]; simp; omega
    · show encL (((gtE b (i, false) k).1 :: (rd b ks (gtE b (i, false) k).2).1).zip (k :: ks)) = _
      rw [e, List.zip_cons_cons]
      show beBytes (gtE b (i, false) k).1 k ++ encL ((rd b ks (i + k, false)).1.zip ks) = _
      rw [h3, k3, List.sum_cons, List.take_add, List.drop_drop]
theorem pks_enc {l : List Int} : ∀ (pre suf : List UInt8), l.all (inB (-1) 254) = true → pksE (pre ++ pkT l ++ suf) l.length (pre.length, false) = (l, (pre.length + l.length, false)) := by
  induction l with
  | nil => intro pre suf _; simp [pksE]
  | cons x l ih =>
    intro pre suf h
    rw [List.all_cons, Bool.and_eq_true] at h
    have hx := inB_iff.1 h.1
    have e1 : pre ++ pkT (x :: l) ++ suf = pre ++ beBytes (x + 1).toNat 1 ++ (pkT l ++ suf) := by simp [pkT, List.append_assoc]
    have e2 : pre ++ pkT (x :: l) ++ suf = (pre ++ beBytes (x + 1).toNat 1) ++ pkT l ++ suf := by simp [pkT, List.append_assoc]
    have hg : gtE (pre ++ pkT (x :: l) ++ suf) (pre.length, false) 1 = ((x + 1).toNat % 256 ^ 1, (pre.length + 1, false)) := by rw [e1]; exact gtE_at
    have hr := ih (pre ++ beBytes (x + 1).toNat 1) suf h.2
    rw [← e2, List.length_append, beBytes_len] at hr
    simp only [List.length_cons, pksE, hg, hr]
    refine Prod.ext ?_ (Prod.ext ?_ rfl)
    · simp only [List.cons.injEq, and_true]; omega
    · simp only; omega
theorem pks_back {b : List UInt8} : ∀ (m i : Nat), i ≤ b.length → (pksE b m (i, false)).2.2 = false → (pksE b m (i, false)).1.length = m ∧ (pksE b m (i, false)).2.1 = i + m ∧ i + m ≤ b.length ∧ pkT (pksE b m (i, false)).1 = (b.drop i).take m
  | 0, i, hi, _ => by simp [pksE, pkT, hi]
  | m + 1, i, hi, h => by
    have hp : pksE b (m + 1) (i, false) = ((((gtE b (i, false) 1).1 : Int) - 1) :: (pksE b m (gtE b (i, false) 1).2).1, (pksE b m (gtE b (i, false) 1).2).2) := rfl
    rw [hp] at h ⊢
    have h0 : (gtE b (i, false) 1).2.2 = false := by
      cases hq : (gtE b (i, false) 1).2.2 with
      | false => rfl
      | true =>
        have e : (gtE b (i, false) 1).2 = ((gtE b (i, false) 1).2.1, true) := by rw [← hq]
        rw [e] at h
        cases m <;> simp [pksE] at h
    obtain ⟨h1, h2, h3⟩ := gtE_back h0
    have e : (gtE b (i, false) 1).2 = (i + 1, false) := by rw [h2]
    rw [e] at h ⊢
    obtain ⟨k0, k1, k2, k3⟩ := pks_back m (i + 1) h1 h
    refine ⟨by simp [k0], by simp only; rw [k1]; omega, by omega, ?_⟩
    show beBytes ((((gtE b (i, false) 1).1 : Int) - 1) + 1).toNat 1 ++ pkT (pksE b m (i + 1, false)).1 = _
    rw [show (((((gtE b (i, false) 1).1 : Int) - 1) + 1).toNat) = (gtE b (i, false) 1).1 by omega, h3, k3]
    rw [show m + 1 = 1 + m by omega, List.take_add, List.drop_drop]
/-- The numbers of a step. -/
def numT (s : STP) : List (Nat × Nat) := [(s.d.toNat, 1), ((s.who + 1).toNat, 2), ((s.j + 1).toNat, 2), ((s.k + 1).toNat, 2), ((s.n + 1).toNat, 4), (s.kind.toNat, 1), (s.node.toNat, 8), ((s.to + 1).toNat, 2), ((s.am + 1).toNat, 8), (s.req.toNat, 8), (s.of_.toNat, 8), (s.picks.length, 1)]
theorem bdT_num (s : STP) : bdT s = encL (numT s) := by simp [bdT, hdT, encL, numT, List.append_assoc]
theorem wrap64 (n : Int) : IntKind.i64.wrap n = (n + 9223372036854775808) % 18446744073709551616 - 9223372036854775808 := by
  have e1 : ((2 : Int) ^ 64) = 18446744073709551616 := by decide
  have e2 : ((2 : Int) ^ 63) = 9223372036854775808 := by decide
  simp only [IntKind.wrap, IntKind.signed, IntKind.bits, Bool.true_and, decide_eq_true_eq, e1, e2, ge_iff_le]
  split <;> omega
theorem amI_of {x : Nat} {a : Int} (h1 : -1 ≤ a) (h2 : a ≤ 1152921504606846976) (hx : x = (a + 1).toNat) : amI x = a := by
  subst hx
  unfold amI
  rw [wrap_u64, wrap64]
  omega
theorem amI_back {x : Nat} (hx : x < 18446744073709551616) (h1 : -1 ≤ amI x) : (amI x + 1).toNat = x := by
  unfold amI at *
  rw [wrap_u64, wrap64] at *
  omega
/-- What is put is got, whatever stands behind. -/
theorem rds_put {s : STP} (hw : STW s) (hm : mayT s = true) (suf : List UInt8) : valsT (rdsT (putT s ++ suf) (0, false)) = (numT s).map (·.1) ∧ (rdsT (putT s ++ suf) (0, false)).st = (47, false) ∧ pksE (putT s ++ suf) s.picks.length (47, false) = (s.picks, (47 + s.picks.length, false)) ∧ (rdsT (putT s ++ suf) (0, false)).cnt = s.picks.length := by
  obtain ⟨⟨d1, d2⟩, k1, ⟨w1', w2'⟩, ⟨j1, j2⟩, ⟨kk1, kk2⟩, ⟨t1, t2⟩, ⟨n1, n2⟩, ⟨a1, a2⟩, p1, p2⟩ := mayT_iff.1 hm
  have hkd := hw.kind
  have hnd := hw.node
  have hrq := hw.req
  have hof := hw.of_
  have hp := putT_t hm
  have h1 := rd_enc (numT s) [] (pkT s.picks ++ suf)
  rw [← bdT_num, List.nil_append, List.length_nil] at h1
  have e1 : bdT s ++ (pkT s.picks ++ suf) = putT s ++ suf := by rw [hp, List.append_assoc]
  rw [e1] at h1
  have hks : (numT s).map (·.2) = ksT := rfl
  rw [hks, rds_rd] at h1
  have hv : (numT s).map (fun q => q.1 % 256 ^ q.2) = (numT s).map (·.1) := by
    simp only [numT, List.map_cons, List.map_nil, List.cons.injEq, and_true]
    refine ⟨?_, ?_, ?_, ?_, ?_, ?_, ?_, ?_, ?_, ?_, ?_, ?_⟩ <;> refine Nat.mod_eq_of_lt ?_ <;> omega
  rw [hv] at h1
  have hv2 := (Prod.mk.inj h1).1
  refine ⟨hv2, (Prod.mk.inj h1).2, ?_, ?_⟩
  · have h2 := pks_enc (bdT s) suf p2
    rw [bdT_len, ← hp] at h2
    exact h2
  · have := congrArg (fun l => l.getLast?) hv2
    simpa [valsT, numT] using this
theorem stpT_num {s : STP} {r : Rds} (hw : STW s) (hm : mayT s = true) (h : valsT r = (numT s).map (·.1)) : stpT r s.picks = s := by
  obtain ⟨⟨d1, d2⟩, k1, ⟨w1', w2'⟩, ⟨j1, j2⟩, ⟨kk1, kk2⟩, ⟨t1, t2⟩, ⟨n1, n2⟩, ⟨a1, a2⟩, p1, p2⟩ := mayT_iff.1 hm
  unfold valsT numT at h
  injection h with x1 h
  injection h with x2 h
  injection h with x3 h
  injection h with x4 h
  injection h with x5 h
  injection h with x6 h
  injection h with x7 h
  injection h with x8 h
  injection h with x9 h
  injection h with x10 h
  injection h with x11 h
  have hkd := hw.kind
  have hnd := hw.node
  have hrq := hw.req
  have hof := hw.of_
  have ham : amI r.am = s.am := amI_of a1 a2 x9
  clear x9 h p2 hm hw
  simp only at x1 x2 x3 x4 x5 x6 x7 x8 x10 x11
  have e1 : (r.d : Int) = s.d := by omega
  have e2 : (r.who : Int) - 1 = s.who := by omega
  have e3 : (r.kind : Int) = s.kind := by omega
  have e4 : (r.node : Int) = s.node := by omega
  have e5 : (r.to : Int) - 1 = s.to := by omega
  have e6 : (r.req : Int) = s.req := by omega
  have e7 : (r.of_ : Int) = s.of_ := by omega
  have e8 : (r.k : Int) - 1 = s.k := by omega
  have e9 : (r.j : Int) - 1 = s.j := by omega
  have e10 : (r.n : Int) - 1 = s.n := by omega
  unfold stpT
  rw [ham, e1, e2, e3, e4, e5, e6, e7, e8, e9, e10]
theorem getP_put {s : STP} (hw : STW s) (hm : mayT s = true) : getP (putT s) = some s := by
  obtain ⟨h1, h2, h3, h4⟩ := rds_put hw hm []
  rw [List.append_nil] at h1 h2 h3 h4
  have hlen := putT_len hm
  have hs := stpT_num hw hm h1
  unfold getP
  simp only
  rw [h4, h2, h3]
  rw [if_pos ⟨rfl, hlen.symm, by rw [hs]; exact hm⟩, hs]
/-- Only a step's bytes are got. -/
theorem put_got {b : List UInt8} {l : List Int} {st : EyS} (hq : pksE b (rdsT b (0, false)).cnt (rdsT b (0, false)).st = (l, st)) (hsp : st.2 = false) (hm : -1 ≤ amI (rdsT b (0, false)).am) :
    (rdsT b (0, false)).st = (47, false) ∧ l.length = (rdsT b (0, false)).cnt ∧ st.1 = 47 + l.length ∧ st.1 ≤ b.length ∧ bdT (stpT (rdsT b (0, false)) l) ++ pkT l = b.take st.1 := by
  have h0 : (rdsT b (0, false)).st.2 = false := by
    cases hq2 : (rdsT b (0, false)).st.2 with
    | false => rfl
    | true =>
      have e : (rdsT b (0, false)).st = ((rdsT b (0, false)).st.1, true) := by rw [← hq2]
      rw [e] at hq
      have : pksE b (rdsT b (0, false)).cnt ((rdsT b (0, false)).st.1, true) = ([], ((rdsT b (0, false)).st.1, true)) := by
        cases (rdsT b (0, false)).cnt <;> rfl
      rw [this] at hq
      cases hq
      cases hsp
  have hb := rd_back (b := b) ksT 0 (Nat.zero_le _) (by rw [rds_rd]; exact h0)
  rw [rds_rd] at hb
  obtain ⟨x1, x2, x3⟩ := hb
  have x1 : (rdsT b (0, false)).st.1 = 47 := x1
  have x2 : 47 ≤ b.length := x2
  have hst : (rdsT b (0, false)).st = (47, false) := Prod.ext x1 h0
  rw [hst] at hq
  have hpb := pks_back (b := b) (rdsT b (0, false)).cnt 47 x2 (by rw [hq]; exact hsp)
  rw [hq] at hpb
  obtain ⟨y1, y2, y3, y4⟩ := hpb
  have y1 : l.length = (rdsT b (0, false)).cnt := y1
  have y2 : st.1 = 47 + (rdsT b (0, false)).cnt := y2
  have y4 : pkT l = (b.drop 47).take (rdsT b (0, false)).cnt := y4
  refine ⟨hst, y1, by omega, by omega, ?_⟩
  have hamlt := (rds_lt b (0, false)).am
  have hnum : numT (stpT (rdsT b (0, false)) l) = (valsT (rdsT b (0, false))).zip ksT := by
    simp only [numT, stpT, valsT, ksT, List.zip_cons_cons, List.zip_nil_left, List.cons.injEq, Prod.mk.injEq, and_true]
    rw [amI_back (by simpa using hamlt) hm, y1]
    refine ⟨by omega, by omega, by omega, by omega, by omega, by omega, by omega, by omega, rfl, by omega, by omega, rfl⟩
  rw [bdT_num, hnum, x3, y4, y2]
  have hsum : ksT.sum = 47 := rfl
  rw [hsum, List.drop_zero, List.take_add]
theorem getP_some {b : List UInt8} {s : STP} (h : getP b = some s) : mayT s = true ∧ putT s = b ∧ STW s := by
  unfold getP at h
  simp only at h
  split at h
  · rename_i hh
    obtain ⟨h1, h2, h3⟩ := hh
    cases h
    generalize hq : pksE b (rdsT b (0, false)).cnt (rdsT b (0, false)).st = q at *
    obtain ⟨l, st⟩ := q
    have hm := (mayT_iff.1 h3)
    obtain ⟨g1, g2, g3, g4, g5⟩ := put_got hq h1 hm.2.2.2.2.2.2.2.1.1
    refine ⟨h3, ?_, ?_⟩
    · rw [putT_t h3]
      have h2 : st.1 = b.length := h2
      rw [h2, List.take_length] at g5
      exact g5
    · exact stpT_w b l
  · cases h
theorem pre_len {s s' : STP} (h : mayT s = true) (h' : mayT s' = true) (hp : putT s <+: putT s') : (putT s).length = (putT s').length := by
  rw [putT_len h, putT_len h']
  obtain ⟨suf, hs⟩ := hp
  rw [putT_t h, putT_t h'] at hs
  have h1 : bdT s = bdT s' := by
    have := congrArg (List.take 47) hs
    rw [List.append_assoc, List.take_append_of_le_length (by rw [bdT_len]; omega), List.take_append_of_le_length (by rw [bdT_len]; omega), List.take_of_length_le (by rw [bdT_len]; omega), List.take_of_length_le (by rw [bdT_len]; omega)] at this
    exact this
  have h2 := congrArg (fun l => l.drop 46) h1
  have e : ∀ z : STP, (bdT z).drop 46 = beBytes z.picks.length 1 := by
    intro z
    have hl : (bdT z).length = (bdT z).dropLast.length + 1 := by rw [List.length_dropLast, bdT_len]
    have hb : bdT z = (hdT z ++ beBytes (z.n + 1).toNat 4 ++ beBytes z.kind.toNat 1 ++ beBytes z.node.toNat 8 ++ beBytes (z.to + 1).toNat 2 ++ beBytes (z.am + 1).toNat 8 ++ beBytes z.req.toNat 8 ++ beBytes z.of_.toNat 8) ++ beBytes z.picks.length 1 := rfl
    rw [hb, List.drop_append_of_le_length (by simp [hdT_len, beBytes_len]), List.drop_of_length_le (by simp [hdT_len, beBytes_len]), List.nil_append]
  simp only [e] at h2
  have h3 := congrArg beNat h2
  rw [beNat_be, beNat_be] at h3
  have a1 := (mayT_iff.1 h).2.2.2.2.2.2.2.2.1
  have a2 := (mayT_iff.1 h').2.2.2.2.2.2.2.2.1
  omega
theorem getP_cut {s : STP} (hm : mayT s = true) {k : Nat} (hk : k < (putT s).length) : getP ((putT s).take k) = none := by
  cases hg : getP ((putT s).take k) with
  | none => rfl
  | some s' =>
    obtain ⟨h1, h2, _⟩ := getP_some hg
    have := pre_len h1 hm (by rw [h2]; exact List.take_prefix _ _)
    rw [h2, List.length_take] at this
    omega
theorem getP_more {s : STP} (hm : mayT s = true) {c : UInt8} : getP (putT s ++ [c]) = none := by
  cases hg : getP (putT s ++ [c]) with
  | none => rfl
  | some s' =>
    obtain ⟨h1, h2, _⟩ := getP_some hg
    have := pre_len hm h1 (by rw [h2]; exact List.prefix_append _ _)
    rw [h2] at this
    simp at this
/-- The document's answer. -/
def getR (b : List UInt8) : Option STP :=
  let r := rdsT b (0, false)
  let q := pksE b r.cnt r.st
  if q.2.2 = false ∧ b ≠ [] ∧ putT (stpT r q.1) = b then some (stpT r q.1) else none
theorem getR_eq (b : List UInt8) : getR b = getP b := by
  unfold getR getP
  simp only
  generalize hq : pksE b (rdsT b (0, false)).cnt (rdsT b (0, false)).st = q
  obtain ⟨l, st⟩ := q
  simp only
  have key : (st.2 = false ∧ b ≠ [] ∧ putT (stpT (rdsT b (0, false)) l) = b) ↔ (st.2 = false ∧ st.1 = b.length ∧ mayT (stpT (rdsT b (0, false)) l) = true) := by
    constructor
    · rintro ⟨hsp, hne, hp⟩
      have hm : mayT (stpT (rdsT b (0, false)) l) = true := by
        cases hq2 : mayT (stpT (rdsT b (0, false)) l) with
        | true => rfl
        | false =>
          unfold putT at hp
          rw [hq2] at hp
          exact absurd hp.symm hne
      obtain ⟨g1, g2, g3, g4, g5⟩ := put_got hq hsp (mayT_iff.1 hm).2.2.2.2.2.2.2.1.1
      have := congrArg List.length hp
      rw [putT_len hm] at this
      have hpk : (stpT (rdsT b (0, false)) l).picks = l := rfl
      rw [hpk] at this
      exact ⟨hsp, by omega, hm⟩
    · rintro ⟨hsp, hat, hm⟩
      obtain ⟨g1, g2, g3, g4, g5⟩ := put_got hq hsp (mayT_iff.1 hm).2.2.2.2.2.2.2.1.1
      refine ⟨hsp, ?_, ?_⟩
      · rintro rfl
        simp at g4
        omega
      · rw [putT_t hm]
        rw [hat, List.take_length] at g5
        exact g5
  by_cases hh : st.2 = false ∧ st.1 = b.length ∧ mayT (stpT (rdsT b (0, false)) l) = true
  · rw [if_pos hh, if_pos (key.2 hh)]
  · rw [if_neg hh, if_neg (fun h => hh (key.1 h))]
end Go.Proofs.YtfjafbbalohmhaaGreatDoor
/- From the statement's reading of an argument to the predicates of this seat's contracts; and from a contract to the kit's 'Calls'. -/
namespace Go.Proofs.YtfjafbbalohmhaaGreatDoor
set_option maxRecDepth 100000
open Go.ChangeShapes Go.WideShapes Go.ChangeAt Go.RowKit

theorem frame_own : ownKnob Tryz.prog.godebug = none := by kernel_rfl
theorem frame_laid : laidOutB Tryz.prog = true := by kernel_rfl

theorem calls_of {f : FuncId} {args : Array Value} {w : World} {R : World → Prop} (h : call Tryz.prog f args (fun v w' => v = .bool true ∧ R w') w) :
    Calls Tryz.prog f args w fun e w' => e = .returned (.bool true) ∧ R w' := by
  have h2 := h.2
  unfold Gives at h2
  refine Calls.mono h2 ?_
  rintro e w' ⟨v, rfl, rfl, hr⟩
  exact ⟨rfl, hr⟩

theorem add_slot {x : Addr} (hx : x.spot = none) (i : Nat) : x.add i = slotA (some x) i := by
  obtain ⟨b, o, s⟩ := x
  cases hx
  simp [Addr.add, slotA]

theorem rb_of_nums {w : World} {x : Addr} {len cap : Nat} {zs : List Int} (hl : len ≤ cap) (hz : zs.length = cap) (hcell : ∀ i, i < zs.length → w.cell? (x.add i) = some (.int .u8 (zs.getD i 0))) (hwz : ∀ n ∈ zs, (Lit.int .u8 n).wf = true) :
    RB w (some x) len cap ((zs.take len).map fun z => UInt8.ofNat z.toNat) := by
  have hsp : 0 < len → x.spot = none := by
    intro h0
    have := World.cell?_spot (hcell 0 (by omega))
    simpa [Addr.add] using this
  refine ⟨by simp; omega, hl, fun h0 => ⟨x.block, x.off, by have := hsp h0; obtain ⟨b, o, s⟩ := x; cases this; rfl⟩, (fun hh => by cases hh), fun i v hv => ?_⟩
  have hi : i < len := by
    have := (List.getElem?_eq_some_iff.1 hv).1
    simp at this; omega
  rw [← add_slot (hsp (by omega)), hcell i (by omega)]
  rw [List.getElem?_map, List.getElem?_map, List.getElem?_take_of_lt hi] at hv
  have hiz : i < zs.length := by omega
  rw [List.getElem?_eq_getElem hiz] at hv
  have hm := hwz zs[i] (List.getElem_mem hiz)
  have hx : 0 ≤ zs[i] ∧ zs[i] ≤ 255 := by simpa [Lit.wf, IntKind.min, IntKind.max, IntKind.signed, IntKind.bits] using hm
  simp only [Option.map_some, Option.some.injEq] at hv
  rw [← hv]
  simp only [List.getD, List.getElem?_eq_getElem hiz, Option.getD_some, u8v, UInt8.toNat_ofNat', Option.some.injEq, Value.int.injEq, true_and]
  omega

section
variable {H : Type} {enc : TypeId × Value → H} {W : World} {base : Nat} {held : Bool}

theorem rb_of_trod {fuel : Nat} {cs : List Value} {a : Option Addr} {n c : Nat} {x : DataW H × List MemPlace} (hc : cs = [.slice a n c])
    (hf : DataW.trod enc Tryz.prog W base (fun _ => true) held fuel 28 cs = some x) : (∃ l, RB W a n c l) ∧ n ≤ c ∧ c ≤ 9223372036854775807 := by
  rcases open_ints Tryz.underlying28 Tryz.underlying5 (by kernel_rfl) hf with ⟨hcs, _⟩ | ⟨x, l, c, zs, hcs, _, hl, hm, hz, _, hcell, hwz⟩
  · rw [hc] at hcs
    simp only [List.cons.injEq, Value.slice.injEq, and_true] at hcs
    obtain ⟨rfl, rfl, rfl⟩ := hcs
    exact ⟨⟨[], RV.nil W⟩, by omega, by omega⟩
  · rw [hc] at hcs
    simp only [List.cons.injEq, Value.slice.injEq, and_true] at hcs
    obtain ⟨rfl, rfl, rfl⟩ := hcs
    exact ⟨⟨_, rb_of_nums hl (by simpa using hz) hcell hwz⟩, hl, by simpa [maxLen] using hm⟩
end
end Go.Proofs.YtfjafbbalohmhaaGreatDoor
/- From the statement's reading of an argument to this layer's: a step. -/
namespace Go.Proofs.YtfjafbbalohmhaaGreatDoor
set_option maxRecDepth 100000
open Go.ChangeShapes Go.WideShapes Go.ChangeAt Go.RowKit

section
variable {H : Type} {enc : TypeId × Value → H} {W : World} {base : Nat} {held : Bool}

theorem rn_of_nums {w : World} {x : Addr} {len cap : Nat} {zs : List Int} (hl : len ≤ cap) (hz : zs.length = cap) (hcell : ∀ i, i < zs.length → w.cell? (x.add i) = some (.int .i64 (zs.getD i 0))) :
    RN w (some x) len cap (zs.take len) := by
  have hsp : 0 < len → x.spot = none := by
    intro h0
    have := World.cell?_spot (hcell 0 (by omega))
    simpa [Addr.add] using this
  refine ⟨by simp; omega, hl, fun h0 => ⟨x.block, x.off, by have := hsp h0; obtain ⟨b, o, s⟩ := x; cases this; rfl⟩, (fun hh => by cases hh), fun i v hv => ?_⟩
  have hi : i < len := by
    have := (List.getElem?_eq_some_iff.1 hv).1
    simp at this; omega
  rw [← add_slot (hsp (by omega)), hcell i (by omega)]
  have hiz : i < zs.length := by omega
  rw [List.getElem?_map, List.getElem?_take_of_lt hi, List.getElem?_eq_getElem hiz] at hv
  simp only [Option.map_some, Option.some.injEq] at hv
  rw [← hv]
  simp [List.getD, hiz, i6]

theorem rn_of_trod {fuel : Nat} {cs : List Value} {a : Option Addr} {n c : Nat} {x : DataW H × List MemPlace} (hc : cs = [.slice a n c])
    (hf : DataW.trod enc Tryz.prog W base (fun _ => true) held fuel 25 cs = some x) : (∃ l, RN W a n c l) ∧ n ≤ c ∧ c ≤ 9223372036854775807 := by
  rcases open_ints Tryz.underlying25 Tryz.underlying3 (by kernel_rfl) hf with ⟨hcs, _⟩ | ⟨x, l, c, zs, hcs, _, hl, hm, hz, _, hcell, hwz⟩
  · rw [hc] at hcs
    simp only [List.cons.injEq, Value.slice.injEq, and_true] at hcs
    obtain ⟨rfl, rfl, rfl⟩ := hcs
    exact ⟨⟨[], RV.nil W⟩, by omega, by omega⟩
  · rw [hc] at hcs
    simp only [List.cons.injEq, Value.slice.injEq, and_true] at hcs
    obtain ⟨rfl, rfl, rfl⟩ := hcs
    exact ⟨⟨_, rn_of_nums hl (by simpa using hz) hcell⟩, hl, by simpa [maxLen] using hm⟩
def i64r (x : Int) : Prop := -9223372036854775808 ≤ x ∧ x ≤ 9223372036854775807
/-- Its whole numbers are such. -/
structure STI (s : STP) : Prop where
  who : i64r s.who
  to : i64r s.to
  am : i64r s.am
  k : i64r s.k
  j : i64r s.j
  n : i64r s.n
theorem i64r_of {x : Int} (h : (Lit.int .i64 x).wf = true) : i64r x := by simpa [i64r, Lit.wf, IntKind.min, IntKind.max, IntKind.signed, IntKind.bits] using h
theorem u8r_of {x : Int} (h : (Lit.int .u8 x).wf = true) : 0 ≤ x ∧ x ≤ 255 := by simpa [Lit.wf, IntKind.min, IntKind.max, IntKind.signed, IntKind.bits] using h
theorem u64r_of {x : Int} (h : (Lit.int .u64 x).wf = true) : 0 ≤ x ∧ x ≤ 18446744073709551615 := by simpa [Lit.wf, IntKind.min, IntKind.max, IntKind.signed, IntKind.bits] using h
theorem open_step {fuel : Nat} {cs : List Value} {x : DataW H × List MemPlace} (h : DataW.trod enc Tryz.prog W base (fun _ => true) held fuel 27 cs = some x) :
    ∃ s a c, cs = stC s (.slice a s.picks.length c) ∧ STW s ∧ STI s ∧ RN W a s.picks.length c s.picks ∧ s.picks.length ≤ c ∧ c ≤ 9223372036854775807 := by
  obtain ⟨xs, n, rfl, rfl, hlen, hxl, hf⟩ := DataW.trod_struct Tryz.underlying27 h
  have h12 : cs.length = 12 := by rw [hlen]; kernel_rfl
  match cs, h12 with
  | [c0, c1, c2, c3, c4, c5, c6, c7, c8, c9, c10, c11], _ =>
    have hx7 : xs.length = 7 := hxl
    match xs, hx7 with
    | [x0, x1, x2, x3, x4, x5, x6], _ =>
      have h0 : DataW.trod enc Tryz.prog W base (fun _ => true) held n 5 [c0] = some x0 := Eq.mp (by kernel_rfl) (hf 0 _ rfl)
      have h1 : DataW.trod enc Tryz.prog W base (fun _ => true) held n 3 [c1] = some x1 := Eq.mp (by kernel_rfl) (hf 1 _ rfl)
      have h2 : DataW.trod enc Tryz.prog W base (fun _ => true) held n 24 [c2, c3, c4, c5, c6, c7] = some x2 := Eq.mp (by kernel_rfl) (hf 2 _ rfl)
      have h3 : DataW.trod enc Tryz.prog W base (fun _ => true) held n 3 [c8] = some x3 := Eq.mp (by kernel_rfl) (hf 3 _ rfl)
      have h4 : DataW.trod enc Tryz.prog W base (fun _ => true) held n 3 [c9] = some x4 := Eq.mp (by kernel_rfl) (hf 4 _ rfl)
      have h5 : DataW.trod enc Tryz.prog W base (fun _ => true) held n 3 [c10] = some x5 := Eq.mp (by kernel_rfl) (hf 5 _ rfl)
      have h6 : DataW.trod enc Tryz.prog W base (fun _ => true) held n 25 [c11] = some x6 := Eq.mp (by kernel_rfl) (hf 6 _ rfl)
      obtain ⟨z0, e0, _, w0⟩ := DataW.trod_int Tryz.underlying5 h0
      obtain ⟨z1, e1, _, w1⟩ := DataW.trod_int Tryz.underlying3 h1
      obtain ⟨z3, e3, _, w3⟩ := DataW.trod_int Tryz.underlying3 h3
      obtain ⟨z4, e4, _, w4⟩ := DataW.trod_int Tryz.underlying3 h4
      obtain ⟨z5, e5, _, w5⟩ := DataW.trod_int Tryz.underlying3 h5
      obtain ⟨ys, n2, rfl, rfl, hlen2, hyl, hg⟩ := DataW.trod_struct Tryz.underlying24 h2
      have hy6 : ys.length = 6 := hyl
      match ys, hy6 with
      | [y0, y1, y2, y3, y4, y5], _ =>
        have g0 : DataW.trod enc Tryz.prog W base (fun _ => true) held n2 5 [c2] = some y0 := Eq.mp (by kernel_rfl) (hg 0 _ rfl)
        have g1 : DataW.trod enc Tryz.prog W base (fun _ => true) held n2 22 [c3] = some y1 := Eq.mp (by kernel_rfl) (hg 1 _ rfl)
        have g2 : DataW.trod enc Tryz.prog W base (fun _ => true) held n2 3 [c4] = some y2 := Eq.mp (by kernel_rfl) (hg 2 _ rfl)
        have g3 : DataW.trod enc Tryz.prog W base (fun _ => true) held n2 2 [c5] = some y3 := Eq.mp (by kernel_rfl) (hg 3 _ rfl)
        have g4 : DataW.trod enc Tryz.prog W base (fun _ => true) held n2 22 [c6] = some y4 := Eq.mp (by kernel_rfl) (hg 4 _ rfl)
        have g5 : DataW.trod enc Tryz.prog W base (fun _ => true) held n2 22 [c7] = some y5 := Eq.mp (by kernel_rfl) (hg 5 _ rfl)
        obtain ⟨v0, f0, _, r0⟩ := DataW.trod_int Tryz.underlying5 g0
        obtain ⟨v1, f1, _, r1⟩ := DataW.trod_int Tryz.underlying22 g1
        obtain ⟨v2, f2, _, r2⟩ := DataW.trod_int Tryz.underlying3 g2
        obtain ⟨v3, f3, _, r3⟩ := DataW.trod_int Tryz.underlying2 g3
        obtain ⟨v4, f4, _, r4⟩ := DataW.trod_int Tryz.underlying22 g4
        obtain ⟨v5, f5, _, r5⟩ := DataW.trod_int Tryz.underlying22 g5
        obtain ⟨a, m, c, e11⟩ : ∃ a m c, c11 = .slice a m c := by
          rcases open_ints Tryz.underlying25 Tryz.underlying3 (by kernel_rfl) h6 with ⟨hcs, _⟩ | ⟨x, l, c, zs, hcs, _⟩
          · simp only [List.cons.injEq, and_true] at hcs; exact ⟨_, _, _, hcs⟩
          · simp only [List.cons.injEq, and_true] at hcs; exact ⟨_, _, _, hcs⟩
        obtain ⟨⟨l, hl⟩, hle, hmx⟩ := rn_of_trod (congrArg (fun z => [z]) e11) h6
        simp only [List.cons.injEq, and_true] at e0 e1 e3 e4 e5 f0 f1 f2 f3 f4 f5
        subst e0 e1 e3 e4 e5 f0 f1 f2 f3 f4 f5 e11
        have hll : l.length = m := by simpa using hl.len
        subst hll
        exact ⟨⟨z0, z1, v0, v1, v2, v3, v4, v5, z3, z4, z5, l⟩, a, c, rfl, ⟨u8r_of w0, u8r_of r0, u64r_of r1, u64r_of r4, u64r_of r5⟩, ⟨i64r_of w1, i64r_of r2, i64r_of r3, i64r_of w3, i64r_of w4, i64r_of w5⟩, hl, hle, hmx⟩
end
end Go.Proofs.YtfjafbbalohmhaaGreatDoor
/- The step of bytes (trace.Get), whole. -/
namespace Go.Proofs.YtfjafbbalohmhaaGreatDoor
set_option maxRecDepth 100000
open Go.RowKit
/-- Where Get stands: the eye, the step so far, the result. -/
structure GS (w0 w : World) (p q r : Nat) (a : Option Addr) (n c : Nat) (b : List UInt8) (st : EyS) (cs : List Value) : Prop where
  ey : blk w p 75 (eyC a n c st)
  sp : blk w q 27 cs
  rs : blk w r 27 stp0
  at_ : st.1 ≤ b.length
  bel : Below w0.heap.size w0 w
  rb : RB w0 a n c b
  pq : p ≠ q
  rp : r ≠ p
  rq : r ≠ q
  lp : w0.heap.size ≤ p
  lq : w0.heap.size ≤ q
theorem oth_blk {p b : Nat} {w w' : World} {E : TypeId} {cs : List Value} (h : Oth p w w') (hb : blk w b E cs) (hne : b ≠ p) : blk w' b E cs := by
  unfold blk; rw [h.other b hne]; exact hb
theorem oth_below {p B : Nat} {w0 w w' : World} (hb : Below B w0 w) (h : Oth p w w') (hB : B ≤ p) : Below B w0 w' := ⟨h.os.trans hb.os, h.tape.trans hb.tape, h.output.trans hb.output, by rw [h.size]; exact hb.size, fun k hk => by rw [h.other k (by omega)]; exact hb.block k hk⟩
attribute [local irreducible] bin un conv call callV blt slc fldA fld idxA idx lkp mUpd mEnt eSt rng nxt ent ext alc box bld bldS ld sto nilC mkMap mkS ifc pick rdy wts gsel sti cond retM Gives cCode cGrp cSeq cOp
section
variable {w : World} {K : KV}
variable {w0 : World} {p q r : Nat} {a : Option Addr} {n c : Nat} {b : List UInt8} {st : EyS} {cs : List Value}
theorem GS.now (h : GS w0 w p q r a n c b st cs) : RB w a n c b := RV.below h.rb h.bel (Nat.le_refl _)
theorem gs_get {kk : Int} (k : Nat) (hs : GS w0 w p q r a n c b st cs) (hn : n ≤ 9223372036854775807) (hk : k = 1 ∨ k = 2 ∨ k = 4 ∨ k = 8) (hkk : kk = (k : Int)) (h : ∀ w', GS w0 w' p q r a n c b (gtE b st k).2 cs → K (.int .u64 ((gtE b st k).1 : Nat)) w') :
    call Tryz.prog 29 #[.pointer (some ⟨p, 0, none⟩), .int .i64 kk] K w :=
  eget_c k hs.ey hs.now hn hs.at_ hk hkk fun w' h1 h2 => h w' ⟨h1, oth_blk h2 hs.sp (Ne.symm hs.pq), oth_blk h2 hs.rs hs.rp, gtE_le hs.at_, oth_below hs.bel h2 hs.lp, hs.rb, hs.pq, hs.rp, hs.rq, hs.lp, hs.lq⟩
theorem gs_less {kk : Int} (k : Nat) (hs : GS w0 w p q r a n c b st cs) (hn : n ≤ 9223372036854775807) (hk : k = 1 ∨ k = 2 ∨ k = 4) (hkk : kk = (k : Int)) (h : ∀ w', GS w0 w' p q r a n c b (gtE b st k).2 cs → Oth p w w' → K (i6 (((gtE b st k).1 : Int) - 1)) w') :
    call Tryz.prog 30 #[.pointer (some ⟨p, 0, none⟩), .int .i64 kk] K w :=
  eless_c k hs.ey hs.now hn hs.at_ hk hkk fun w' h1 h2 => h w' ⟨h1, oth_blk h2 hs.sp (Ne.symm hs.pq), oth_blk h2 hs.rs hs.rp, gtE_le hs.at_, oth_below hs.bel h2 hs.lp, hs.rb, hs.pq, hs.rp, hs.rq, hs.lp, hs.lq⟩ h2
theorem gs_sto {t : TypeId} {i : Nat} {v : Value} (hs : GS w0 w p q r a n c b st cs) (ht : ∀ w, (sizeOf t).run Tryz.prog w = .ok 1 w) (hi : i < cs.length) (hv : v.oneCell' = true) (h : ∀ w', GS w0 w' p q r a n c b st (cs.set i v) → Oth q w w' → K undef w') : sto Tryz.prog t (.pointer (some ⟨q, i, none⟩)) v K w :=
  sto1 ht hs.sp hi hv fun w' h1 h2 => h w' ⟨oth_blk h2 hs.ey hs.pq, h1, oth_blk h2 hs.rs hs.rq, hs.at_, oth_below hs.bel h2 hs.lq, hs.rb, hs.pq, hs.rp, hs.rq, hs.lp, hs.lq⟩ h2
theorem GS.fresh {w' : World} (hs : GS w0 w p q r a n c b st cs) (hb : Below w.heap.size w w') : GS w0 w' p q r a n c b st cs :=
  ⟨below_blk hb hs.ey hs.ey.lt, below_blk hb hs.sp hs.sp.lt, below_blk hb hs.rs hs.rs.lt, hs.at_, hs.bel.trans (hb.mono hs.bel.size), hs.rb, hs.pq, hs.rp, hs.rq, hs.lp, hs.lq⟩
theorem GS.drew (hs : GS w0 w p q r a n c b st cs) : GS w0 w.drew p q r a n c b st cs := ⟨hs.ey, hs.sp, hs.rs, hs.at_, hs.bel.drew, hs.rb, hs.pq, hs.rp, hs.rq, hs.lp, hs.lq⟩
theorem convU8 {x : Nat} (hx : x < 256) (h : K (.int .u8 (x : Int)) w) : conv Tryz.prog 22 5 (.int .u64 (x : Int)) K w := by
  refine conv_int Tryz.underlying22 Tryz.underlying5 ?_
  rw [wrap_u8, show ((x : Int) % 256) = x by omega]
  exact h
theorem convAm {x : Int} (h : K (.int .i64 (IntKind.i64.wrap x)) w) : conv Tryz.prog 22 2 (.int .u64 x) K w := conv_int Tryz.underlying22 Tryz.underlying2 h
theorem info_int3 : (Tryz.prog.info? 3).map (fun i => (i.zero, i.size, i.bytes)) = some (some (.int .i64 0), 1, 8) := by kernel_rfl
abbrev ON (w : World) (B : Nat) (a : Option Addr) (n c : Nat) (l : List Int) : Prop := OV w B 3 a n c (l.map i6)
/-- Numbers in a row of blocks that were made since. -/
abbrev RH (w : World) (B : Nat) (a : Option Addr) (n c : Nat) (l : List Int) : Prop := RN w a n c l ∧ ∀ q, q < n → B ≤ (slotA a q).block
theorem ON.rh {w : World} {B B0 : Nat} {a : Option Addr} {n c : Nat} {l : List Int} (h : ON w B a n c l) (hB : B0 ≤ B) : RH w B0 a n c l :=
  ⟨OV.rv h, fun q hq => by
    rcases h.2 with ⟨hv, hn⟩ | ⟨g, cap, cur, hv, hg, _⟩
    · omega
    · simp only [Value.slice.injEq] at hv
      rw [hv.1]
      show B0 ≤ g
      omega⟩
theorem apN {cs : Array Bool} {ty : TypeId} {B n c g : Nat} {a : Option Addr} {l : List Int} {x : Int} (ho : ON w B a n c l) (hg : blk w g 3 [i6 x]) (hB : B ≤ w.heap.size) (hn : n ≤ 1000)
    (h : ∀ a' c' w', ON w' B a' (n + 1) c' (l ++ [x]) → w.grownBy w' (Value.slice a n c).ownBlock → K (.slice a' (n + 1) c') w') :
    blt Tryz.prog .append #[25, 25] ty cs #[.slice a n c, .slice (some ⟨g, 0, none⟩) 1 1] K w := by
  obtain ⟨i, hi, hz, hsz, hby⟩ := info_parts info_int3
  refine appA (base := B) (s := 1) (m := 1) (ys := [i6 x]) Tryz.underlying25 hi hz hsz hby rfl (by omega) ho hg rfl (by simp [i6, Value.oneCell']) (by omega) (by omega) hB ?_
  intro a' c' w' ho' hgr _
  exact h a' c' w' (by simpa [OV] using ho') hgr
theorem pksE_len (b : List UInt8) : ∀ (m : Nat) (st : EyS), (pksE b m st).1.length ≤ m
  | 0, st => by simp [pksE]
  | m + 1, st => by
    unfold pksE
    split
    · simp
    · have := pksE_len b m (gtE b st 1).2
      simp; omega
theorem lenB8 {ty : TypeId} {cs : Array Bool} {a : Option Addr} {n c : Nat} (h : K (.int .i64 (n : Int)) w) : blt Tryz.prog .len #[28] ty cs #[.slice a n c] K w := len_slc Tryz.underlying28 h
theorem retM_ct {t : TypeId} {ad : Addr} {v u : Value} (hl : ∀ K' : KV, K' v w → ld Tryz.prog t (.pointer (some ad)) K' w) (h : K (.tuple #[v, u]) w) : retM Tryz.prog [(some t, .pointer (some ad)), (none, u)] K w := by
  have h1 : (loadVar t ad).run Tryz.prog w = .ok v w := by
    have := hl (fun v' w' => v' = v ∧ w' = w) ⟨rfl, rfl⟩
    unfold ld okV at this
    unfold Instr.loadAt at this
    simp only [Instr.sureAddr, Sem.run_bind, Sem.run_pure, Result.andThen_ok] at this
    split at this
    · rename_i v' w' hrun; rw [hrun, this.1, this.2]
    · exact this.elim
  unfold retM
  have : (resSem [(some t, .pointer (some ad)), (none, u)]).run Tryz.prog w = .ok (.tuple #[v, u]) w := by simp [resSem, asAddr, Sem.run_bind, h1]
  rw [this]; exact ⟨rfl, h⟩
set_option maxHeartbeats 1000000 in
theorem getP1_c {B : Nat} {b0 b1 t2 t3 y4 s5 n6 t7 t8 t9 t10 t11 t12 t13 t14 t15 t16 t17 t18 t19 t20 t21 t22 t23 t24 t25 t26 t27 t28 t29 t30 t31 t32 t33 t34 t35 t36 t37 t38 t39 t40 t41 t42 t43 t44 t45 t46 t47 t48 t49 t50 t51 t52 t53 t54 t55 t56 t57 t58 t59 t60 t61 t62 t63 t64 t65 t66 t67 t68 t69 t70 t71 t72 t73 t74 t75 t76 t77 t78 t79 t80 t81 t82 t83 t84 t85 t86 t87 t88 t89 t90 t91 t92 : Value} {s : STP} {av : Option Addr} {cv : Nat} (hs : GS w0 w p q r a n c b st (stC s (.slice av s.picks.length cv))) (hw : STW s) (hlen : b.length = n) (hn : n ≤ 4611686018427387904) (hon : ON w B av s.picks.length cv s.picks) (hpl : s.picks.length ≤ 1000)
    (h0 : ∀ w', (st.2 = true ∨ st.1 ≠ b.length ∨ mayT s = false) → Below w0.heap.size w0 w' → K (.tuple #[.agg stp0.toArray, .int .i64 5]) w')
    (h1 : ∀ w', st.2 = false → st.1 = b.length → mayT s = true → Below w0.heap.size w0 w' → RH w' w0.heap.size av s.picks.length cv s.picks → K (.tuple #[.agg (stC s (.slice av s.picks.length cv)).toArray, .int .i64 0]) w')
    (hr0 : r = w0.heap.size) (hrB : r < B) (e1 : y4 = .pointer (some ⟨p, 0, none⟩)) (e2 : s5 = .pointer (some ⟨q, 0, none⟩)) (e3 : t2 = .pointer (some ⟨r, 0, none⟩)) (e4 : b0 = .slice a n c) : trace_Get_P1 K ((b0 :: b1 :: t2 :: t3 :: y4 :: s5 :: n6 :: t7 :: t8 :: t9 :: t10 :: t11 :: t12 :: t13 :: t14 :: t15 :: t16 :: t17 :: t18 :: t19 :: t20 :: t21 :: t22 :: t23 :: t24 :: t25 :: t26 :: t27 :: t28 :: t29 :: t30 :: t31 :: t32 :: t33 :: t34 :: t35 :: t36 :: t37 :: t38 :: t39 :: t40 :: t41 :: t42 :: t43 :: t44 :: t45 :: t46 :: t47 :: t48 :: t49 :: t50 :: t51 :: t52 :: t53 :: t54 :: t55 :: t56 :: t57 :: t58 :: t59 :: t60 :: t61 :: t62 :: t63 :: t64 :: t65 :: t66 :: t67 :: t68 :: t69 :: t70 :: t71 :: t72 :: t73 :: t74 :: t75 :: t76 :: t77 :: t78 :: t79 :: t80 :: t81 :: t82 :: t83 :: t84 :: t85 :: t86 :: t87 :: t88 :: t89 :: t90 :: t91 :: t92 :: [])) w := by
  subst e1 e2 e3 e4
  refine trace_Get_P1_r ?_
  have hey := hs.ey
  obtain ⟨i, sp⟩ := st
  refine nilC_p ?_
  refine fA_Eye_2 ?_
  refine ld1 (v := .bool sp) (fun _ => by kernel_rfl) hey rfl ?_
  -- what is handed back
  have no : ∀ {w1 : World}, GS w0 w1 p q r a n c b (i, sp) (stC s (.slice av s.picks.length cv)) → (sp = true ∨ i ≠ b.length ∨ mayT s = false) → bld Tryz.prog 27 #[] (fun t91 w => sto Tryz.prog 27 (.pointer (some ⟨r, 0, none⟩)) t91 (fun _t w => retM Tryz.prog [(some 27, .pointer (some ⟨r, 0, none⟩)), (none, (.int .i64 5))] K w) w) w1 := by
    intro w1 hs1 hbad
    refine bld_of (vs := stp0) (by kernel_rfl) ?_
    refine stoA (n := 12) (vs := stp0) (by kernel_rfl) rfl hs1.rs (by simp [stp0]) (by simp [stp0, i6, Value.oneCell']) ?_
    intro w2 h2 o2
    refine retM_ct (v := .agg stp0.toArray) (fun K' hK' => ldA (n := 12) (vs := stp0) Tryz.underlying27 rfl (by kernel_rfl) h2 rfl rfl hK') ?_
    exact h0 w2 hbad (oth_below hs1.bel o2 (by omega))
  have yes : ∀ {w1 : World}, GS w0 w1 p q r a n c b (i, sp) (stC s (.slice av s.picks.length cv)) → ON w1 B av s.picks.length cv s.picks → sp = false → i = b.length → mayT s = true → ld Tryz.prog 27 (.pointer (some ⟨q, 0, none⟩)) (fun t92 w => sto Tryz.prog 27 (.pointer (some ⟨r, 0, none⟩)) t92 (fun _t w => retM Tryz.prog [(some 27, .pointer (some ⟨r, 0, none⟩)), (none, (.int .i64 0))] K w) w) w1 := by
    intro w1 hs1 hrn1 x1 x2 x3
    refine ldA (n := 12) (vs := stC s (.slice av s.picks.length cv)) Tryz.underlying27 rfl (by kernel_rfl) hs1.sp rfl rfl ?_
    refine stoA (n := 12) (vs := stC s (.slice av s.picks.length cv)) (by kernel_rfl) rfl hs1.rs (by simp [stp0]) (by simp [stC, i6, Value.oneCell']) ?_
    intro w2 h2 o2
    refine retM_ct (v := .agg (stC s (.slice av s.picks.length cv)).toArray) (fun K' hK' => ldA (n := 12) (vs := stC s (.slice av s.picks.length cv)) Tryz.underlying27 rfl (by kernel_rfl) h2 rfl rfl hK') ?_
    refine h1 w2 x1 x2 x3 (oth_below hs1.bel o2 (by omega)) (ON.rh (ownS hrn1 fun k hk => o2.other k ?_) (by omega))
    have := (OV.block hrn1 k hk).1
    omega
  cases sp with
  | true =>
    refine gsel_Tn ?_
    refine pick_T ?_
    refine gsel_Tn ?_
    refine pick_T ?_
    refine cond_T ?_
    exact no hs (.inl rfl)
  | false =>
    refine gsel_Fn ?_
    refine nilC_p ?_
    refine fA_Eye_1 ?_
    refine ld1 (v := i6 i) (fun _ => by kernel_rfl) hey rfl ?_
    refine lenB8 ?_
    unfold i6
    refine bin_neq ?_
    refine pick_F ?_
    by_cases hi : i = n
    · refine gsel_nf (by simp; omega) ?_
      refine ldA (n := 12) (vs := stC s (.slice av s.picks.length cv)) Tryz.underlying27 rfl (by kernel_rfl) hs.sp rfl rfl ?_
      refine tmay_c hw (OV.rv hon) (by omega) ?_
      intro w2 b2
      have hs2 := hs.fresh b2
      have hon2 : ON w2 B av s.picks.length cv s.picks := ownS hon fun k hk => b2.block k (OV.block hon k hk).2
      refine un_not ?_
      refine pick_f (by simp; omega) ?_
      cases hm : mayT s with
      | false =>
        rw [Bool.not_false]
        refine cond_T ?_
        exact no hs2 (.inr (.inr hm))
      | true =>
        rw [Bool.not_true]
        refine cond_F ?_
        exact yes hs2 hon2 rfl (by omega) hm
    · refine gsel_nt (by simp; omega) ?_
      refine pick_t (by simp; omega) ?_
      refine cond_T ?_
      exact no hs (.inr (.inl (by omega)))
set_option maxHeartbeats 4000000 in
theorem tget_c (hr : RB w a n c b) (hn : n ≤ 4611686018427387904)
    (h : ∀ w' v, Below w.heap.size w w' → (match getP b with | none => v = .tuple #[.agg stp0.toArray, .int .i64 5] | some s => ∃ a' c', RH w' w.heap.size a' s.picks.length c' s.picks ∧ v = .tuple #[.agg (stC s (.slice a' s.picks.length c')).toArray, .int .i64 0]) → K v w') :
    call Tryz.prog 12 #[.slice a n c] K w := by
  have hlen := hr.len
  refine call_of trace_Get_go (trace_Get_in ?_)
  refine alc_of (z := .agg stp0.toArray) (by kernel_rfl) fun w1 hr1 b1 s1 => ?_
  have hr1 : blk w1 w.heap.size 27 stp0 := hr1
  refine bld_of (vs := eyC a n c (0, false)) (by kernel_rfl) ?_
  refine box_of fun w2 hp2 b2 s2 => ?_
  have hp2 : blk w2 w1.heap.size 75 (eyC a n c (0, false)) := hp2
  refine alc_of (z := .agg stp0.toArray) (by kernel_rfl) fun w3 hq3 b3 s3 => ?_
  have hq3 : blk w3 w2.heap.size 27 stp0 := hq3
  have hs : GS w w3 w1.heap.size w2.heap.size w.heap.size a n c b (0, false) stp0 :=
    ⟨below_blk b3 hp2 (by omega), hq3, below_blk b3 (below_blk b2 hr1 (by omega)) (by omega), Nat.zero_le _, (b1.trans (b2.mono (by omega))).trans (b3.mono (by omega)), hr, by omega, by omega, by omega, by omega, by omega⟩
  generalize w1.heap.size = p at *
  generalize w2.heap.size = q at *
  clear b1 b2 b3 hr1 hp2 hq3 s1 s2
  have hn63 : n ≤ 9223372036854775807 := by omega
  have lt1 : ∀ st : EyS, (gtE b st 1).1 < 256 := fun st => gtE_lt
  -- Do
  refine gs_get 1 hs hn63 (by simp) rfl fun w4 h4 => ?_
  refine convU8 (lt1 _) ?_
  refine fA_Stp_0 ?_
  refine gs_sto h4 (fun _ => by kernel_rfl) (by simp [stp0]) rfl fun w5 h5 _ => ?_
  -- Who, J, K, N
  refine gs_less 2 h5 hn63 (by simp) rfl fun w6 h6 _ => ?_
  refine gs_less 2 h6 hn63 (by simp) rfl fun w7 h7 _ => ?_
  refine gs_less 2 h7 hn63 (by simp) rfl fun w8 h8 _ => ?_
  refine gs_less 4 h8 hn63 (by simp) rfl fun w9 h9 _ => ?_
  refine fA_Stp_1 ?_
  refine gs_sto h9 (fun _ => by kernel_rfl) (by simp [stp0]) rfl fun w10 h10 _ => ?_
  refine fA_Stp_4 ?_
  refine gs_sto h10 (fun _ => by kernel_rfl) (by simp [stp0]) rfl fun w11 h11 _ => ?_
  refine fA_Stp_3 ?_
  refine gs_sto h11 (fun _ => by kernel_rfl) (by simp [stp0]) rfl fun w12 h12 _ => ?_
  refine fA_Stp_5 ?_
  refine gs_sto h12 (fun _ => by kernel_rfl) (by simp [stp0]) rfl fun w13 h13 _ => ?_
  -- Kind, Node, To
  refine trace_Get_A1_r ?_
  refine gs_get 1 h13 hn63 (by simp) rfl fun w14 h14 => ?_
  refine convU8 (lt1 _) ?_
  refine gs_get 8 h14 hn63 (by simp) rfl fun w15 h15 => ?_
  refine gs_less 2 h15 hn63 (by simp) rfl fun w16 h16 _ => ?_
  refine fA_Stp_2 ?_
  refine fA_Tas_0 ?_
  refine gs_sto h16 (fun _ => by kernel_rfl) (by simp [stp0]) rfl fun w17 h17 _ => ?_
  refine fA_Stp_2 ?_
  refine fA_Tas_1 ?_
  refine gs_sto h17 (fun _ => by kernel_rfl) (by simp [stp0]) rfl fun w18 h18 _ => ?_
  refine fA_Stp_2 ?_
  refine fA_Tas_2 ?_
  refine gs_sto h18 (fun _ => by kernel_rfl) (by simp [stp0]) rfl fun w19 h19 _ => ?_
  -- Amount, Req, Of
  refine gs_get 8 h19 hn63 (by simp) rfl fun w20 h20 => ?_
  refine bin_sub ?_
  refine convAm ?_
  refine fA_Stp_2 ?_
  refine fA_Tas_3 ?_
  refine gs_sto h20 (fun _ => by kernel_rfl) (by simp [stp0]) rfl fun w21 h21 _ => ?_
  refine gs_get 8 h21 hn63 (by simp) rfl fun w22 h22 => ?_
  refine gs_get 8 h22 hn63 (by simp) rfl fun w23 h23 => ?_
  refine fA_Stp_2 ?_
  refine fA_Tas_4 ?_
  refine gs_sto h23 (fun _ => by kernel_rfl) (by simp [stp0]) rfl fun w24 h24 _ => ?_
  refine fA_Stp_2 ?_
  refine fA_Tas_5 ?_
  refine gs_sto h24 (fun _ => by kernel_rfl) (by simp [stp0]) rfl fun w25 h25 _ => ?_
  refine trace_Get_A2_r ?_
  refine gs_get 1 h25 hn63 (by simp) rfl fun w26 h26 => ?_
  have hs0 : GS w w26 p q w.heap.size a n c b (rdsT b (0, false)).st (stC (stpT (rdsT b (0, false)) []) (.slice none 0 0)) := h26
  clear hs h4 h5 h6 h7 h8 h9 h10 h11 h12 h13 h14 h15 h16 h17 h18 h19 h20 h21 h22 h23 h24 h25 h26
  have hgp : getP b = if (pksE b (rdsT b (0, false)).cnt (rdsT b (0, false)).st).2.2 = false ∧ (pksE b (rdsT b (0, false)).cnt (rdsT b (0, false)).st).2.1 = b.length ∧ mayT (stpT (rdsT b (0, false)) (pksE b (rdsT b (0, false)).cnt (rdsT b (0, false)).st).1) = true then some (stpT (rdsT b (0, false)) (pksE b (rdsT b (0, false)).cnt (rdsT b (0, false)).st).1) else none := rfl
  have hcnt : (rdsT b (0, false)).cnt < 256 := lt1 _
  have hSW : ∀ l, STW (stpT (rdsT b (0, false)) l) := fun l => ⟨by have : (rdsT b (0, false)).d < 256 := lt1 _; simp only [stpT]; omega, by have : (rdsT b (0, false)).kind < 256 := lt1 _; simp only [stpT]; omega,
    by have : (rdsT b (0, false)).node < 256 ^ 8 := gtE_lt; simp only [stpT]; omega, by have : (rdsT b (0, false)).req < 256 ^ 8 := gtE_lt; simp only [stpT]; omega, by have : (rdsT b (0, false)).of_ < 256 ^ 8 := gtE_lt; simp only [stpT]; omega⟩
  show trace_Get_L1 K _ w26
  have hcn : (gtE b (gtE b (gtE b (gtE b (gtE b (gtE b (gtE b (gtE b (gtE b (gtE b (gtE b (gtE b (0, false) 1).2 2).2 2).2 2).2 4).2 1).2 8).2 2).2 8).2 8).2 8).2 1).1 = (rdsT b (0, false)).cnt := rfl
  rw [hcn]
  have hpl := pksE_len b (rdsT b (0, false)).cnt (rdsT b (0, false)).st
  generalize hfull : pksE b (rdsT b (0, false)).cnt (rdsT b (0, false)).st = full at hgp hpl
  refine trace_Get_L1_r (Inv := fun i _ _ _ _ _ wr => ∃ (m : Nat) (acc : List Int) (st : EyS) (a' : Option Addr) (c' : Nat), i = .int .u64 (m : Nat) ∧ GS w wr p q w.heap.size a n c b st (stC (stpT (rdsT b (0, false)) acc) (.slice a' acc.length c')) ∧ ON wr w26.heap.size a' acc.length c' acc ∧
      (acc ++ (pksE b m st).1, (pksE b m st).2) = full ∧ acc.length + m ≤ 256 ∧ w26.heap.size ≤ wr.heap.size)
    (μ := fun i _ _ _ _ _ _ => (intOf i).toNat) ⟨(rdsT b (0, false)).cnt, [], (rdsT b (0, false)).st, none, 0, rfl, hs0, OV.nil _ _ _, by simpa using hfull, by simp; omega, Nat.le_refl _⟩ ?_
  rintro _ _ _ _ _ _ dd w27 m0 ⟨m, acc, st, a', c', rfl, hs1, hon, hf, ham, hsz⟩ hm0
  have hpq := hs0.sp.lt
  have hpp := hs0.ey.lt
  have hrr := hs0.rs.lt
  have fin0 : pksE b m st = ([], st) → full = (acc, st) := fun he => by rw [he] at hf; simpa using hf.symm
  have hW1 := hSW acc
  have fin1 : pksE b m st = ([], st) → ∀ w', (st.2 = true ∨ st.1 ≠ b.length ∨ mayT (stpT (rdsT b (0, false)) acc) = false) → Below w.heap.size w w' → K (.tuple #[.agg stp0.toArray, .int .i64 5]) w' := by
    intro he w' hbad hb
    refine h w' _ hb ?_
    have hfl := fin0 he
    rw [hfl] at hgp
    rw [hgp, if_neg (by
      rintro ⟨x1, x2, x3⟩
      rcases hbad with y | y | y
      · rw [y] at x1; cases x1
      · exact y x2
      · rw [y] at x3; cases x3)]
  have fin2 : pksE b m st = ([], st) → ∀ w', st.2 = false → st.1 = b.length → mayT (stpT (rdsT b (0, false)) acc) = true → Below w.heap.size w w' → RH w' w.heap.size a' acc.length c' acc → K (.tuple #[.agg (stC (stpT (rdsT b (0, false)) acc) (.slice a' acc.length c')).toArray, .int .i64 0]) w' := by
    intro he w' x1 x2 x3 hb hrn
    refine h w' _ hb ?_
    have hfl := fin0 he
    rw [hfl] at hgp
    rw [hgp, if_pos ⟨x1, x2, x3⟩]
    exact ⟨a', c', hrn, rfl⟩
  have hal : acc.length ≤ 1000 := by omega
  have hey := hs1.ey
  have hpick : (stpT (rdsT b (0, false)) acc).picks = acc := rfl
  refine bin_gtr ?_
  by_cases hm : m = 0
  · subst hm
    refine gsel_pf (by simp) ?_
    refine pick_f (by simp) ?_
    refine cond_F ?_
    exact getP1_c (s := stpT (rdsT b (0, false)) acc) hs1 hW1 hlen hn hon hal (fin1 rfl) (fin2 rfl) rfl hrr rfl rfl rfl rfl
  refine gsel_pt (by omega) ?_
  refine nilC_p ?_
  refine fA_Eye_2 ?_
  obtain ⟨i, sp⟩ := st
  refine ld1 (v := .bool sp) (fun _ => by kernel_rfl) hey rfl ?_
  refine un_not ?_
  refine pick_t (by omega) ?_
  cases sp with
  | true =>
    rw [Bool.not_true]
    refine cond_F ?_
    have he : pksE b m (i, true) = ([], (i, true)) := by cases m <;> rfl
    exact getP1_c (s := stpT (rdsT b (0, false)) acc) hs1 hW1 hlen hn hon hal (fin1 he) (fin2 he) rfl hrr rfl rfl rfl rfl
  | false =>
    rw [Bool.not_false]
    refine cond_T ?_
    obtain ⟨m, rfl⟩ := Nat.exists_eq_succ_of_ne_zero hm
    have he : pksE b (m + 1) (i, false) = ((((gtE b (i, false) 1).1 : Int) - 1) :: (pksE b m (gtE b (i, false) 1).2).1, (pksE b m (gtE b (i, false) 1).2).2) := rfl
    rw [Nat.succ_eq_add_one, he] at hf
    generalize hg : ((gtE b (i, false) 1).1 : Int) - 1 = x at hf
    refine hReg_of (fun z => blk z q 27 (stC (stpT (rdsT b (0, false)) acc) (.slice a' acc.length c'))) hs1.drew.sp ?_
    refine hld_of (fun z hz K hK => fA_Stp_6 hK) ?_
    refine hld_of (v := .slice a' acc.length c') (fun z hz K hK => ld1 (fun _ => by kernel_rfl) hz rfl hK) ?_
    refine gs_less 1 hs1.drew hn63 (by simp) rfl fun w28 h28 o28 => ?_
    rw [hg]
    refine hSub_same h28.sp ?_
    have hon28 : ON w28 w26.heap.size a' acc.length c' acc := ownS hon fun k hk => o28.other k (by have := (OV.block hon k hk).1; omega)
    refine bldSG (vs := [i6 x]) Tryz.underlying25 (s := 1) (by kernel_rfl) (by kernel_rfl) (by omega) rfl (by simp) (by simp) (by simp) (by simp [Value.cells, i6]) ?_
    intro w29 hb29 b29 s29
    have hb29 : blk w29 w28.heap.size 3 [i6 x] := by simpa [Value.cells, i6] using hb29
    have h29 := h28.fresh b29
    refine hSub_same h29.sp ?_
    have hon29 : ON w29 w26.heap.size a' acc.length c' acc := ownS hon28 fun k hk => b29.block k (OV.block hon28 k hk).2
    have hsz28 : w28.heap.size = w27.heap.size := o28.size
    refine apN hon29 hb29 (by omega) (by omega) ?_
    intro a2 c2 w30 hon30 g30
    have hne : ∀ {k : Nat} {E : TypeId} {cs : List Value}, blk w29 k E cs → k < w26.heap.size → blk w30 k E cs := by
      intro k E cs hb hk
      unfold blk
      rw [g30.block k hb.lt (fun e => by have := (OV.block hon29 k e.symm).1; omega)]
      exact hb
    have b30 : Below w26.heap.size w29 w30 := below_of_grown g30 (by omega) (fun k hk => (OV.block hon29 k hk).1)
    have h30 : GS w w30 p q w.heap.size a n c b (gtE b (i, false) 1).2 (stC (stpT (rdsT b (0, false)) acc) (.slice a' acc.length c')) :=
      ⟨hne h29.ey hpp, hne h29.sp hpq, hne h29.rs hrr, h29.at_, h29.bel.trans (b30.mono (by omega)), h29.rb, h29.pq, h29.rp, h29.rq, h29.lp, h29.lq⟩
    refine hReg_of (fun _ => True) trivial ?_
    refine hld_of (fun z hz K hK => fA_Stp_6 hK) ?_
    refine gs_sto h30 (fun _ => by kernel_rfl) (by simp [stC]) rfl fun w31 h31 o31 => ?_
    have hon31 : ON w31 w26.heap.size a2 (acc.length + 1) c2 (acc ++ [x]) := ownS hon30 fun k hk => o31.other k (by have := (OV.block hon30 k hk).1; omega)
    refine bin_sub ?_
    rw [wrap_u64, show (((m.succ : Nat) : Int) - 1) % 18446744073709551616 = (m : Nat) by omega]
    have hs30 : w29.heap.size ≤ w30.heap.size := b30.size
    refine ⟨⟨m, acc ++ [x], (gtE b (i, false) 1).2, a2, c2, rfl, ?_, ?_, ?_, by simp; omega, by rw [o31.size]; omega⟩, by rw [hm0]; simp [intOf]⟩
    · rw [List.length_append, List.length_singleton]; exact h31
    · rw [List.length_append, List.length_singleton]; exact hon31
    · rw [← hf]; simp
end
end Go.Proofs.YtfjafbbalohmhaaGreatDoor
/- Written by program (gen.py): what the code of some functions asks, part by part; each text is checked by the kernel against the translation. -/
namespace Go.Proofs.YtfjafbbalohmhaaGreatDoor
open Go.RowKit
set_option maxRecDepth 100000


theorem leatref01_size_k {K : KV} {k_0 : Value} {w : World}
    (h : bin Tryz.prog BinOp.eql 3 false true k_0 (Value.int IntKind.i64 1) (fun A0 w =>
    gsel A0 false (fun k6 =>
    bin Tryz.prog BinOp.eql 3 false true k_0 (Value.int IntKind.i64 2) (fun A2 w =>
    k6 [k_0, A2] w) w)
    (fun k => k [undef, undef] w) (fun us6 w =>
    pick A0 (Value.bool true) (gd us6 1) (fun A3 w =>
    gsel A3 false (fun k10 =>
    bin Tryz.prog BinOp.eql 3 false true k_0 (Value.int IntKind.i64 4) (fun A5 w =>
    k10 [k_0, A5] w) w)
    (fun k => k [undef, undef] w) (fun us10 w =>
    pick A3 (Value.bool true) (gd us10 1) (fun A6 w =>
    gsel A6 false (fun k14 =>
    bin Tryz.prog BinOp.eql 3 false true k_0 (Value.int IntKind.i64 8) (fun A9 w =>
    k14 [k_0, A9] w) w)
    (fun k => k [undef, undef] w) (fun us14 w =>
    pick A6 (Value.bool true) (gd us14 1) (fun C0 w =>
    K C0 w) w)) w)) w)) w) :
    cCode Tryz.prog (cd Tryz.f61 []) (retK Tryz.prog Tryz.f61.results.toList K) (fun _ _ _ => False) (retK Tryz.prog Tryz.f61.results.toList K) [k_0, undef, undef, undef, undef, undef, undef, undef, undef, undef, undef, undef, undef, undef, undef, undef, undef] w := Eq.mp (by kernel_rfl) h

theorem leatref01_size_in {K : KV} {k_0 : Value} {w : World}
    (h : bin Tryz.prog BinOp.eql 3 false true k_0 (Value.int IntKind.i64 1) (fun A0 w =>
    gsel A0 false (fun k6 =>
    bin Tryz.prog BinOp.eql 3 false true k_0 (Value.int IntKind.i64 2) (fun A2 w =>
    k6 [k_0, A2] w) w)
    (fun k => k [undef, undef] w) (fun us6 w =>
    pick A0 (Value.bool true) (gd us6 1) (fun A3 w =>
    gsel A3 false (fun k10 =>
    bin Tryz.prog BinOp.eql 3 false true k_0 (Value.int IntKind.i64 4) (fun A5 w =>
    k10 [k_0, A5] w) w)
    (fun k => k [undef, undef] w) (fun us10 w =>
    pick A3 (Value.bool true) (gd us10 1) (fun A6 w =>
    gsel A6 false (fun k14 =>
    bin Tryz.prog BinOp.eql 3 false true k_0 (Value.int IntKind.i64 8) (fun A9 w =>
    k14 [k_0, A9] w) w)
    (fun k => k [undef, undef] w) (fun us14 w =>
    pick A6 (Value.bool true) (gd us14 1) (fun C0 w =>
    K C0 w) w)) w)) w)) w) :
    Gives Tryz.prog 61 #[k_0] w K := enter' Tryz.func61 (by kernel_rfl) (Eq.mp (congrArg (fun c => cCode Tryz.prog c (retK Tryz.prog Tryz.f61.results.toList K) (fun _ _ _ => False) (retK Tryz.prog Tryz.f61.results.toList K) [k_0, undef, undef, undef, undef, undef, undef, undef, undef, undef, undef, undef, undef, undef, undef, undef, undef] w) (by kernel_rfl : (cd Tryz.f61 []) = (cd Tryz.f61 []))) (leatref01_size_k h))
theorem leatref01_size_go : isGo Tryz.prog 61 := ⟨_, Tryz.func61, by kernel_rfl, by kernel_rfl⟩

def leatref01_Put_P1 (K : KV) : KE := cCode Tryz.prog (cd Tryz.f44 [1, 1, 1, 1, 1]) (retK Tryz.prog Tryz.f44.results.toList K) (fun _ _ _ => False) (retK Tryz.prog Tryz.f44.results.toList K)
def leatref01_Put_L1 (K : KV) : KE := cCode Tryz.prog (cd Tryz.f44 [1, 1, 1, 1, 0, 1, 0]) (leatref01_Put_P1 K) (fun i => @Bool.rec (fun _ => KE) ((fun _ _ _ => False) i) (leatref01_Put_P1 K) (Nat.beq i 0)) (retK Tryz.prog Tryz.f44.results.toList K)
theorem leatref01_Put_k {K : KV} {b0 n1 k_2 : Value} {w : World}
    (h : call Tryz.prog 61 #[k_2] (fun A5 w =>
    un Tryz.prog UnOp.not A5 (fun A6 w =>
    cond A6
      (K (Value.tuple #[(Value.slice none 0 0), (Value.int IntKind.i64 1)]) w)
      (bin Tryz.prog BinOp.lss 3 false true k_2 (Value.int IntKind.i64 8) (fun A8 w =>
    gsel A8 true (fun k16 =>
    bin Tryz.prog BinOp.mul 3 true false (Value.int IntKind.i64 8) k_2 (fun C2 w =>
    conv Tryz.prog 3 97 C2 (fun C3 w =>
    bin Tryz.prog BinOp.shr 22 false false n1 C3 (fun C4 w =>
    bin Tryz.prog BinOp.gtr 22 false true C4 (Value.int IntKind.u64 0) (fun C5 w =>
    k16 [n1, k_2, C2, C3, C4, C5] w) w) w) w) w)
    (fun k => k [undef, undef, undef, undef, undef, undef] w) (fun us16 w =>
    pick A8 (gd us16 5) (Value.bool false) (fun C6 w =>
    cond C6
      (K (Value.tuple #[(Value.slice none 0 0), (Value.int IntKind.i64 6)]) w)
      (bldS Tryz.prog 28 0 #[] (fun C7 w =>
    blt Tryz.prog Builtin.append #[28, 28] 28 #[false, false] #[C7, b0] (fun C9 w =>
    bin Tryz.prog BinOp.sub 3 false true k_2 (Value.int IntKind.i64 1) (fun D1 w =>
    (cCode Tryz.prog (cd Tryz.f44 [1, 1, 1, 1, 0, 1, 0]) (cCode Tryz.prog (cd Tryz.f44 [1, 1, 1, 1, 1]) (retK Tryz.prog Tryz.f44.results.toList K) (fun _ _ _ => False) (retK Tryz.prog Tryz.f44.results.toList K)) (fun i => @Bool.rec (fun _ => KE) ((fun _ _ _ => False) i) (cCode Tryz.prog (cd Tryz.f44 [1, 1, 1, 1, 1]) (retK Tryz.prog Tryz.f44.results.toList K) (fun _ _ _ => False) (retK Tryz.prog Tryz.f44.results.toList K)) (Nat.beq i 0)) (retK Tryz.prog Tryz.f44.results.toList K)) [b0, n1, k_2, undef, undef, undef, (Value.slice none 0 0), (Value.int IntKind.i64 0), C9, D1, k_2, A5, A6, k_2, A8, A8, (gd us16 0), (gd us16 1), (gd us16 2), (gd us16 3), (gd us16 4), (gd us16 5), C6, C7, b0, C9, k_2, D1, undef, undef, undef, undef, undef, undef, undef, undef, undef, undef, undef, undef, undef, undef] w) w) w) w)) w)) w)) w) w) :
    cCode Tryz.prog (cd Tryz.f44 []) (retK Tryz.prog Tryz.f44.results.toList K) (fun _ _ _ => False) (retK Tryz.prog Tryz.f44.results.toList K) [b0, n1, k_2, undef, undef, undef, undef, undef, undef, undef, undef, undef, undef, undef, undef, undef, undef, undef, undef, undef, undef, undef, undef, undef, undef, undef, undef, undef, undef, undef, undef, undef, undef, undef, undef, undef, undef, undef, undef, undef, undef, undef] w := Eq.mp (by kernel_rfl) h

theorem leatref01_Put_in {K : KV} {b0 n1 k_2 : Value} {w : World}
    (h : call Tryz.prog 61 #[k_2] (fun A5 w =>
    un Tryz.prog UnOp.not A5 (fun A6 w =>
    cond A6
      (K (Value.tuple #[(Value.slice none 0 0), (Value.int IntKind.i64 1)]) w)
      (bin Tryz.prog BinOp.lss 3 false true k_2 (Value.int IntKind.i64 8) (fun A8 w =>
    gsel A8 true (fun k16 =>
    bin Tryz.prog BinOp.mul 3 true false (Value.int IntKind.i64 8) k_2 (fun C2 w =>
    conv Tryz.prog 3 97 C2 (fun C3 w =>
    bin Tryz.prog BinOp.shr 22 false false n1 C3 (fun C4 w =>
    bin Tryz.prog BinOp.gtr 22 false true C4 (Value.int IntKind.u64 0) (fun C5 w =>
    k16 [n1, k_2, C2, C3, C4, C5] w) w) w) w) w)
    (fun k => k [undef, undef, undef, undef, undef, undef] w) (fun us16 w =>
    pick A8 (gd us16 5) (Value.bool false) (fun C6 w =>
    cond C6
      (K (Value.tuple #[(Value.slice none 0 0), (Value.int IntKind.i64 6)]) w)
      (bldS Tryz.prog 28 0 #[] (fun C7 w =>
    blt Tryz.prog Builtin.append #[28, 28] 28 #[false, false] #[C7, b0] (fun C9 w =>
    bin Tryz.prog BinOp.sub 3 false true k_2 (Value.int IntKind.i64 1) (fun D1 w =>
    (leatref01_Put_L1 K) [b0, n1, k_2, undef, undef, undef, (Value.slice none 0 0), (Value.int IntKind.i64 0), C9, D1, k_2, A5, A6, k_2, A8, A8, (gd us16 0), (gd us16 1), (gd us16 2), (gd us16 3), (gd us16 4), (gd us16 5), C6, C7, b0, C9, k_2, D1, undef, undef, undef, undef, undef, undef, undef, undef, undef, undef, undef, undef, undef, undef] w) w) w) w)) w)) w)) w) w) :
    Gives Tryz.prog 44 #[b0, n1, k_2] w K := enter' Tryz.func44 (by kernel_rfl) (Eq.mp (congrArg (fun c => cCode Tryz.prog c (retK Tryz.prog Tryz.f44.results.toList K) (fun _ _ _ => False) (retK Tryz.prog Tryz.f44.results.toList K) [b0, n1, k_2, undef, undef, undef, undef, undef, undef, undef, undef, undef, undef, undef, undef, undef, undef, undef, undef, undef, undef, undef, undef, undef, undef, undef, undef, undef, undef, undef, undef, undef, undef, undef, undef, undef, undef, undef, undef, undef, undef, undef] w) (by kernel_rfl : (cd Tryz.f44 []) = (cd Tryz.f44 []))) (leatref01_Put_k h))
theorem leatref01_Put_go : isGo Tryz.prog 44 := ⟨_, Tryz.func44, by kernel_rfl, by kernel_rfl⟩

theorem leatref01_Put_L1_k {K : KV} (B1 : KE) (qc0 : KE) {b0 n1 k_2 b3 n4 k_5 A1 A2 out8' i9' A4 A5 A6 A7 A8 A9 C0 C1 C2 C3 C4 C5 C6 C7 C8 C9 D0 D1 E5 : Value} {dd : Nat → Value} {w : World}
    (h : bin Tryz.prog BinOp.geq 3 false true i9' (Value.int IntKind.i64 0) (fun D3 w =>
    cond D3
      (bin Tryz.prog BinOp.mul 3 true false (Value.int IntKind.i64 8) i9' (fun D9 w =>
    conv Tryz.prog 3 97 D9 (fun E0 w =>
    bin Tryz.prog BinOp.shr 22 false false n1 E0 (fun E1 w =>
    conv Tryz.prog 22 5 E1 (fun E2 w =>
    bldS Tryz.prog 28 1 #[(0, E2)] (fun E3 w =>
    blt Tryz.prog Builtin.append #[28, 28] 28 #[false, false] #[out8', E3] (fun E4 w =>
    bin Tryz.prog BinOp.sub 3 false true i9' (Value.int IntKind.i64 1) (fun D5 w =>
    B1 [b0, n1, k_2, b3, n4, k_5, A1, A2, E4, D5, A4, A5, A6, A7, A8, A9, C0, C1, C2, C3, C4, C5, C6, C7, C8, C9, D0, D1, i9', D3, i9', D5, out8', n1, i9', D9, E0, E1, E2, E3, E4, E5] w) w) w) w) w) w) w) w)
      (qc0 [b0, n1, k_2, b3, n4, k_5, A1, A2, out8', i9', A4, A5, A6, A7, A8, A9, C0, C1, C2, C3, C4, C5, C6, C7, C8, C9, D0, D1, i9', D3, (dd 30), (dd 31), (dd 32), (dd 33), (dd 34), (dd 35), (dd 36), (dd 37), (dd 38), (dd 39), (dd 40), E5] w)) w) :
    cCode Tryz.prog (cd Tryz.f44 [1, 1, 1, 1, 0, 1, 0, 0]) B1 (fun i => @Bool.rec (fun _ => KE) ((fun _ _ _ => False) i) qc0 (Nat.beq i 0)) (retK Tryz.prog Tryz.f44.results.toList K) [b0, n1, k_2, b3, n4, k_5, A1, A2, out8', i9', A4, A5, A6, A7, A8, A9, C0, C1, C2, C3, C4, C5, C6, C7, C8, C9, D0, D1, (dd 28), (dd 29), (dd 30), (dd 31), (dd 32), (dd 33), (dd 34), (dd 35), (dd 36), (dd 37), (dd 38), (dd 39), (dd 40), E5] w := Eq.mp (by kernel_rfl) h

theorem leatref01_Put_L1_r {K : KV} {b0 n1 k_2 b3 n4 k_5 A1 A2 out8 i9 A4 A5 A6 A7 A8 A9 C0 C1 C2 C3 C4 C5 C6 C7 C8 C9 D0 D1 D2 D3 D4 D5 D6 D7 D8 D9 E0 E1 E2 E3 E4 E5 : Value} {w : World} (Inv : Value → Value → World → Prop) (μ : Value → Value → World → Nat) (h0 : Inv out8 i9 w)
    (hs : ∀ (out8' i9' : Value) (dd : Nat → Value) (w : World) (m : Nat), Inv out8' i9' w → m = μ out8' i9' w →
    bin Tryz.prog BinOp.geq 3 false true i9' (Value.int IntKind.i64 0) (fun D3 w =>
    cond D3
      (bin Tryz.prog BinOp.mul 3 true false (Value.int IntKind.i64 8) i9' (fun D9 w =>
    conv Tryz.prog 3 97 D9 (fun E0 w =>
    bin Tryz.prog BinOp.shr 22 false false n1 E0 (fun E1 w =>
    conv Tryz.prog 22 5 E1 (fun E2 w =>
    bldS Tryz.prog 28 1 #[(0, E2)] (fun E3 w =>
    blt Tryz.prog Builtin.append #[28, 28] 28 #[false, false] #[out8', E3] (fun E4 w =>
    bin Tryz.prog BinOp.sub 3 false true i9' (Value.int IntKind.i64 1) (fun D5 w =>
    (Inv E4 D5 w ∧ μ E4 D5 w < m)) w) w) w) w) w) w) w)
      ((leatref01_Put_P1 K) [b0, n1, k_2, b3, n4, k_5, A1, A2, out8', i9', A4, A5, A6, A7, A8, A9, C0, C1, C2, C3, C4, C5, C6, C7, C8, C9, D0, D1, i9', D3, (dd 30), (dd 31), (dd 32), (dd 33), (dd 34), (dd 35), (dd 36), (dd 37), (dd 38), (dd 39), (dd 40), E5] w)) w) :
    leatref01_Put_L1 K [b0, n1, k_2, b3, n4, k_5, A1, A2, out8, i9, A4, A5, A6, A7, A8, A9, C0, C1, C2, C3, C4, C5, C6, C7, C8, C9, D0, D1, D2, D3, D4, D5, D6, D7, D8, D9, E0, E1, E2, E3, E4, E5] w := by
  refine loop_rule (cd Tryz.f44 [1, 1, 1, 1, 0, 1, 0, 0]) [8, 9, 28, 29, 30, 31, 32, 33, 34, 35, 36, 37, 38, 39, 40] (by kernel_rfl) (fun e2 w2 => Inv (gd e2 8) (gd e2 9) w2) (fun e2 w2 => μ (gd e2 8) (gd e2 9) w2) h0 ?_
  intro e' w' hI
  have h := hs (gd e' 8) (gd e' 9) (fun i => gd e' i) w' _ hI rfl
  have h2 : cCode Tryz.prog (cd Tryz.f44 [1, 1, 1, 1, 0, 1, 0, 0]) (fun e2 w2 => Inv (gd e2 8) (gd e2 9) w2 ∧ μ (gd e2 8) (gd e2 9) w2 < μ (gd e' 8) (gd e' 9) w') (fun i => @Bool.rec (fun _ => KE) ((fun _ _ _ => False) i) (leatref01_Put_P1 K) (Nat.beq i 0)) (retK Tryz.prog Tryz.f44.results.toList K) [b0, n1, k_2, b3, n4, k_5, A1, A2, (gd e' 8), (gd e' 9), A4, A5, A6, A7, A8, A9, C0, C1, C2, C3, C4, C5, C6, C7, C8, C9, D0, D1, (gd e' 28), (gd e' 29), (gd e' 30), (gd e' 31), (gd e' 32), (gd e' 33), (gd e' 34), (gd e' 35), (gd e' 36), (gd e' 37), (gd e' 38), (gd e' 39), (gd e' 40), E5] w' := leatref01_Put_L1_k (fun e2 w2 => Inv (gd e2 8) (gd e2 9) w2 ∧ μ (gd e2 8) (gd e2 9) w2 < μ (gd e' 8) (gd e' 9) w') (leatref01_Put_P1 K) (Eq.mp (by kernel_rfl) h)
  exact Eq.mp (by kernel_rfl) h2

theorem leatref01_Put_P1_k {K : KV} {b0 n1 k_2 b3 n4 k_5 A1 A2 out8 i9 A4 A5 A6 A7 A8 A9 C0 C1 C2 C3 C4 C5 C6 C7 C8 C9 D0 D1 D2 D3 D4 D5 D6 D7 D8 D9 E0 E1 E2 E3 E4 E5 : Value} {w : World}
    (h : K (Value.tuple #[out8, (Value.int IntKind.i64 0)]) w) :
    cCode Tryz.prog (cd Tryz.f44 [1, 1, 1, 1, 1]) (retK Tryz.prog Tryz.f44.results.toList K) (fun _ _ _ => False) (retK Tryz.prog Tryz.f44.results.toList K) [b0, n1, k_2, b3, n4, k_5, A1, A2, out8, i9, A4, A5, A6, A7, A8, A9, C0, C1, C2, C3, C4, C5, C6, C7, C8, C9, D0, D1, D2, D3, D4, D5, D6, D7, D8, D9, E0, E1, E2, E3, E4, E5] w := Eq.mp (by kernel_rfl) h

theorem leatref01_Put_P1_r {K : KV} {b0 n1 k_2 b3 n4 k_5 A1 A2 out8 i9 A4 A5 A6 A7 A8 A9 C0 C1 C2 C3 C4 C5 C6 C7 C8 C9 D0 D1 D2 D3 D4 D5 D6 D7 D8 D9 E0 E1 E2 E3 E4 E5 : Value} {w : World}
    (h : K (Value.tuple #[out8, (Value.int IntKind.i64 0)]) w) :
    leatref01_Put_P1 K [b0, n1, k_2, b3, n4, k_5, A1, A2, out8, i9, A4, A5, A6, A7, A8, A9, C0, C1, C2, C3, C4, C5, C6, C7, C8, C9, D0, D1, D2, D3, D4, D5, D6, D7, D8, D9, E0, E1, E2, E3, E4, E5] w := by
  delta leatref01_Put_P1
  exact Eq.mp (congrArg (fun c => cCode Tryz.prog c (retK Tryz.prog Tryz.f44.results.toList K) (fun _ _ _ => False) (retK Tryz.prog Tryz.f44.results.toList K) [b0, n1, k_2, b3, n4, k_5, A1, A2, out8, i9, A4, A5, A6, A7, A8, A9, C0, C1, C2, C3, C4, C5, C6, C7, C8, C9, D0, D1, D2, D3, D4, D5, D6, D7, D8, D9, E0, E1, E2, E3, E4, E5] w) (by kernel_rfl : (cd Tryz.f44 [1, 1, 1, 1, 1]) = (cd Tryz.f44 [1, 1, 1, 1, 1]))) (leatref01_Put_P1_k h)
attribute [irreducible] leatref01_Put_P1 leatref01_Put_L1

def leatref01_Take_A1 (K : KV) : KE := cCode Tryz.prog (cd Tryz.f46 [1, 1, 1, 1]) (retK Tryz.prog Tryz.f46.results.toList K) (fun _ _ _ => False) (retK Tryz.prog Tryz.f46.results.toList K)
def leatref01_Take_P1 (K : KV) : KE := cCode Tryz.prog (cd Tryz.f46 [1, 1, 1, 1, 1]) (retK Tryz.prog Tryz.f46.results.toList K) (fun _ _ _ => False) (retK Tryz.prog Tryz.f46.results.toList K)
def leatref01_Take_L1 (K : KV) : KE := cCode Tryz.prog (cd Tryz.f46 [1, 1, 1, 1, 0, 1, 0]) (leatref01_Take_P1 K) (fun i => @Bool.rec (fun _ => KE) ((fun _ _ _ => False) i) (leatref01_Take_P1 K) (Nat.beq i 0)) (retK Tryz.prog Tryz.f46.results.toList K)
theorem leatref01_Take_k {K : KV} (xc0 : Code) {b0 at1 k_2 : Value} {w : World}
    (h : call Tryz.prog 61 #[k_2] (fun A6 w =>
    un Tryz.prog UnOp.not A6 (fun A7 w =>
    gsel A7 false (fun k15 =>
    bin Tryz.prog BinOp.lss 3 false true at1 (Value.int IntKind.i64 0) (fun C0 w =>
    k15 [at1, C0] w) w)
    (fun k => k [undef, undef] w) (fun us15 w =>
    pick A7 (Value.bool true) (gd us15 1) (fun C1 w =>
    gsel C1 false (fun k19 =>
    blt Tryz.prog Builtin.len #[28] 3 #[false] #[b0] (fun C5 w =>
    bin Tryz.prog BinOp.gtr 3 false false at1 C5 (fun C6 w =>
    k19 [at1, b0, C5, C6] w) w) w)
    (fun k => k [undef, undef, undef, undef] w) (fun us19 w =>
    pick C1 (Value.bool true) (gd us19 3) (fun C7 w =>
    cond C7
      (K (Value.tuple #[(Value.int IntKind.u64 0), (Value.int IntKind.i64 0), (Value.int IntKind.i64 1)]) w)
      (blt Tryz.prog Builtin.len #[28] 3 #[false] #[b0] (fun C9 w =>
    bin Tryz.prog BinOp.sub 3 false false C9 at1 (fun D1 w =>
    bin Tryz.prog BinOp.lss 3 false false D1 k_2 (fun D3 w =>
    cond D3
      (K (Value.tuple #[(Value.int IntKind.u64 0), (Value.int IntKind.i64 0), (Value.int IntKind.i64 5)]) w)
      ((cCode Tryz.prog xc0 (retK Tryz.prog Tryz.f46.results.toList K) (fun _ _ _ => False) (retK Tryz.prog Tryz.f46.results.toList K)) (b0::at1::k_2::undef::undef::undef::(Value.int IntKind.u64 0)::(Value.int IntKind.i64 0)::(Value.int IntKind.i64 0)::(Value.int IntKind.u64 0)::undef::k_2::A6::A7::A7::(gd us15 0)::(gd us15 1)::C1::C1::(gd us19 0)::(gd us19 1)::(gd us19 2)::(gd us19 3)::C7::b0::C9::at1::D1::k_2::D3::undef::undef::undef::undef::undef::undef::undef::undef::undef::undef::undef::undef::undef::undef::undef::undef::undef::undef::undef::[]) w)) w) w) w)) w)) w)) w) w) :
    cCode Tryz.prog (rep [1, 1, 1, 1] xc0 (cd Tryz.f46 [])) (retK Tryz.prog Tryz.f46.results.toList K) (fun _ _ _ => False) (retK Tryz.prog Tryz.f46.results.toList K) (b0::at1::k_2::undef::undef::undef::undef::undef::undef::undef::undef::undef::undef::undef::undef::undef::undef::undef::undef::undef::undef::undef::undef::undef::undef::undef::undef::undef::undef::undef::undef::undef::undef::undef::undef::undef::undef::undef::undef::undef::undef::undef::undef::undef::undef::undef::undef::undef::undef::[]) w := Eq.mp (by kernel_rfl) h

theorem leatref01_Take_in {K : KV} {b0 at1 k_2 : Value} {w : World}
    (h : call Tryz.prog 61 #[k_2] (fun A6 w =>
    un Tryz.prog UnOp.not A6 (fun A7 w =>
    gsel A7 false (fun k15 =>
    bin Tryz.prog BinOp.lss 3 false true at1 (Value.int IntKind.i64 0) (fun C0 w =>
    k15 [at1, C0] w) w)
    (fun k => k [undef, undef] w) (fun us15 w =>
    pick A7 (Value.bool true) (gd us15 1) (fun C1 w =>
    gsel C1 false (fun k19 =>
    blt Tryz.prog Builtin.len #[28] 3 #[false] #[b0] (fun C5 w =>
    bin Tryz.prog BinOp.gtr 3 false false at1 C5 (fun C6 w =>
    k19 [at1, b0, C5, C6] w) w) w)
    (fun k => k [undef, undef, undef, undef] w) (fun us19 w =>
    pick C1 (Value.bool true) (gd us19 3) (fun C7 w =>
    cond C7
      (K (Value.tuple #[(Value.int IntKind.u64 0), (Value.int IntKind.i64 0), (Value.int IntKind.i64 1)]) w)
      (blt Tryz.prog Builtin.len #[28] 3 #[false] #[b0] (fun C9 w =>
    bin Tryz.prog BinOp.sub 3 false false C9 at1 (fun D1 w =>
    bin Tryz.prog BinOp.lss 3 false false D1 k_2 (fun D3 w =>
    cond D3
      (K (Value.tuple #[(Value.int IntKind.u64 0), (Value.int IntKind.i64 0), (Value.int IntKind.i64 5)]) w)
      ((leatref01_Take_A1 K) (b0::at1::k_2::undef::undef::undef::(Value.int IntKind.u64 0)::(Value.int IntKind.i64 0)::(Value.int IntKind.i64 0)::(Value.int IntKind.u64 0)::undef::k_2::A6::A7::A7::(gd us15 0)::(gd us15 1)::C1::C1::(gd us19 0)::(gd us19 1)::(gd us19 2)::(gd us19 3)::C7::b0::C9::at1::D1::k_2::D3::undef::undef::undef::undef::undef::undef::undef::undef::undef::undef::undef::undef::undef::undef::undef::undef::undef::undef::undef::[]) w)) w) w) w)) w)) w)) w) w) :
    Gives Tryz.prog 46 #[b0, at1, k_2] w K := enter' Tryz.func46 (by kernel_rfl) (Eq.mp (congrArg (fun c => cCode Tryz.prog c (retK Tryz.prog Tryz.f46.results.toList K) (fun _ _ _ => False) (retK Tryz.prog Tryz.f46.results.toList K) (b0::at1::k_2::undef::undef::undef::undef::undef::undef::undef::undef::undef::undef::undef::undef::undef::undef::undef::undef::undef::undef::undef::undef::undef::undef::undef::undef::undef::undef::undef::undef::undef::undef::undef::undef::undef::undef::undef::undef::undef::undef::undef::undef::undef::undef::undef::undef::undef::undef::[]) w) (by kernel_rfl : (rep [1, 1, 1, 1] (cd Tryz.f46 [1, 1, 1, 1]) (cd Tryz.f46 [])) = (cd Tryz.f46 []))) (leatref01_Take_k (cd Tryz.f46 [1, 1, 1, 1]) h))
theorem leatref01_Take_go : isGo Tryz.prog 46 := ⟨_, Tryz.func46, by kernel_rfl, by kernel_rfl⟩

section
variable {b0 at1 k_2 b3 at4 k_5 A1 A2 A3 n9 i10 A5 A6 A7 A8 A9 C0 C1 C2 C3 C4 C5 C6 C7 C8 C9 D0 D1 D2 D3 D4 D5 D6 D7 D8 D9 E0 E1 E2 E3 E4 E5 E6 E7 E8 E9 F0 F1 F2 : Value}
theorem leatref01_Take_A1_k {K : KV} {w : World}
    (h : (cCode Tryz.prog (cd Tryz.f46 [1, 1, 1, 1, 0, 1, 0]) (cCode Tryz.prog (cd Tryz.f46 [1, 1, 1, 1, 1]) (retK Tryz.prog Tryz.f46.results.toList K) (fun _ _ _ => False) (retK Tryz.prog Tryz.f46.results.toList K)) (fun i => @Bool.rec (fun _ => KE) ((fun _ _ _ => False) i) (cCode Tryz.prog (cd Tryz.f46 [1, 1, 1, 1, 1]) (retK Tryz.prog Tryz.f46.results.toList K) (fun _ _ _ => False) (retK Tryz.prog Tryz.f46.results.toList K)) (Nat.beq i 0)) (retK Tryz.prog Tryz.f46.results.toList K)) (b0::at1::k_2::b3::at4::k_5::A1::A2::A3::n9::(Value.int IntKind.i64 0)::A5::A6::A7::A8::A9::C0::C1::C2::C3::C4::C5::C6::C7::C8::C9::D0::D1::D2::D3::D4::D5::D6::D7::D8::D9::E0::E1::E2::E3::E4::E5::E6::E7::E8::E9::F0::F1::F2::[]) w) :
    cCode Tryz.prog (cd Tryz.f46 [1, 1, 1, 1]) (retK Tryz.prog Tryz.f46.results.toList K) (fun _ _ _ => False) (retK Tryz.prog Tryz.f46.results.toList K) (b0::at1::k_2::b3::at4::k_5::A1::A2::A3::n9::i10::A5::A6::A7::A8::A9::C0::C1::C2::C3::C4::C5::C6::C7::C8::C9::D0::D1::D2::D3::D4::D5::D6::D7::D8::D9::E0::E1::E2::E3::E4::E5::E6::E7::E8::E9::F0::F1::F2::[]) w := Eq.mp (by kernel_rfl) h

theorem leatref01_Take_A1_r {K : KV} {w : World}
    (h : (leatref01_Take_L1 K) (b0::at1::k_2::b3::at4::k_5::A1::A2::A3::n9::(Value.int IntKind.i64 0)::A5::A6::A7::A8::A9::C0::C1::C2::C3::C4::C5::C6::C7::C8::C9::D0::D1::D2::D3::D4::D5::D6::D7::D8::D9::E0::E1::E2::E3::E4::E5::E6::E7::E8::E9::F0::F1::F2::[]) w) :
    leatref01_Take_A1 K (b0::at1::k_2::b3::at4::k_5::A1::A2::A3::n9::i10::A5::A6::A7::A8::A9::C0::C1::C2::C3::C4::C5::C6::C7::C8::C9::D0::D1::D2::D3::D4::D5::D6::D7::D8::D9::E0::E1::E2::E3::E4::E5::E6::E7::E8::E9::F0::F1::F2::[]) w := by
  delta leatref01_Take_A1
  exact Eq.mp (congrArg (fun c => cCode Tryz.prog c (retK Tryz.prog Tryz.f46.results.toList K) (fun _ _ _ => False) (retK Tryz.prog Tryz.f46.results.toList K) (b0::at1::k_2::b3::at4::k_5::A1::A2::A3::n9::i10::A5::A6::A7::A8::A9::C0::C1::C2::C3::C4::C5::C6::C7::C8::C9::D0::D1::D2::D3::D4::D5::D6::D7::D8::D9::E0::E1::E2::E3::E4::E5::E6::E7::E8::E9::F0::F1::F2::[]) w) (by kernel_rfl : (cd Tryz.f46 [1, 1, 1, 1]) = (cd Tryz.f46 [1, 1, 1, 1]))) (leatref01_Take_A1_k h)

end
theorem leatref01_Take_L1_k {K : KV} (B1 : KE) (qc0 : KE) {b0 at1 k_2 b3 at4 k_5 A1 A2 A3 n9' i10' A5 A6 A7 A8 A9 C0 C1 C2 C3 C4 C5 C6 C7 C8 C9 D0 D1 D2 D3 E9 F0 F1 F2 : Value} {dd : Nat → Value} {w : World}
    (h : bin Tryz.prog BinOp.lss 3 false false i10' k_2 (fun D6 w =>
    cond D6
      (bin Tryz.prog BinOp.mul 22 true false (Value.int IntKind.u64 256) n9' (fun E0 w =>
    bin Tryz.prog BinOp.add 3 false false at1 i10' (fun E4 w =>
    idxA Tryz.prog 28 b0 E4 (fun E5 w =>
    ld Tryz.prog 5 E5 (fun E6 w =>
    conv Tryz.prog 5 22 E6 (fun E7 w =>
    bin Tryz.prog BinOp.add 22 false false E0 E7 (fun E8 w =>
    bin Tryz.prog BinOp.add 3 false true i10' (Value.int IntKind.i64 1) (fun D8 w =>
    B1 (b0::at1::k_2::b3::at4::k_5::A1::A2::A3::E8::D8::A5::A6::A7::A8::A9::C0::C1::C2::C3::C4::C5::C6::C7::C8::C9::D0::D1::D2::D3::i10'::k_2::D6::i10'::D8::n9'::E0::b0::at1::i10'::E4::E5::E6::E7::E8::E9::F0::F1::F2::[]) w) w) w) w) w) w) w) w)
      (qc0 (b0::at1::k_2::b3::at4::k_5::A1::A2::A3::n9'::i10'::A5::A6::A7::A8::A9::C0::C1::C2::C3::C4::C5::C6::C7::C8::C9::D0::D1::D2::D3::i10'::k_2::D6::(dd 33)::(dd 34)::(dd 35)::(dd 36)::(dd 37)::(dd 38)::(dd 39)::(dd 40)::(dd 41)::(dd 42)::(dd 43)::(dd 44)::E9::F0::F1::F2::[]) w)) w) :
    cCode Tryz.prog (cd Tryz.f46 [1, 1, 1, 1, 0, 1, 0, 0]) B1 (fun i => @Bool.rec (fun _ => KE) ((fun _ _ _ => False) i) qc0 (Nat.beq i 0)) (retK Tryz.prog Tryz.f46.results.toList K) (b0::at1::k_2::b3::at4::k_5::A1::A2::A3::n9'::i10'::A5::A6::A7::A8::A9::C0::C1::C2::C3::C4::C5::C6::C7::C8::C9::D0::D1::D2::D3::(dd 30)::(dd 31)::(dd 32)::(dd 33)::(dd 34)::(dd 35)::(dd 36)::(dd 37)::(dd 38)::(dd 39)::(dd 40)::(dd 41)::(dd 42)::(dd 43)::(dd 44)::E9::F0::F1::F2::[]) w := Eq.mp (by kernel_rfl) h

section
variable {b0 at1 k_2 b3 at4 k_5 A1 A2 A3 n9 i10 A5 A6 A7 A8 A9 C0 C1 C2 C3 C4 C5 C6 C7 C8 C9 D0 D1 D2 D3 D4 D5 D6 D7 D8 D9 E0 E1 E2 E3 E4 E5 E6 E7 E8 E9 F0 F1 F2 : Value}
theorem leatref01_Take_L1_r {K : KV} {w : World} (Inv : Value → Value → World → Prop) (μ : Value → Value → World → Nat) (h0 : Inv n9 i10 w)
    (hs : ∀ (n9' i10' : Value) (dd : Nat → Value) (w : World) (m : Nat), Inv n9' i10' w → m = μ n9' i10' w →
    bin Tryz.prog BinOp.lss 3 false false i10' k_2 (fun D6 w =>
    cond D6
      (bin Tryz.prog BinOp.mul 22 true false (Value.int IntKind.u64 256) n9' (fun E0 w =>
    bin Tryz.prog BinOp.add 3 false false at1 i10' (fun E4 w =>
    idxA Tryz.prog 28 b0 E4 (fun E5 w =>
    ld Tryz.prog 5 E5 (fun E6 w =>
    conv Tryz.prog 5 22 E6 (fun E7 w =>
    bin Tryz.prog BinOp.add 22 false false E0 E7 (fun E8 w =>
    bin Tryz.prog BinOp.add 3 false true i10' (Value.int IntKind.i64 1) (fun D8 w =>
    (Inv E8 D8 w ∧ μ E8 D8 w < m)) w) w) w) w) w) w) w)
      ((leatref01_Take_P1 K) (b0::at1::k_2::b3::at4::k_5::A1::A2::A3::n9'::i10'::A5::A6::A7::A8::A9::C0::C1::C2::C3::C4::C5::C6::C7::C8::C9::D0::D1::D2::D3::i10'::k_2::D6::(dd 33)::(dd 34)::(dd 35)::(dd 36)::(dd 37)::(dd 38)::(dd 39)::(dd 40)::(dd 41)::(dd 42)::(dd 43)::(dd 44)::E9::F0::F1::F2::[]) w)) w) :
    leatref01_Take_L1 K (b0::at1::k_2::b3::at4::k_5::A1::A2::A3::n9::i10::A5::A6::A7::A8::A9::C0::C1::C2::C3::C4::C5::C6::C7::C8::C9::D0::D1::D2::D3::D4::D5::D6::D7::D8::D9::E0::E1::E2::E3::E4::E5::E6::E7::E8::E9::F0::F1::F2::[]) w := by
  refine loop_rule (cd Tryz.f46 [1, 1, 1, 1, 0, 1, 0, 0]) [9, 10, 30, 31, 32, 33, 34, 35, 36, 37, 38, 39, 40, 41, 42, 43, 44] (by kernel_rfl) (fun e2 w2 => Inv (gd e2 9) (gd e2 10) w2) (fun e2 w2 => μ (gd e2 9) (gd e2 10) w2) h0 ?_
  intro e' w' hI
  have h := hs (gd e' 9) (gd e' 10) (fun i => gd e' i) w' _ hI rfl
  have h2 : cCode Tryz.prog (cd Tryz.f46 [1, 1, 1, 1, 0, 1, 0, 0]) (fun e2 w2 => Inv (gd e2 9) (gd e2 10) w2 ∧ μ (gd e2 9) (gd e2 10) w2 < μ (gd e' 9) (gd e' 10) w') (fun i => @Bool.rec (fun _ => KE) ((fun _ _ _ => False) i) (leatref01_Take_P1 K) (Nat.beq i 0)) (retK Tryz.prog Tryz.f46.results.toList K) (b0::at1::k_2::b3::at4::k_5::A1::A2::A3::(gd e' 9)::(gd e' 10)::A5::A6::A7::A8::A9::C0::C1::C2::C3::C4::C5::C6::C7::C8::C9::D0::D1::D2::D3::(gd e' 30)::(gd e' 31)::(gd e' 32)::(gd e' 33)::(gd e' 34)::(gd e' 35)::(gd e' 36)::(gd e' 37)::(gd e' 38)::(gd e' 39)::(gd e' 40)::(gd e' 41)::(gd e' 42)::(gd e' 43)::(gd e' 44)::E9::F0::F1::F2::[]) w' := leatref01_Take_L1_k (fun e2 w2 => Inv (gd e2 9) (gd e2 10) w2 ∧ μ (gd e2 9) (gd e2 10) w2 < μ (gd e' 9) (gd e' 10) w') (leatref01_Take_P1 K) (Eq.mp (by kernel_rfl) h)
  exact Eq.mp (by kernel_rfl) h2

theorem leatref01_Take_P1_k {K : KV} {w : World}
    (h : bin Tryz.prog BinOp.add 3 false false at1 k_2 (fun F2 w =>
    K (Value.tuple #[n9, F2, (Value.int IntKind.i64 0)]) w) w) :
    cCode Tryz.prog (cd Tryz.f46 [1, 1, 1, 1, 1]) (retK Tryz.prog Tryz.f46.results.toList K) (fun _ _ _ => False) (retK Tryz.prog Tryz.f46.results.toList K) (b0::at1::k_2::b3::at4::k_5::A1::A2::A3::n9::i10::A5::A6::A7::A8::A9::C0::C1::C2::C3::C4::C5::C6::C7::C8::C9::D0::D1::D2::D3::D4::D5::D6::D7::D8::D9::E0::E1::E2::E3::E4::E5::E6::E7::E8::E9::F0::F1::F2::[]) w := Eq.mp (by kernel_rfl) h

theorem leatref01_Take_P1_r {K : KV} {w : World}
    (h : bin Tryz.prog BinOp.add 3 false false at1 k_2 (fun F2 w =>
    K (Value.tuple #[n9, F2, (Value.int IntKind.i64 0)]) w) w) :
    leatref01_Take_P1 K (b0::at1::k_2::b3::at4::k_5::A1::A2::A3::n9::i10::A5::A6::A7::A8::A9::C0::C1::C2::C3::C4::C5::C6::C7::C8::C9::D0::D1::D2::D3::D4::D5::D6::D7::D8::D9::E0::E1::E2::E3::E4::E5::E6::E7::E8::E9::F0::F1::F2::[]) w := by
  delta leatref01_Take_P1
  exact Eq.mp (congrArg (fun c => cCode Tryz.prog c (retK Tryz.prog Tryz.f46.results.toList K) (fun _ _ _ => False) (retK Tryz.prog Tryz.f46.results.toList K) (b0::at1::k_2::b3::at4::k_5::A1::A2::A3::n9::i10::A5::A6::A7::A8::A9::C0::C1::C2::C3::C4::C5::C6::C7::C8::C9::D0::D1::D2::D3::D4::D5::D6::D7::D8::D9::E0::E1::E2::E3::E4::E5::E6::E7::E8::E9::F0::F1::F2::[]) w) (by kernel_rfl : (cd Tryz.f46 [1, 1, 1, 1, 1]) = (cd Tryz.f46 [1, 1, 1, 1, 1]))) (leatref01_Take_P1_k h)
attribute [irreducible] leatref01_Take_A1 leatref01_Take_P1 leatref01_Take_L1

end
end Go.Proofs.YtfjafbbalohmhaaGreatDoor
/- The contracts of the reference that writes and reads numbers and single strings. -/
namespace Go.Proofs.YtfjafbbalohmhaaGreatDoor
set_option maxRecDepth 100000
open Go.RowKit
attribute [local irreducible] bin un conv call callV blt slc fldA fld idxA idx lkp mUpd mEnt eSt rng nxt ent ext alc box bld bldS ld sto nilC mkMap mkS ifc pick rdy wts gsel sti cond retM Gives cCode cGrp cSeq cOp

theorem rsize_c {k : Int} {w : World} {K : KV} (h : K (.bool (decide (widthOf k ≠ 0))) w) : call Tryz.prog 61 #[.int .i64 k] K w := by
  refine call_of leatref01_size_go (leatref01_size_in ?_)
  by_cases h1 : k = 1
  · subst h1; (repeat (first | refine bin_eql ?_ | refine pick_T ?_ | refine gsel_Tn ?_)); exact h
  by_cases h2 : k = 2
  · subst h2; (repeat (first | refine bin_eql ?_ | refine pick_T ?_ | refine pick_F ?_ | refine gsel_Tn ?_ | refine gsel_Fn ?_)); exact h
  by_cases h4 : k = 4
  · subst h4; (repeat (first | refine bin_eql ?_ | refine pick_T ?_ | refine pick_F ?_ | refine gsel_Tn ?_ | refine gsel_Fn ?_)); exact h
  by_cases h8 : k = 8
  · subst h8; (repeat (first | refine bin_eql ?_ | refine pick_F ?_ | refine gsel_Fn ?_)); exact h
  have hw : widthOf k = 0 := by simp [widthOf, *]
  rw [hw] at h
  (repeat (first | refine bin_eql ?_ | refine gsel_nf (by omega) ?_ | refine pick_f (by omega) ?_))
  have : gd [Value.int .i64 k, Value.bool (decide (k = 8))] 1 = Value.bool (decide ((0 : Int) ≠ 0)) := by
    show Value.bool (decide (k = 8)) = _
    simp [h8]
  rw [this]; exact h

theorem rput_c {a : Option Addr} {n c : Nat} {l : List UInt8} {x : Nat} {k : Int} {w : World} {K : KV} (hb : RB w a n c l) (hn : n ≤ 140737488351232) (hx : x < 18446744073709551616)
    (h : ∀ a' n' c' w', OB w' w.heap.size a' n' c' (putS l x k).1 → Below w.heap.size w w' → K (.tuple #[.slice a' n' c', .int .i64 (putS l x k).2]) w') :
    call Tryz.prog 44 #[.slice a n c, .int .u64 x, .int .i64 k] K w := by
  refine call_of leatref01_Put_go (leatref01_Put_in ?_)
  refine rsize_c ?_
  by_cases hw0 : widthOf k = 0
  · have hp : putS l x k = ([], 1) := by simp [putS, hw0]
    rw [hp] at h
    (repeat (first | refine un_notD ?_ | refine cond_t (by omega) ?_))
    exact h _ _ _ _ (OB.nil _ _) (Below.refl _ _)
  obtain ⟨N, hN, rfl⟩ := width_ne hw0
  have hwN := width_K N hN
  have hN8 : 1 ≤ N ∧ N ≤ 8 := by omega
  by_cases hbig : 256 ^ N ≤ x
  · have hp : putS l x N = ([], 6) := by simp [putS, hw0, hbig]
    rw [hp] at h
    have hq : (0 : Int) < ((x / 256 ^ N : Nat) : Int) := by
      have : 0 < x / 256 ^ N := Nat.div_pos hbig (Nat.pow_pos (by omega))
      omega
    have : N < 8 := by
      rcases hN with rfl | rfl | rfl | rfl <;> omega
    (repeat (first | refine bin_lss ?_ | refine un_notD ?_ | refine mul64 (by omega) (by omega) ?_ | refine cvIUint (by omega) (by omega) ?_ | refine cond_f (by omega) ?_ | refine gsel_pt (by omega) ?_))
    refine bin_shr (by omega) ?_
    rw [shr_bytes x N (by omega)]
    (repeat (first | refine bin_gtr ?_ | refine cond_t (by omega) ?_ | refine pick_t (by omega) ?_))
    exact h _ _ _ _ (OB.nil _ _) (Below.refl _ _)
  have hp : putS l x N = (l ++ beBytes x N, 0) := by simp [putS, hw0, hbig]
  rw [hp] at h
  have hq : ((x / 256 ^ N : Nat) : Int) = 0 := by
    have : x / 256 ^ N = 0 := Nat.div_eq_of_lt (by omega)
    omega
  have hll := hb.len
  rcases Nat.lt_or_ge N 8 with h8 | h8
  all_goals
    (repeat (first | refine bin_lss ?_ | refine un_notD ?_ | refine mul64 (by omega) (by omega) ?_ | refine cvIUint (by omega) (by omega) ?_ | refine cond_F ?_ | refine cond_f (by omega) ?_ | refine gsel_pt (by omega) ?_ | refine gsel_pf (by omega) ?_ | refine pick_f (by omega) ?_))
    try
      refine bin_shr (by omega) ?_
      rw [shr_bytes x N (by omega)]
      (repeat (first | refine bin_gtr ?_ | refine cond_f (by omega) ?_ | refine pick_t (by omega) ?_))
    refine empty8 w.heap.size (Nat.le_refl _) ?_
    intro a1 w1 ho1 hb1
    refine app8 w.heap.size ho1 (hb.below hb1 (by omega)) (by omega) hb1.size ?_
    intro a2 c2 w2 ho2 hg2
    have hb2 : Below w.heap.size w w2 := hb1.grown hg2 hb1.size (fun k hk => (OV.block ho1 k hk).1)
    rw [List.nil_append, Nat.zero_add] at ho2
    (repeat (first | refine sub64 (by omega) (by omega) ?_))
    refine leatref01_Put_L1_r (Inv := fun out i wr => ∃ (j : Nat) (a' : Option Addr) (n' c' : Nat), j ≤ N ∧ i = .int .i64 ((N : Int) - 1 - (j : Int)) ∧ out = .slice a' n' c' ∧ OB wr w.heap.size a' n' c' (l ++ (beBytes x N).take j) ∧ Below w.heap.size w wr)
      (μ := fun _ i _ => (intOf i + 1).toNat) ⟨0, _, _, _, by omega, by simp, rfl, by simpa using ho2, hb2⟩ ?_
    rintro _ _ _ w3 m ⟨j, a3, n3, c3, hj, rfl, rfl, ho3, hb3⟩ hm
    have hl3 := ho3.len
    simp only [List.length_append, List.length_take, beBytes_len] at hl3
    by_cases hjN : j < N
    · (repeat (first | refine bin_geq ?_ | refine mul64 (by omega) (by omega) ?_ | refine cvIUint (by omega) (by omega) ?_ | refine cond_t (by omega) ?_))
      refine bin_shr (by omega) ?_
      rw [show 8 * ((N : Int) - 1 - (j : Int)) = 8 * ((N - 1 - j : Nat) : Int) by omega, shr_bytes x (N - 1 - j) (by omega)]
      refine cvU8 ?_
      refine bld8 rfl ?_
      intro w4 hb4 hr4 hs4
      refine app8 w.heap.size (ho3.below hb4 (by omega)) hr4 (by omega) (by have := hb3.size; omega) ?_
      intro a5 c5 w5 ho5 hg5
      (repeat (first | refine sub64 (by omega) (by omega) ?_))
      have hs3 := hb3.size
      refine ⟨⟨j + 1, _, _, _, by omega, by congr 1; omega, rfl, ?_, ?_⟩, ?_⟩
      · rw [beBytes_snoc x N j hjN, ← List.append_assoc]; exact ho5
      · exact (hb3.trans (hb4.mono hs3)).grown hg5 (by omega) (fun k hk => (OV.block (ho3.below hb4 (by omega)) k hk).1)
      · rw [hm]; simp only [intOf]; omega
    · have hjN' : j = N := by omega
      subst hjN'
      (repeat (first | refine leatref01_Put_P1_r ?_ | refine bin_geq ?_ | refine cond_f (by omega) ?_))
      have : (beBytes x j).take j = beBytes x j := List.take_of_length_le (by rw [beBytes_len]; omega)
      rw [this] at ho3
      exact h _ _ _ _ ho3 hb3

theorem rtake_c {a : Option Addr} {n c : Nat} {l : List UInt8} {p k : Int} {w : World} {K : KV} (hb : RB w a n c l) (hn : n ≤ 4611686018427387904)
    (h : K (.tuple #[.int .u64 (takeS l p k).1, .int .i64 (takeS l p k).2.1, .int .i64 (takeS l p k).2.2]) w) :
    call Tryz.prog 46 #[.slice a n c, .int .i64 p, .int .i64 k] K w := by
  have hl := hb.len
  refine call_of leatref01_Take_go (leatref01_Take_in ?_)
  refine rsize_c ?_
  by_cases h0 : widthOf k = 0
  · rw [show takeS l p k = (0, 0, 1) by simp [takeS, h0]] at h
    (repeat (first | refine un_notD ?_ | refine pick_T ?_ | refine cond_T ?_ | refine gsel_Tn ?_ | refine gsel_nt (by omega) ?_ | refine pick_t (by omega) ?_))
    exact h
  (repeat (first | refine bin_lss ?_ | refine un_notD ?_ | refine gsel_nf (by omega) ?_ | refine pick_f (by omega) ?_))
  by_cases h1 : p < 0
  · rw [show takeS l p k = (0, 0, 1) by simp [takeS, h1]] at h
    (repeat (first | refine cond_T ?_ | refine gsel_nt (by omega) ?_ | refine pick_t (by omega) ?_))
    exact h
  (repeat (first | refine bin_gtr ?_ | refine len8 ?_ | refine gsel_nf (by omega) ?_ | refine pick_f (by omega) ?_))
  by_cases h2 : (n : Int) < p
  · rw [show takeS l p k = (0, 0, 1) by simp [takeS, hl, h2]] at h
    (repeat (first | refine cond_t (by omega) ?_))
    exact h
  obtain ⟨N, hN, rfl⟩ := width_ne h0
  obtain ⟨q, rfl⟩ := Int.eq_ofNat_of_zero_le (show 0 ≤ p by omega)
  have hN8 : 1 ≤ N ∧ N ≤ 8 := by omega
  (repeat (first | refine bin_lss ?_ | refine sub64 (by omega) (by omega) ?_ | refine len8 ?_ | refine cond_f (by omega) ?_))
  by_cases h3 : (n : Int) - q < N
  · rw [show takeS l q N = (0, 0, 5) by unfold takeS; rw [if_neg (by simp [hl, h0]; omega), if_pos (by rw [hl]; exact h3)]] at h
    (repeat (first | refine cond_t (by omega) ?_))
    exact h
  have hs : takeS l q N = (beNat ((l.drop q).take N), (q : Int) + N, 0) := by
    unfold takeS
    rw [if_neg (by simp [hl, h0]; omega), if_neg (by rw [hl]; exact h3)]
    simp
  rw [hs] at h
  (repeat (first | refine leatref01_Take_A1_r ?_ | refine cond_f (by omega) ?_))
  have hlen : ((l.drop q).take N).length = N := by simp; omega
  refine leatref01_Take_L1_r (Inv := fun x i wr => ∃ j : Nat, j ≤ N ∧ i = .int .i64 (j : Nat) ∧ x = .int .u64 (beNat (((l.drop q).take N).take j) : Nat) ∧ wr = w)
    (μ := fun _ i _ => N - (intOf i).toNat) ⟨0, by omega, by simp, by simp [beNat], rfl⟩ ?_
  rintro _ _ _ w2 m ⟨j, hj, rfl, rfl, rfl⟩ hm
  by_cases hjN : j < N
  · (repeat (first | refine bin_lss ?_ | refine cond_t (by omega) ?_))
    refine bin_mul ?_
    rw [wrap_u64]
    (repeat (first | refine add64 (by omega) (by omega) ?_))
    refine idx8 hb (by omega) (by omega) ?_
    intro hc
    refine ld8 hc ?_
    have hlt := beNat_lt (((l.drop q).take N).take j)
    have hjl : (((l.drop q).take N).take j).length = j := by rw [List.length_take]; omega
    rw [hjl] at hlt
    have hlt2 : beNat (((l.drop q).take N).take j) < 72057594037927936 := by
      have : 256 ^ j ≤ 256 ^ 7 := Nat.pow_le_pow_right (by omega) (by omega)
      omega
    generalize hcc : l.getD ((q : Int) + (j : Int)).toNat 0 = cc
    have hc256 := cc.toNat_lt
    (repeat (first | refine cvBU (by omega) (by omega) ?_))
    refine bin_add ?_
    rw [wrap_u64, show (256 * (beNat (((l.drop q).take N).take j) : Int) % 18446744073709551616 + (cc.toNat : Int)) % 18446744073709551616 = ((beNat (((l.drop q).take N).take j) * 256 + cc.toNat : Nat) : Int) by omega]
    (repeat (first | refine add64 (by omega) (by omega) ?_))
    have hcc' : ((l.drop q).take N).getD j 0 = cc := by
      rw [← hcc]
      simp only [List.getD, List.getElem?_take, List.getElem?_drop]
      rw [if_pos hjN]
      congr 2
    refine ⟨⟨j + 1, by omega, by simp, ?_, rfl⟩, by rw [hm]; simp only [intOf]; omega⟩
    rw [take_snoc _ _ (by omega), beNat_snoc, hcc']
  · have : j = N := by omega
    subst this
    (repeat (first | refine leatref01_Take_P1_r ?_ | refine bin_lss ?_ | refine add64 (by omega) (by omega) ?_ | refine cond_f (by omega) ?_))
    rw [List.take_of_length_le (by omega)]
    exact h

end Go.Proofs.YtfjafbbalohmhaaGreatDoor
