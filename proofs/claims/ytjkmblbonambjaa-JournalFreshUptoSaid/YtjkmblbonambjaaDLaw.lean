/- The anchor of this layer's laws, and rules that they need. -/
import Derived.Test.YtjkmblbonambjaaSDWorks
import Derived.Test.YtjkmblbonambjaaDisk5
namespace Go.Proofs.Ytjkmblbonambjaa
set_option maxRecDepth 100000
open Go.RowKit
attribute [local irreducible] bin un conv call callV blt slc fldA fld idxA idx lkp mUpd mEnt eSt rng nxt ent ext alc box bld bldS ld sto nilC mkMap mkS ifc pick rdy wts gsel sti cond retM Gives cCode cGrp cSeq cOp

/-- No block is guarded. -/
instance noG : Guard := ⟨fun _ => False⟩

theorem info_int : (Try.prog.info? 3).map (fun i => (i.zero, i.size, i.bytes)) = some (some (.int .i64 0), 1, 8) := by kernel_rfl

/-- A slice literal of numbers. -/
theorem bldI {w : World} {K : KV} {n : Nat} {ps : Array (Nat × Value)} (l : List Int) (hn : n = l.length) (hps : ps = (partsOf 0 (l.map (Value.int .i64))).toArray) (h0 : l.length ≠ 0) (h24 : l.length ≤ 1000000)
    (h : ∀ a' w', RI w' a' n n l → Below w.heap.size w w' → K (.slice a' n n) w') : bldS Try.prog 30 n ps K w := by
  obtain ⟨i, hi, hz, hsz, hby⟩ := info_parts info_int
  have hl : (l.map (Value.int .i64)).length = l.length := by simp
  subst hn
  refine bldS_of (vs := l.map (Value.int .i64)) (by rw [hl]) hps Try.underlying30 hi hz hsz rfl (by rw [hl]; exact h0) (by rw [hl]; exact h24) (fun v hv => by obtain ⟨c, _, rfl⟩ := List.mem_map.1 hv; rfl) ?_
  intro ho hb
  rw [hl] at *
  exact h _ _ ho.rv hb


set_option maxHeartbeats 2000000 in
/-- The anchor holds: the chapter's examples. -/
theorem works_c {w : World} {K : KV} (h : ∀ w', Below w.heap.size w w' → K (.bool true) w') : call Try.prog 10 #[] K w := by
  refine call_of leatlaw04_works_go (leatlaw04_works_in ?_)
  refine new_c (fun _ _ hh => hh) ?_
  intro w1 p hd1 b1 hp
  have B1 : Kg DT w.heap.size w w1 := Kg.of b1
  (repeat (first | refine eqP_nil ?_ | refine cond_F ?_))
  refine const8 [97, 98] rfl rfl (by simp) (by simp) ?_
  intro a2 w2 r2 b2
  refine append_c (hd1.below b2) r2 (by omega) (by decide) ?_
  rw [show appendS ⟨([], []), [], false, -1⟩ 0 [97, 98] = (⟨([], []), [.app false [97, 98]], false, -1⟩, 0) from by kernel_rfl]
  intro w3 hd3 k3
  have B3 := B1.trans ((Kg.of b2).trans k3)
  refine sync_c hd3 ?_
  rw [show syncS ⟨([], []), [.app false [97, 98]], false, -1⟩ = (⟨([97, 98], []), [], false, -1⟩, 0) from by kernel_rfl]
  intro w4 hd4 k4
  have B4 := B3.trans k4
  refine const8 [99, 100] rfl rfl (by simp) (by simp) ?_
  intro a5 w5 r5 b5
  refine append_c (hd4.below b5) r5 (by omega) (by decide) ?_
  rw [show appendS ⟨([97, 98], []), [], false, -1⟩ 0 [99, 100] = (⟨([97, 98], []), [.app false [99, 100]], false, -1⟩, 0) from by kernel_rfl]
  intro w6 hd6 k6
  have B6 := B4.trans ((Kg.of b5).trans k6)
  refine loose_c hd6 ?_
  refine off_c hd6 ?_
  intro w7 hd7 k7
  have hpB : w.heap.size ≤ p := by omega
  have B7 := B6.trans (k7.mono (T' := DT) (by simp) hpB)
  refine power_c hd7 ?_
  (repeat (first | refine leatlaw04_works_A1_r ?_))
  refine bldI [0, 1] rfl rfl (by simp) (by simp) ?_
  intro a8 w8 r8 b8
  refine on_c (hd7.below b8) r8 (by decide) ?_
  rw [show onS ⟨([97, 98], []), [.app false [99, 100]], true, -1⟩ [0, 1] = (⟨([97, 98, 99], []), [], false, -1⟩, 0) from by kernel_rfl]
  intro w9 hd9 k9
  have B9 := B7.trans ((Kg.of b8).trans k9)
  refine read_c hd9 ?_
  rw [show readS ⟨([97, 98, 99], []), [], false, -1⟩ 0 = ([97, 98, 99], 0) from by kernel_rfl]
  intro a10 n10 c10 w10 o10 b10
  have hd10 := hd9.below b10
  have B10 := B9.trans (Kg.of b10)
  (repeat (first | refine ext_a ?_ | refine ext_b ?_))
  refine const8 [120] rfl rfl (by simp) (by simp) ?_
  intro a11 w11 r11 b11
  refine append_c (hd10.below b11) r11 (by omega) (by decide) ?_
  rw [show appendS ⟨([97, 98, 99], []), [], false, -1⟩ 1 [120] = (⟨([97, 98, 99], []), [.app true [120]], false, -1⟩, 0) from by kernel_rfl]
  intro w12 hd12 k12
  have K12 : Kg DT w.heap.size w10 w12 := (Kg.of b11).trans k12
  have B12 := B10.trans K12
  have o12 := o10.keep K12.toKeep (by decide)
  refine rename_c hd12 (by decide) ?_
  rw [show renS ⟨([97, 98, 99], []), [.app true [120]], false, -1⟩ = (⟨([97, 98, 99], []), [.app true [120], .ren], false, -1⟩, 0) from by kernel_rfl]
  intro w13 hd13 k13
  refine off_c hd13 ?_
  intro w14 hd14 k14
  have K14 := k13.trans (k14.mono (T' := DT) (by simp) hpB)
  have B14 := B12.trans K14
  have o14 := o12.keep K14.toKeep (by decide)
  refine bldI [1] rfl rfl (by simp) (by simp) ?_
  intro a15 w15 r15 b15
  refine on_c (hd14.below b15) r15 (by decide) ?_
  rw [show onS ⟨([97, 98, 99], []), [.app true [120], .ren], true, -1⟩ [1] = (⟨([97, 98, 99], [120]), [], false, -1⟩, 0) from by kernel_rfl]
  intro w16 hd16 k16
  have K16 := (Kg.of (T := DT) (B := w.heap.size) b15).trans k16
  have B16 := B14.trans K16
  have o16 := o14.keep K16.toKeep (by decide)
  refine read_c hd16 ?_
  rw [show readS ⟨([97, 98, 99], [120]), [], false, -1⟩ 0 = ([97, 98, 99], 0) from by kernel_rfl]
  intro a17 n17 c17 w17 o17 b17
  have hd17 := hd16.below b17
  have B17 := B16.trans (Kg.of b17)
  have o17' := OB.below o16 b17 (Nat.le_refl _)
  (repeat (first | refine leatlaw04_works_A2_r ?_ | refine ext_a ?_ | refine ext_b ?_))
  refine read_c hd17 ?_
  rw [show readS ⟨([97, 98, 99], [120]), [], false, -1⟩ 1 = ([120], 0) from by kernel_rfl]
  intro a18 n18 c18 w18 o18 b18
  have hd18 := hd17.below b18
  have B18 := B17.trans (Kg.of b18)
  have o18' := OB.below o17' b18 (Nat.le_refl _)
  have o18'' := OB.below o17 b18 (Nat.le_refl _)
  (repeat (first | refine ext_a ?_ | refine ext_b ?_))
  refine fuse_c hd18 (by decide) ?_
  intro w19 hd19 k19
  have hd19 : DK (fun _ => True) w19 _ p ⟨([97, 98, 99], [120]), [], false, 1⟩ := hd19
  have K19 := k19.mono (T' := DT) (by simp) hpB
  refine const8 [97] rfl rfl (by simp) (by simp) ?_
  intro a20 w20 r20 b20
  refine append_c (hd19.below b20) r20 (by omega) (by decide) ?_
  rw [show appendS ⟨([97, 98, 99], [120]), [], false, 1⟩ 0 [97] = (⟨([97, 98, 99], [120]), [.app false [97]], false, 0⟩, 0) from by kernel_rfl]
  intro w21 hd21 k21
  refine sync_c hd21 ?_
  rw [show syncS ⟨([97, 98, 99], [120]), [.app false [97]], false, 0⟩ = (⟨([97, 98, 99], [120]), [.app false [97]], true, -1⟩, 8) from by kernel_rfl]
  intro w22 hd22 k22
  have K22 := ((K19.trans (Kg.of b20)).trans k21).trans k22
  have B22 := B18.trans K22
  have q1 := o18.keep K22.toKeep (by decide)
  have q2 := o18'.keep K22.toKeep (by decide)
  have q3 := o18''.keep K22.toKeep (by decide)
  (repeat (first | refine gsel_pt rfl ?_ | refine pick_t rfl ?_ | refine bin_eql ?_))
  refine un_not ?_
  (repeat (first | refine gsel_pt rfl ?_ | refine pick_t rfl ?_ | refine str8 q1.rb (bin_eqlS ?_) | refine str8 q2.rb (bin_eqlS ?_) | refine str8 q3.rb (bin_eqlS ?_) | refine power_c hd22 (un_not ?_) | refine bin_eql ?_ | refine pick_T ?_ | refine gsel_T ?_))
  exact h _ (B22.below (Nat.le_refl _))
end Go.Proofs.Ytjkmblbonambjaa
