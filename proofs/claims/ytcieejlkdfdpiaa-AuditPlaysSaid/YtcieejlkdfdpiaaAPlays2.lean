/- AuditPlays, the walk. -/
import Derived.Test.YtcieejlkdfdpiaaAPlays
namespace Go.Proofs.Ytcieejlkdfdpiaa
set_option maxRecDepth 100000
open Go.ChangeShapes Go.WideShapes Go.ChangeAt Go.RowKit Go.ChangeMaps
attribute [local irreducible] bin un conv call callV blt slc fldA fld idxA idx lkp mUpd mEnt eSt rng nxt ent ext alc box bld bldS ld sto nilC mkMap mkS ifc pick rdy wts gsel sti cond retM Gives cCode cGrp cSeq cOp
section
variable {w : World} {K : KV}
theorem bndQ {B0 : Nat} {W w' : World} (hW : Below B0 W w) (hb : Below w.heap.size w w') (h0 : B0 ≤ w.heap.size) : Below B0 W w' := hW.trans (hb.mono h0)

set_option maxHeartbeats 2000000 in
theorem plays_L2 {l0 l1 t2 a3 b4 i5 x6 y7 e8 p9 q10 f11 ids12 i13 x14 y15 e16 p17 q18 f19 t20 t21 t22 t23 t24 t25 t26 t27 t28 t29 t30 t31 t32 t33 t34 t35 t36 t37 t38 t39 t40 t41 t42 t43 t44 t45 t46 t47 t48 t49 t50 t51 t52 t53 t54 t55 t56 t57 t58 t59 t60 t61 t62 t63 t64 t65 t66 t67 t68 t69 t70 t71 t72 t73 t74 t75 t76 t77 t78 t79 t80 t81 t82 t83 t84 t85 t86 t87 t88 t89 t90 t91 t92 t93 t94 t95 t96 t97 t98 t99 t100 t101 t102 t103 t104 t105 t106 t107 t108 t109 t110 t111 t112 t113 t114 t115 t116 t117 t118 t119 t120 t121 t122 t123 t124 t125 t126 t127 t128 t129 t130 t131 t132 t133 t134 t135 t136 t137 t138 t139 t140 t141 t142 t143 t144 t145 t146 t147 t148 t149 t150 t151 t152 t153 t154 t155 t156 t157 t158 t159 t160 t161 t162 t163 t164 t165 t166 t167 t168 t169 t170 t171 t172 t173 t174 t175 t176 t177 t178 t179 t180 t181 t182 t183 t184 t185 t186 t187 t188 t189 t190 : Value} {W : World} {B : Nat} {fa : AF} {fb : RF} {S : AS} {R : RS} {m : Nat} (hp : PW W.heap.size B w fa fb S R) (hs : SIM m S R) (hm : m ≤ 200) (hW : Below W.heap.size W w)
    (ea : a3 = ptr fa.p) (eb : b4 = ptr fb.p) (eid : ids12 = .slice none 0 0) (ei : i13 = .int .i64 0) (h : ∀ w', Below W.heap.size W w' → K (.bool true) w') :
    leatlaw26_AuditPlays_L2 K ((l0 :: l1 :: t2 :: a3 :: b4 :: i5 :: x6 :: y7 :: e8 :: p9 :: q10 :: f11 :: ids12 :: i13 :: x14 :: y15 :: e16 :: p17 :: q18 :: f19 :: t20 :: t21 :: t22 :: t23 :: t24 :: t25 :: t26 :: t27 :: t28 :: t29 :: t30 :: t31 :: t32 :: t33 :: t34 :: t35 :: t36 :: t37 :: t38 :: t39 :: t40 :: t41 :: t42 :: t43 :: t44 :: t45 :: t46 :: t47 :: t48 :: t49 :: t50 :: t51 :: t52 :: t53 :: t54 :: t55 :: t56 :: t57 :: t58 :: t59 :: t60 :: t61 :: t62 :: t63 :: t64 :: t65 :: t66 :: t67 :: t68 :: t69 :: t70 :: t71 :: t72 :: t73 :: t74 :: t75 :: t76 :: t77 :: t78 :: t79 :: t80 :: t81 :: t82 :: t83 :: t84 :: t85 :: t86 :: t87 :: t88 :: t89 :: t90 :: t91 :: t92 :: t93 :: t94 :: t95 :: t96 :: t97 :: t98 :: t99 :: t100 :: t101 :: t102 :: t103 :: t104 :: t105 :: t106 :: t107 :: t108 :: t109 :: t110 :: t111 :: t112 :: t113 :: t114 :: t115 :: t116 :: t117 :: t118 :: t119 :: t120 :: t121 :: t122 :: t123 :: t124 :: t125 :: t126 :: t127 :: t128 :: t129 :: t130 :: t131 :: t132 :: t133 :: t134 :: t135 :: t136 :: t137 :: t138 :: t139 :: t140 :: t141 :: t142 :: t143 :: t144 :: t145 :: t146 :: t147 :: t148 :: t149 :: t150 :: t151 :: t152 :: t153 :: t154 :: t155 :: t156 :: t157 :: t158 :: t159 :: t160 :: t161 :: t162 :: t163 :: t164 :: t165 :: t166 :: t167 :: t168 :: t169 :: t170 :: t171 :: t172 :: t173 :: t174 :: t175 :: t176 :: t177 :: t178 :: t179 :: t180 :: t181 :: t182 :: t183 :: t184 :: t185 :: t186 :: t187 :: t188 :: t189 :: t190 :: [])) w := by
  subst ea eb eid ei
  have hnl := hs.nl
  have hab := hs.ab (by omega)
  have hrb := hs.rb0 (by omega)
  refine leatlaw26_AuditPlays_L2_r (Inv := fun ids i _ _ _ _ _ _ wr => ∃ (k : Nat) (a : Option Addr) (c : Nat), ids = .slice a k c ∧ i = .int .i64 (k : Nat) ∧ k ≤ R.N.length ∧ OV wr w.heap.size E64 a k c (((R.N.take k).map (·.1)).map uv) ∧ PW W.heap.size B wr fa fb S R ∧ Below W.heap.size W wr ∧ w.heap.size ≤ wr.heap.size)
    (μ := fun _ i _ _ _ _ _ _ _ => R.N.length - (intOf i).toNat) ⟨0, none, 0, rfl, rfl, by omega, OV.nil _ _ _, hp, hW, Nat.le_refl _⟩ ?_
  rintro _ _ _ _ _ _ _ _ _ w1 mm ⟨k, a, c, rfl, rfl, hk, o1, p1, W1, s1⟩ hmm
  refine rhN p1.b (fun _ _ => ?_)
  refine lenN ?_
  refine bin_lss ?_
  by_cases hlt : k < R.N.length
  · refine cond_t (by omega) ?_
    obtain ⟨x, hx⟩ : ∃ x, R.N[k]? = some x := ⟨_, List.getElem?_eq_getElem hlt⟩
    refine rhN p1.b (fun _ _ => ?_)
    refine rdN0 p1.b hx (fun _ _ => ?_)
    refine bldSG (vs := [.int .u64 x.1]) Try.underlying47 (s := 1) (by kernel_rfl) (by kernel_rfl) (by omega) rfl (by simp) (by simp) (by simp) (by simp [Value.cells]) ?_
    intro w2 hb2 b2 s2
    have hb2 : blk w2 w1.heap.size 33 [.int .u64 x.1] := hb2
    have o2 : OV w2 w.heap.size E64 a k c (((R.N.take k).map (·.1)).map uv) := own_same o1 fun q hq => b2.block q (OV.block o1 q hq).2
    have p2 := p1.below b2
    obtain ⟨i, hi, hz, hsz, hby⟩ := info_parts info_u64
    refine app_own (base := w.heap.size) (s := 1) (ys := [.int .u64 x.1]) Try.underlying47 hi hz hsz hby rfl (by omega) o2 hb2 rfl rfl (by simp [Value.oneCell']) (by omega) (by omega) (by omega) ?_
    intro a' c' w3 o3 g3
    have c3 := Ch.of_grown g3
    have own3 : ∀ q, q ∈ ((Value.slice a k c).ownBlock).toList → w.heap.size ≤ q := fun q hq => (OV.block o2 q (by simpa using hq)).1
    have p3 : PW W.heap.size B w3 fa fb S R := by
      have ht := p1.top
      have hlo := hp.lo
      have flt := foot_lt hp.a
      have hdl := hp.a.head.lt
      refine ⟨p2.a.ch c3 (fun hh => by have := own3 _ hh; omega) (fun q hq hh => by have := own3 _ hh; have := flt q hq; omega), p2.b.ch c3 (fun q hq hh => ?_), p2.lo, by have := c3.size; have := p2.top; omega⟩
      have := own3 q hh; have := (hp.b.lt q hq).2; omega
    have W3 : Below W.heap.size W w3 := (W1.trans (b2.mono p1.b0)).trans (c3.below (fun q hq => by have := own3 q hq; have := hp.b0; omega) p2.b0)
    refine rhN p3.b (fun _ _ => ?_)
    refine rdN0 p3.b hx (fun _ _ => ?_)
    refine sums_c p3.a hab ?_
    intro w4 b4
    have p4 := p3.below b4
    refine ext_of rfl ?_
    refine ext_of rfl ?_
    refine ext_of rfl ?_
    refine leatlaw26_AuditPlays_A3_r ?_
    refine rhN p4.b (fun _ _ => ?_)
    refine rdN0 p4.b hx (fun _ _ => ?_)
    refine rsums_c p4.b hrb ?_
    rw [← hs.sums]
    refine ext_of rfl ?_
    refine ext_of rfl ?_
    refine ext_of rfl ?_
    (repeat (first | refine bin_neq ?_ | refine cond_f (by omega) ?_ | refine gsel_nf (by omega) ?_ | refine pick_f (by omega) ?_))
    refine leatlaw26_AuditPlays_P4_r ?_
    refine add64 (by omega) (by omega) ?_
    have o4 := own_bel o3 b4
    have hsz := b4.size
    have hsz3 := c3.size
    have hsz2 := b2.size
    refine ⟨⟨k + 1, a', c', rfl, (show Value.int .i64 ((k : Int) + 1) = _ by simp), by omega, ?_, p4, bndQ W3 b4 p3.b0, by omega⟩, by rw [hmm]; show R.N.length - (intOf (.int .i64 ((k : Int) + 1))).toNat < _; simp only [intOf]; omega⟩
    rw [take_snoc hx, List.map_append, List.map_append]
    exact o4
  refine cond_f (by omega) ?_
  refine leatlaw26_AuditPlays_P3_r ?_
  have hkN : k = R.N.length := by omega
  subst hkN
  have hln := hs.len
  refine nodesA_c p1.a (by omega) ?_
  intro w2 a2 c2 ys r2 hp2 hs2 b2
  have hlist := hs.list hp2 hs2
  have o2 := own_bel o1 b2
  have p2 := p1.below b2
  have hids : RV w2 a S.nodes.length c ((R.N.map (·.1)).map uv) := by
    have := OV.rv o2
    rw [List.take_of_length_le (Nat.le_refl _)] at this
    rw [hln]; exact this
  rw [← hln]
  refine rsame_c r2 hids hlist (by omega) ?_
  intro w3 b3
  have p3 := p2.below b3
  refine gsel_T ?_
  refine boundA_c p3.a hab (by omega) ?_
  intro w4 b4
  have p4 := p3.below b4
  refine rbound_c p4.b hrb ?_
  rw [← hs.bnd]
  refine bin_eqlB ?_ Try.underlying4
  rw [show (bndS S == bndS S) = true by simp]
  refine pick_T ?_
  refine gsel_T ?_
  refine works26_c ?_
  intro w5 b5
  refine pick_T ?_
  exact h w5 (bndQ (bndQ (bndQ (bndQ W1 b2 p1.b0) b3 p2.b0) b4 p3.b0) b5 p4.b0)

set_option maxHeartbeats 2000000 in
theorem plays_L1 {l0 l1 t2 a3 b4 i5 x6 y7 e8 p9 q10 f11 ids12 i13 x14 y15 e16 p17 q18 f19 t20 t21 t22 t23 t24 t25 t26 t27 t28 t29 t30 t31 t32 t33 t34 t35 t36 t37 t38 t39 t40 t41 t42 t43 t44 t45 t46 t47 t48 t49 t50 t51 t52 t53 t54 t55 t56 t57 t58 t59 t60 t61 t62 t63 t64 t65 t66 t67 t68 t69 t70 t71 t72 t73 t74 t75 t76 t77 t78 t79 t80 t81 t82 t83 t84 t85 t86 t87 t88 t89 t90 t91 t92 t93 t94 t95 t96 t97 t98 t99 t100 t101 t102 t103 t104 t105 t106 t107 t108 t109 t110 t111 t112 t113 t114 t115 t116 t117 t118 t119 t120 t121 t122 t123 t124 t125 t126 t127 t128 t129 t130 t131 t132 t133 t134 t135 t136 t137 t138 t139 t140 t141 t142 t143 t144 t145 t146 t147 t148 t149 t150 t151 t152 t153 t154 t155 t156 t157 t158 t159 t160 t161 t162 t163 t164 t165 t166 t167 t168 t169 t170 t171 t172 t173 t174 t175 t176 t177 t178 t179 t180 t181 t182 t183 t184 t185 t186 t187 t188 t189 t190 : Value} {W : World} {B : Nat} {fa : AF} {fb : RF} {a : Option Addr} {n c : Nat} {L : List Sdq} (hL : RSD W a n c L) (hn : n ≤ 150) (hp : PW W.heap.size B w fa fb ⟨[], [], [], []⟩ ⟨[], [], [], []⟩) (hW : Below W.heap.size W w)
    (el : l0 = .slice a n c) (ea : a3 = ptr fa.p) (eb : b4 = ptr fb.p) (ei : i5 = .int .i64 0) (h : ∀ w', Below W.heap.size W w' → K (.bool true) w') :
    leatlaw26_AuditPlays_L1 K ((l0 :: l1 :: t2 :: a3 :: b4 :: i5 :: x6 :: y7 :: e8 :: p9 :: q10 :: f11 :: ids12 :: i13 :: x14 :: y15 :: e16 :: p17 :: q18 :: f19 :: t20 :: t21 :: t22 :: t23 :: t24 :: t25 :: t26 :: t27 :: t28 :: t29 :: t30 :: t31 :: t32 :: t33 :: t34 :: t35 :: t36 :: t37 :: t38 :: t39 :: t40 :: t41 :: t42 :: t43 :: t44 :: t45 :: t46 :: t47 :: t48 :: t49 :: t50 :: t51 :: t52 :: t53 :: t54 :: t55 :: t56 :: t57 :: t58 :: t59 :: t60 :: t61 :: t62 :: t63 :: t64 :: t65 :: t66 :: t67 :: t68 :: t69 :: t70 :: t71 :: t72 :: t73 :: t74 :: t75 :: t76 :: t77 :: t78 :: t79 :: t80 :: t81 :: t82 :: t83 :: t84 :: t85 :: t86 :: t87 :: t88 :: t89 :: t90 :: t91 :: t92 :: t93 :: t94 :: t95 :: t96 :: t97 :: t98 :: t99 :: t100 :: t101 :: t102 :: t103 :: t104 :: t105 :: t106 :: t107 :: t108 :: t109 :: t110 :: t111 :: t112 :: t113 :: t114 :: t115 :: t116 :: t117 :: t118 :: t119 :: t120 :: t121 :: t122 :: t123 :: t124 :: t125 :: t126 :: t127 :: t128 :: t129 :: t130 :: t131 :: t132 :: t133 :: t134 :: t135 :: t136 :: t137 :: t138 :: t139 :: t140 :: t141 :: t142 :: t143 :: t144 :: t145 :: t146 :: t147 :: t148 :: t149 :: t150 :: t151 :: t152 :: t153 :: t154 :: t155 :: t156 :: t157 :: t158 :: t159 :: t160 :: t161 :: t162 :: t163 :: t164 :: t165 :: t166 :: t167 :: t168 :: t169 :: t170 :: t171 :: t172 :: t173 :: t174 :: t175 :: t176 :: t177 :: t178 :: t179 :: t180 :: t181 :: t182 :: t183 :: t184 :: t185 :: t186 :: t187 :: t188 :: t189 :: t190 :: [])) w := by
  subst el ea eb ei
  refine leatlaw26_AuditPlays_L1_r (Inv := fun i _ _ _ _ _ _ _ _ _ _ _ _ _ _ _ _ wr => ∃ (k : Nat) (S : AS) (R : RS) (f : RF), i = .int .i64 (k : Nat) ∧ k ≤ n ∧ f.p = fb.p ∧ PW W.heap.size B wr fa f S R ∧ SIM k S R ∧ Below W.heap.size W wr)
    (μ := fun i _ _ _ _ _ _ _ _ _ _ _ _ _ _ _ _ _ => n - (intOf i).toNat) ⟨0, _, _, fb, rfl, by omega, rfl, hp, SIM.start, hW⟩ ?_
  rintro _ _ _ _ _ _ _ _ _ _ _ _ _ _ _ _ _ _ w1 mm ⟨k, S, R, f, rfl, hk, hf, p1, hs, W1⟩ hmm
  refine lenSd ?_
  refine bin_lss ?_
  by_cases hlt : k < n
  rotate_left
  · refine cond_f (by omega) ?_
    refine leatlaw26_AuditPlays_P1_r ?_
    exact plays_L2 p1 hs (by omega) W1 rfl (by rw [hf]) rfl rfl h
  refine cond_t (by omega) ?_
  obtain ⟨s, b, o, hLs, ha, hat⟩ := hL.at hlt
  have hbl := hat.lt
  have at1 := hat.below W1 hbl
  have atd : At w1.drew b (o + k * 22) s := at1.below (Below.refl _ w1).drew at1.lt
  refine hReg_of (fun x => At x b (o + k * 22) s) atd ?_
  refine hld_of (fun x hx K hK => idxSd ha hlt hK) ?_
  refine hld_of (fun x hx K hK => fA_Sdp_0 hK) ?_
  refine hld_of (v := .int .i64 s.who) (fun x hx K hK => ld_cell (fun _ => by kernel_rfl) hx.who hK) ?_
  refine hld_of (fun x hx K hK => idxSd ha hlt hK) ?_
  refine hld_of (fun x hx K hK => fA_Sdp_1 hK) ?_
  refine hld_of (fun x hx K hK => ldAc (n := 6) (vs := askC s.a) Try.underlying35 rfl (by kernel_rfl) rfl hx.ask hK) ?_
  refine hld_of (fun x hx K hK => idxSd ha hlt hK) ?_
  refine hld_of (fun x hx K hK => fA_Sdp_2 hK) ?_
  refine hld_of (fun x hx K hK => ldAc (n := 15) (vs := s.cs) Try.underlying42 rfl (by kernel_rfl) hx.ok.1 hx.ans hK) ?_
  have pd := p1.below (Below.refl _ w1).drew
  refine say_c pd.a hat.ok hat.s0 ?_
  intro w2 ha2 c2
  have p2 := pd.setA ha2 c2
  have W2 : Below W.heap.size W w2 := (bndQ W1 (Below.refl _ w1).drew p1.b0).trans (c2.below (fun q hq => (p1.lo q (List.mem_cons_of_mem _ hq)).1) pd.b0)
  have at2 : At w2.drew b (o + k * 22) s := hat.below W2.drew hbl
  refine hReg_of (fun x => At x b (o + k * 22) s) at2 ?_
  refine hld_of (fun x hx K hK => idxSd ha hlt hK) ?_
  refine hld_of (fun x hx K hK => fA_Sdp_0 hK) ?_
  refine hld_of (v := .int .i64 s.who) (fun x hx K hK => ld_cell (fun _ => by kernel_rfl) hx.who hK) ?_
  refine hld_of (fun x hx K hK => idxSd ha hlt hK) ?_
  refine hld_of (fun x hx K hK => fA_Sdp_1 hK) ?_
  refine hld_of (fun x hx K hK => ldAc (n := 6) (vs := askC s.a) Try.underlying35 rfl (by kernel_rfl) rfl hx.ask hK) ?_
  refine hld_of (fun x hx K hK => idxSd ha hlt hK) ?_
  refine hld_of (fun x hx K hK => fA_Sdp_2 hK) ?_
  refine hld_of (fun x hx K hK => ldAc (n := 15) (vs := s.cs) Try.underlying42 rfl (by kernel_rfl) hx.ok.1 hx.ans hK) ?_
  have pe := p2.below (Below.refl _ w2).drew
  rw [← hf]
  refine rsay_c pe.b (hs.rb0 (by omega)) pe.top hat.ok hat.s0 hat.s1 ?_
  intro w3 f3 R3 hf3 hr3 hs3 b3
  have p3 := pe.setB hr3 b3
  have hsim := hs.step (by omega) hs3
  have W3 : Below W.heap.size W w3 := (bndQ W2 (Below.refl _ w2).drew p2.b0).trans (b3.mono (by have := p1.lo fa.p (by simp); omega))
  have at3 : At w3 b (o + k * 22) s := hat.below W3 hbl
  have hab := hsim.ab (by omega)
  have hrb := hsim.rb0 (by omega)
  have e33 : f3.p = f.p := hf3
  rw [← e33]
  refine leatlaw26_AuditPlays_A1_r ?_
  have ldN : ∀ {K' : KV} {wr : World}, At wr b (o + k * 22) s → K' (.int .u64 s.a.node) wr → ld Try.prog 33 (.pointer (some ⟨b, o + k * 22 + 1 + 1, none⟩)) K' wr := fun hx hK => ld_cell (fun _ => by kernel_rfl) (hx.ask 1 _ rfl) hK
  refine idxSd ha hlt ?_
  refine fA_Sdp_1 ?_
  refine fA_Ask_1 ?_
  refine ldN at3 ?_
  refine sums_c p3.a hab ?_
  intro w4 b4
  have p4 := p3.below b4
  have W4 := bndQ W3 b4 p3.b0
  have at4 : At w4 b (o + k * 22) s := hat.below W4 hbl
  refine ext_of rfl ?_
  refine ext_of rfl ?_
  refine ext_of rfl ?_
  refine idxSd ha hlt ?_
  refine fA_Sdp_1 ?_
  refine fA_Ask_1 ?_
  refine ldN at4 ?_
  refine rsums_c p4.b hrb ?_
  rw [← hsim.sums]
  refine ext_of rfl ?_
  refine ext_of rfl ?_
  refine ext_of rfl ?_
  refine leatlaw26_AuditPlays_A2_r ?_
  have next : ∀ {v : Value} {wr : World}, v = .int .i64 ((k : Int) + 1) → PW W.heap.size B wr fa f3 (sayS S s.who s.a s.o s.s s.e) R3 → Below W.heap.size W wr →
      (∃ (k : Nat) (S : AS) (R : RS) (f : RF), v = .int .i64 (k : Nat) ∧ k ≤ n ∧ f.p = f3.p ∧ PW W.heap.size B wr fa f S R ∧ SIM k S R ∧ Below W.heap.size W wr) ∧ n - (intOf v).toNat < mm := by
    rintro _ wr rfl h1 h2
    exact ⟨⟨k + 1, _, _, f3, by simp, by omega, rfl, h1, hsim, h2⟩, by rw [hmm]; simp only [intOf]; omega⟩
  refine bin_neq ?_
  refine gsel_nf (by omega) ?_
  refine bin_neq ?_
  refine pick_f (by omega) ?_
  refine gsel_nf (by omega) ?_
  refine bin_neq ?_
  refine pick_f (by omega) ?_
  refine gsel_nf (by omega) ?_
  refine rem_nn (by omega) (by omega) ?_
  refine bin_eql ?_
  by_cases h16 : (k : Int) % 16 = 0
  · refine gsel_pt h16 ?_
    refine boundA_c p4.a hab (by have := hsim.len; have := hsim.nl; omega) ?_
    intro w5 b5
    have p5 := p4.below b5
    refine rbound_c p5.b hrb ?_
    rw [← hsim.bnd]
    refine bin_neqB ?_ Try.underlying4
    rw [show (bndS (sayS S s.who s.a s.o s.s s.e) != bndS (sayS S s.who s.a s.o s.s s.e)) = false by simp]
    refine gsel_nf (by omega) ?_
    refine pick_t h16 ?_
    refine pick_f (by omega) ?_
    refine cond_F ?_
    refine leatlaw26_AuditPlays_P2_r ?_
    refine add64 (by omega) (by omega) ?_
    exact next rfl p5 (bndQ W4 b5 p4.b0)
  · refine gsel_pf h16 ?_
    refine gsel_nf (by omega) ?_
    refine pick_f h16 ?_
    refine pick_f (by omega) ?_
    refine cond_F ?_
    refine leatlaw26_AuditPlays_P2_r ?_
    refine add64 (by omega) (by omega) ?_
    exact next rfl p4 W4

theorem plays_law {W : World} {K : KV} {n c : Nat} {a : Option Addr} {L : List Sdq} (hL : RSD W a n c L) (h : ∀ w', Below W.heap.size W w' → K (.bool true) w') : call Try.prog 3 #[.slice a n c] K W := by
  refine call_of leatlaw26_AuditPlays_go (leatlaw26_AuditPlays_in ?_)
  refine lenSd ?_
  refine bin_gtr ?_
  by_cases h150 : 150 < n
  · refine cond_t (by omega) ?_
    exact works26_c h
  refine cond_f (by omega) ?_
  refine anew_c ?_
  intro w1 fa ha1 b1 hfa
  refine bld_of (vs := [.slice none 0 0, .slice none 0 0, .slice none 0 0, .slice none 0 0]) (by kernel_rfl) ?_
  refine box_of ?_
  intro w2 hb2 b2 s2
  have hb2 : blk w2 w1.heap.size TRef [.slice none 0 0, .slice none 0 0, .slice none 0 0, .slice none 0 0] := hb2
  have s1 := b1.size
  have lta : ∀ x ∈ fa.p :: fa.foot, x < w1.heap.size := fun x hx => by
    rcases List.mem_cons.1 hx with rfl | hx
    · exact ha1.head.lt
    · exact foot_lt ha1 x hx
  have p2 : PW W.heap.size w1.heap.size w2 fa ⟨w1.heap.size, (none, 0), (none, 0), (none, 0), (none, 0)⟩ ⟨[], [], [], []⟩ ⟨[], [], [], []⟩ := by
    refine ⟨ha1.below b2, ⟨hb2, World.ownsRow_nil _ _ _ _, World.ownsRow_nil _ _ _ _, World.ownsRow_nil _ _ _ _, World.ownsRow_nil _ _ _ _, Nat.le_refl _, fun k hk => by cases hk⟩, fun x hx => ⟨hfa x hx, lta x hx⟩, b2.size⟩
  exact plays_L1 hL (by omega) p2 (b1.trans (b2.mono s1)) rfl rfl rfl rfl h
end
set_option maxRecDepth 100000 in
theorem auditPlays_contract (H : Type) (enc : TypeId × Value → H) (W : World) (base : Nat) (args : Array Value) (ds gs : List (DataW H)) (before : List MemPlace)
    (hval0 : ∀ (j : Nat) t v, Try.f3.params[j]? = some t → args[j]? = some v → Value.okWide Try.prog W .any base t v)
    (hW : DataW.Whole enc Try.prog Try.f3.params.toList Rows.auditPlaysSpec.vars false W args.toList ds gs before) :
    Calls Try.prog 3 args W fun e W' => ∃ v, e = .returned v ∧ Rows.auditPlaysSpec.post enc Try.prog Try.f3 false true false false W args v W' := by
  have hval := hval0
  have hW' := hW
  obtain ⟨p, q, hA0, hV, rfl, hfz, hnd⟩ := hW
  have hA : DataW.TrodAll enc Try.prog W 0 (fun _ => true) true Try.f3.params.toList args.toList ds p := hA0
  rw [Try.params3] at hA hval
  obtain ⟨v0, vs0, d0, ds0, p0, q0, hargs, rfl, rfl, h0, r0⟩ := trodAll_cons hA
  obtain ⟨rfl, rfl, rfl⟩ := trodAll_nil r0
  obtain rfl : args = #[v0] := by cases args; simp_all
  obtain ⟨rfl, rfl⟩ := trodVars_none hV
  obtain ⟨a0, n0, c0, rfl⟩ := okWide_slice Try.underlying22 (hval 0 22 v0 rfl rfl)
  have k0 := h0
  have lt0 : ∀ x ∈ p0, x.block < W.heap.size := by obtain ⟨m, hm⟩ := k0; exact DataW.trod_lt m _ _ _ hm
  obtain ⟨⟨l0, rb0⟩, hle0, hmx0⟩ : (∃ l, RSD W a0 n0 c0 l) ∧ n0 ≤ c0 ∧ c0 ≤ 9223372036854775807 := by
    obtain ⟨fuel, hf⟩ := h0
    exact rsd_of_trod (by rfl) hf
  clear hA0 hval0 hval
  have hcalls : Calls Try.prog 3 #[.slice a0 n0 c0] W fun e w' => e = .returned (.bool true) ∧ Below W.heap.size W w' := by
    exact calls_of (plays_law rb0 (fun w' hb' => ⟨rfl, hb'⟩))
  refine hcalls.mono fun e W' ⟨he, bel⟩ => ?_
  subst he
  exact ⟨_, rfl, _, _, _, [], _, [], hW', trodAll_mk1 (shut_bool Try.underlying4 _), (trodAll_cons_mk (Below.trod frame_laid (by kernel_rfl) (of_decide_eq_true (by kernel_rfl)) k0 bel lt0) trodAll_mk0), rfl, bel.frame _, fun h => by cases h⟩

set_option maxRecDepth 100000 in
theorem auditPlays_lifted (os : Os) (started : os.Started) (H : Type) (enc : TypeId × Value → H) :
    ReturnsInHanded {} Try.checked os 3 .any (Rows.auditPlaysSpec.pre6 enc Try.prog Try.f3 Rows.auditPlaysRow.domain false) (Rows.auditPlaysSpec.post enc Try.prog Try.f3 false true false false) := by
  refine returnsInHanded_of_change (C := Try.checked) frame_own started (by kernel_rfl) Try.func3
    (ChangeSpec.witness6 (enc := enc) (C := Try.checked) false ⟨#[], #[.slice none 0 0], []⟩ 8 (by kernel_rfl) (by kernel_rfl) (by kernel_rfl) (by kernel_rfl)) ?_
  intro W base args ds gs before hval hW _ _
  exact auditPlays_contract H enc W base args ds gs before hval hW

theorem auditPlays_proved : Rows.AuditPlaysSaid :=
  OpenClaim.holds_of_wide 3 Try.f3 rfl rfl rfl rfl rfl rfl rfl ⟨rfl, rfl, rfl, rfl, rfl⟩ rfl rfl rfl rfl rfl (by kernel_rfl) Try.func3 (by kernel_rfl)
    (of_decide_eq_true (by kernel_rfl)) (by unfold Func.isWrapper; first | (rw [if_pos (by decide +kernel)]; kernel_rfl) | (rw [if_neg (by decide +kernel)]; exact ⟨rfl, rfl⟩))
    (fun os started H enc _ => auditPlays_lifted os started H enc)

end Go.Proofs.Ytcieejlkdfdpiaa
