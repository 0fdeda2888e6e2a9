import Derived.Test.YtfjafbbalohmhaaGreatDoorLaid
import Derived.ChangeSame
namespace Go.Proofs.YtfjafbbalohmhaaGreatDoor
set_option maxRecDepth 100000
open Go.RowKit
theorem fb_of_trod {P : Program} {w : World} {base : Nat} {sp : Nat → Bool} {fuel : Nat} {t : TypeId} {f0 f1 : Field} {a b : Value} {x y : DataW (List UInt8)} {q : List MemPlace} {enc : TypeId × Value → List UInt8}
    (ht : P.underlying t = some (.struct #[f0, f1])) (o0 : f0.offset = 0) (c0 : P.cellsOf f0.type = 1) (o1 : f1.offset = 1) (c1 : P.cellsOf f1.type = 1) (h : DataW.trod enc P w base sp true fuel t [a, b] = some (.agg [x, y], q)) :
    ∃ n q0 q1, DataW.trod enc P w base sp true n f0.type [a] = some (x, q0) ∧ DataW.trod enc P w base sp true n f1.type [b] = some (y, q1) := by
  obtain ⟨y0, y1, n, hx, _, h0, h1⟩ := Go.ChangeShapes.trod_struct2 ht h
  rw [o0, c0] at h0
  rw [o1, c1] at h1
  have hx := (Prod.mk.inj hx).1
  simp only [DataW.agg.injEq, List.cons.injEq, and_true] at hx
  obtain ⟨rfl, rfl⟩ := hx
  exact ⟨n, y0.2, y1.2, by simpa using h0, by simpa using h1⟩
theorem bool_of_trod {P : Program} {w : World} {base : Nat} {sp : Nat → Bool} {fuel : Nat} {t : TypeId} {b : Bool} {v : Value} {q : List MemPlace} {enc : TypeId × Value → List UInt8}
    (ht : P.underlying t = some .bool) (h : DataW.trod enc P w base sp true fuel t [v] = some (.lit (.bool b), q)) : v = .bool b := by
  cases fuel with
  | zero => simp [DataW.trod] at h
  | succ n => cases v <;> simp [DataW.trod, ht] at h; rw [h.1]
def doingsL : List Value := [.nilFunc, .bool false, fnV 230, .bool false, fnV 231, .bool false, fnV 232, .bool true, fnV 233, .bool true, fnV 234, .bool true, fnV 235, .bool true, fnV 236, .bool false, fnV 237, .bool true, fnV 238, .bool false, fnV 239, .bool false, fnV 240, .bool false, fnV 241, .bool false]
set_option maxRecDepth 100000 in
theorem doings_gbk {W : World} {laid : List (String × DataW Unit)} (h : laidMetH Tryz.prog laid W) (hm : ("leat/cluster.doings", Rows.laid_leat_cluster_doings) ∈ laid) : gbk W 1 doingsL := by
  obtain ⟨g, t, cs, fuel, p, hg, ht, hv, hd⟩ := h.funcs hm
  obtain rfl := Option.some.inj ((show Tryz.prog.globalNamed "leat/cluster.doings" = some 1 by kernel_rfl).symm.trans hg)
  obtain rfl := Option.some.inj ((show (Tryz.prog.globals[1]?).map (·.type) = some 150 by kernel_rfl).symm.trans ht)
  have hd' : DataW.trod (funcToken Tryz.prog) Tryz.prog W 0 (fun _ => true) true fuel 150 cs.toList = some (.agg [.agg [.nil, .lit (.bool false)], .agg [.held [40, 42, 108, 101, 97, 116, 47, 99, 108, 117, 115, 116, 101, 114, 46, 67, 108, 117, 115, 116, 101, 114, 41, 46, 97, 115, 107], .lit (.bool false)], .agg [.held [40, 42, 108, 101, 97, 116, 47, 99, 108, 117, 115, 116, 101, 114, 46, 67, 108, 117, 115, 116, 101, 114, 41, 46, 116, 105, 99, 107], .lit (.bool false)], .agg [.held [40, 42, 108, 101, 97, 116, 47, 99, 108, 117, 115, 116, 101, 114, 46, 67, 108, 117, 115, 116, 101, 114, 41, 46, 116, 105, 109, 101], .lit (.bool true)], .agg [.held [40, 42, 108, 101, 97, 116, 47, 99, 108, 117, 115, 116, 101, 114, 46, 67, 108, 117, 115, 116, 101, 114, 41, 46, 100, 101, 108, 105, 118, 101, 114], .lit (.bool true)], .agg [.held [40, 42, 108, 101, 97, 116, 47, 99, 108, 117, 115, 116, 101, 114, 46, 67, 108, 117, 115, 116, 101, 114, 41, 46, 100, 114, 111, 112], .lit (.bool true)], .agg [.held [40, 42, 108, 101, 97, 116, 47, 99, 108, 117, 115, 116, 101, 114, 46, 67, 108, 117, 115, 116, 101, 114, 41, 46, 116, 119, 105, 99, 101], .lit (.bool true)], .agg [.held [40, 42, 108, 101, 97, 116, 47, 99, 108, 117, 115, 116, 101, 114, 46, 67, 108, 117, 115, 116, 101, 114, 41, 46, 99, 117, 116], .lit (.bool false)], .agg [.held [40, 42, 108, 101, 97, 116, 47, 99, 108, 117, 115, 116, 101, 114, 46, 67, 108, 117, 115, 116, 101, 114, 41, 46, 104, 101, 97, 108], .lit (.bool true)], .agg [.held [40, 42, 108, 101, 97, 116, 47, 99, 108, 117, 115, 116, 101, 114, 46, 67, 108, 117, 115, 116, 101, 114, 41, 46, 102, 117, 115, 101], .lit (.bool false)], .agg [.held [40, 42, 108, 101, 97, 116, 47, 99, 108, 117, 115, 116, 101, 114, 46, 67, 108, 117, 115, 116, 101, 114, 41, 46, 111, 102, 102], .lit (.bool false)], .agg [.held [40, 42, 108, 101, 97, 116, 47, 99, 108, 117, 115, 116, 101, 114, 46, 67, 108, 117, 115, 116, 101, 114, 41, 46, 111, 110], .lit (.bool false)], .agg [.held [40, 42, 108, 101, 97, 116, 47, 99, 108, 117, 115, 116, 101, 114, 46, 67, 108, 117, 115, 116, 101, 114, 41, 46, 108, 101, 97, 118, 101], .lit (.bool false)]], p) := hd
  obtain ⟨xs, m, rfl, hx, hl, hn, hel⟩ := DataW.trod_array (n := 13) (e := 149) (by kernel_rfl) hd'
  have hl : cs.toList.length = 26 := hl.trans (by kernel_rfl)
  have hc : Tryz.prog.cellsOf 149 = 2 := by kernel_rfl
  rw [hc] at hel
  have hx := (Prod.mk.inj hx).1
  generalize hcs : cs.toList = l at hl hel
  obtain ⟨c0, c1, c2, c3, c4, c5, c6, c7, c8, c9, c10, c11, c12, c13, c14, c15, c16, c17, c18, c19, c20, c21, c22, c23, c24, c25, rfl⟩ : ∃ c0 c1 c2 c3 c4 c5 c6 c7 c8 c9 c10 c11 c12 c13 c14 c15 c16 c17 c18 c19 c20 c21 c22 c23 c24 c25 : Value, l = [c0, c1, c2, c3, c4, c5, c6, c7, c8, c9, c10, c11, c12, c13, c14, c15, c16, c17, c18, c19, c20, c21, c22, c23, c24, c25] := by
    match l, hl with
    | [c0, c1, c2, c3, c4, c5, c6, c7, c8, c9, c10, c11, c12, c13, c14, c15, c16, c17, c18, c19, c20, c21, c22, c23, c24, c25], _ => exact ⟨_, _, _, _, _, _, _, _, _, _, _, _, _, _, _, _, _, _, _, _, _, _, _, _, _, _, rfl⟩
  obtain ⟨x0, x1, x2, x3, x4, x5, x6, x7, x8, x9, x10, x11, x12, rfl⟩ : ∃ x0 x1 x2 x3 x4 x5 x6 x7 x8 x9 x10 x11 x12 : DataW (List UInt8) × List MemPlace, xs = [x0, x1, x2, x3, x4, x5, x6, x7, x8, x9, x10, x11, x12] := by
    match xs, hn with
    | [x0, x1, x2, x3, x4, x5, x6, x7, x8, x9, x10, x11, x12], _ => exact ⟨_, _, _, _, _, _, _, _, _, _, _, _, _, rfl⟩
  simp only [List.map_cons, List.map_nil, DataW.agg.injEq, List.cons.injEq, and_true] at hx
  obtain ⟨y0, y1, y2, y3, y4, y5, y6, y7, y8, y9, y10, y11, y12⟩ := hx
  obtain ⟨d0, q0⟩ := x0
  cases y0
  have e0 : DataW.trod (funcToken Tryz.prog) Tryz.prog W 0 (fun _ => true) true m 149 [c0, c1] = some (.agg [.nil, .lit (.bool false)], q0) := hel 0 (by omega)
  obtain ⟨n0, u0, v0, a0, b0⟩ := fb_of_trod Tryz.underlying149 rfl (by kernel_rfl) rfl (by kernel_rfl) e0
  obtain rfl := nil_of_trod Tryz.underlying147 a0
  obtain rfl := bool_of_trod Tryz.underlying4 b0
  obtain ⟨d1, q1⟩ := x1
  cases y1
  have e1 : DataW.trod (funcToken Tryz.prog) Tryz.prog W 0 (fun _ => true) true m 149 [c2, c3] = some (.agg [.held [40, 42, 108, 101, 97, 116, 47, 99, 108, 117, 115, 116, 101, 114, 46, 67, 108, 117, 115, 116, 101, 114, 41, 46, 97, 115, 107], .lit (.bool false)], q1) := hel 1 (by omega)
  obtain ⟨n1, u1, v1, a1, b1⟩ := fb_of_trod Tryz.underlying149 rfl (by kernel_rfl) rfl (by kernel_rfl) e1
  obtain rfl := func_of_trod (f0 := 230) Tryz.underlying147 (by kernel_rfl) a1
  obtain rfl := bool_of_trod Tryz.underlying4 b1
  obtain ⟨d2, q2⟩ := x2
  cases y2
  have e2 : DataW.trod (funcToken Tryz.prog) Tryz.prog W 0 (fun _ => true) true m 149 [c4, c5] = some (.agg [.held [40, 42, 108, 101, 97, 116, 47, 99, 108, 117, 115, 116, 101, 114, 46, 67, 108, 117, 115, 116, 101, 114, 41, 46, 116, 105, 99, 107], .lit (.bool false)], q2) := hel 2 (by omega)
  obtain ⟨n2, u2, v2, a2, b2⟩ := fb_of_trod Tryz.underlying149 rfl (by kernel_rfl) rfl (by kernel_rfl) e2
  obtain rfl := func_of_trod (f0 := 231) Tryz.underlying147 (by kernel_rfl) a2
  obtain rfl := bool_of_trod Tryz.underlying4 b2
  obtain ⟨d3, q3⟩ := x3
  cases y3
  have e3 : DataW.trod (funcToken Tryz.prog) Tryz.prog W 0 (fun _ => true) true m 149 [c6, c7] = some (.agg [.held [40, 42, 108, 101, 97, 116, 47, 99, 108, 117, 115, 116, 101, 114, 46, 67, 108, 117, 115, 116, 101, 114, 41, 46, 116, 105, 109, 101], .lit (.bool true)], q3) := hel 3 (by omega)
  obtain ⟨n3, u3, v3, a3, b3⟩ := fb_of_trod Tryz.underlying149 rfl (by kernel_rfl) rfl (by kernel_rfl) e3
  obtain rfl := func_of_trod (f0 := 232) Tryz.underlying147 (by kernel_rfl) a3
  obtain rfl := bool_of_trod Tryz.underlying4 b3
  obtain ⟨d4, q4⟩ := x4
  cases y4
  have e4 : DataW.trod (funcToken Tryz.prog) Tryz.prog W 0 (fun _ => true) true m 149 [c8, c9] = some (.agg [.held [40, 42, 108, 101, 97, 116, 47, 99, 108, 117, 115, 116, 101, 114, 46, 67, 108, 117, 115, 116, 101, 114, 41, 46, 100, 101, 108, 105, 118, 101, 114], .lit (.bool true)], q4) := hel 4 (by omega)
  obtain ⟨n4, u4, v4, a4, b4⟩ := fb_of_trod Tryz.underlying149 rfl (by kernel_rfl) rfl (by kernel_rfl) e4
  obtain rfl := func_of_trod (f0 := 233) Tryz.underlying147 (by kernel_rfl) a4
  obtain rfl := bool_of_trod Tryz.underlying4 b4
  obtain ⟨d5, q5⟩ := x5
  cases y5
  have e5 : DataW.trod (funcToken Tryz.prog) Tryz.prog W 0 (fun _ => true) true m 149 [c10, c11] = some (.agg [.held [40, 42, 108, 101, 97, 116, 47, 99, 108, 117, 115, 116, 101, 114, 46, 67, 108, 117, 115, 116, 101, 114, 41, 46, 100, 114, 111, 112], .lit (.bool true)], q5) := hel 5 (by omega)
  obtain ⟨n5, u5, v5, a5, b5⟩ := fb_of_trod Tryz.underlying149 rfl (by kernel_rfl) rfl (by kernel_rfl) e5
  obtain rfl := func_of_trod (f0 := 234) Tryz.underlying147 (by kernel_rfl) a5
  obtain rfl := bool_of_trod Tryz.underlying4 b5
  obtain ⟨d6, q6⟩ := x6
  cases y6
  have e6 : DataW.trod (funcToken Tryz.prog) Tryz.prog W 0 (fun _ => true) true m 149 [c12, c13] = some (.agg [.held [40, 42, 108, 101, 97, 116, 47, 99, 108, 117, 115, 116, 101, 114, 46, 67, 108, 117, 115, 116, 101, 114, 41, 46, 116, 119, 105, 99, 101], .lit (.bool true)], q6) := hel 6 (by omega)
  obtain ⟨n6, u6, v6, a6, b6⟩ := fb_of_trod Tryz.underlying149 rfl (by kernel_rfl) rfl (by kernel_rfl) e6
  obtain rfl := func_of_trod (f0 := 235) Tryz.underlying147 (by kernel_rfl) a6
  obtain rfl := bool_of_trod Tryz.underlying4 b6
  obtain ⟨d7, q7⟩ := x7
  cases y7
  have e7 : DataW.trod (funcToken Tryz.prog) Tryz.prog W 0 (fun _ => true) true m 149 [c14, c15] = some (.agg [.held [40, 42, 108, 101, 97, 116, 47, 99, 108, 117, 115, 116, 101, 114, 46, 67, 108, 117, 115, 116, 101, 114, 41, 46, 99, 117, 116], .lit (.bool false)], q7) := hel 7 (by omega)
  obtain ⟨n7, u7, v7, a7, b7⟩ := fb_of_trod Tryz.underlying149 rfl (by kernel_rfl) rfl (by kernel_rfl) e7
  obtain rfl := func_of_trod (f0 := 236) Tryz.underlying147 (by kernel_rfl) a7
  obtain rfl := bool_of_trod Tryz.underlying4 b7
  obtain ⟨d8, q8⟩ := x8
  cases y8
  have e8 : DataW.trod (funcToken Tryz.prog) Tryz.prog W 0 (fun _ => true) true m 149 [c16, c17] = some (.agg [.held [40, 42, 108, 101, 97, 116, 47, 99, 108, 117, 115, 116, 101, 114, 46, 67, 108, 117, 115, 116, 101, 114, 41, 46, 104, 101, 97, 108], .lit (.bool true)], q8) := hel 8 (by omega)
  obtain ⟨n8, u8, v8, a8, b8⟩ := fb_of_trod Tryz.underlying149 rfl (by kernel_rfl) rfl (by kernel_rfl) e8
  obtain rfl := func_of_trod (f0 := 237) Tryz.underlying147 (by kernel_rfl) a8
  obtain rfl := bool_of_trod Tryz.underlying4 b8
  obtain ⟨d9, q9⟩ := x9
  cases y9
  have e9 : DataW.trod (funcToken Tryz.prog) Tryz.prog W 0 (fun _ => true) true m 149 [c18, c19] = some (.agg [.held [40, 42, 108, 101, 97, 116, 47, 99, 108, 117, 115, 116, 101, 114, 46, 67, 108, 117, 115, 116, 101, 114, 41, 46, 102, 117, 115, 101], .lit (.bool false)], q9) := hel 9 (by omega)
  obtain ⟨n9, u9, v9, a9, b9⟩ := fb_of_trod Tryz.underlying149 rfl (by kernel_rfl) rfl (by kernel_rfl) e9
  obtain rfl := func_of_trod (f0 := 238) Tryz.underlying147 (by kernel_rfl) a9
  obtain rfl := bool_of_trod Tryz.underlying4 b9
  obtain ⟨d10, q10⟩ := x10
  cases y10
  have e10 : DataW.trod (funcToken Tryz.prog) Tryz.prog W 0 (fun _ => true) true m 149 [c20, c21] = some (.agg [.held [40, 42, 108, 101, 97, 116, 47, 99, 108, 117, 115, 116, 101, 114, 46, 67, 108, 117, 115, 116, 101, 114, 41, 46, 111, 102, 102], .lit (.bool false)], q10) := hel 10 (by omega)
  obtain ⟨n10, u10, v10, a10, b10⟩ := fb_of_trod Tryz.underlying149 rfl (by kernel_rfl) rfl (by kernel_rfl) e10
  obtain rfl := func_of_trod (f0 := 239) Tryz.underlying147 (by kernel_rfl) a10
  obtain rfl := bool_of_trod Tryz.underlying4 b10
  obtain ⟨d11, q11⟩ := x11
  cases y11
  have e11 : DataW.trod (funcToken Tryz.prog) Tryz.prog W 0 (fun _ => true) true m 149 [c22, c23] = some (.agg [.held [40, 42, 108, 101, 97, 116, 47, 99, 108, 117, 115, 116, 101, 114, 46, 67, 108, 117, 115, 116, 101, 114, 41, 46, 111, 110], .lit (.bool false)], q11) := hel 11 (by omega)
  obtain ⟨n11, u11, v11, a11, b11⟩ := fb_of_trod Tryz.underlying149 rfl (by kernel_rfl) rfl (by kernel_rfl) e11
  obtain rfl := func_of_trod (f0 := 240) Tryz.underlying147 (by kernel_rfl) a11
  obtain rfl := bool_of_trod Tryz.underlying4 b11
  obtain ⟨d12, q12⟩ := x12
  cases y12
  have e12 : DataW.trod (funcToken Tryz.prog) Tryz.prog W 0 (fun _ => true) true m 149 [c24, c25] = some (.agg [.held [40, 42, 108, 101, 97, 116, 47, 99, 108, 117, 115, 116, 101, 114, 46, 67, 108, 117, 115, 116, 101, 114, 41, 46, 108, 101, 97, 118, 101], .lit (.bool false)], q12) := hel 12 (by omega)
  obtain ⟨n12, u12, v12, a12, b12⟩ := fb_of_trod Tryz.underlying149 rfl (by kernel_rfl) rfl (by kernel_rfl) e12
  obtain rfl := func_of_trod (f0 := 241) Tryz.underlying147 (by kernel_rfl) a12
  obtain rfl := bool_of_trod Tryz.underlying4 b12
  obtain ⟨fr, hfr⟩ : ∃ q : TypeId × (Nat × Nat), W.heap[1]? = some (.cells cs q.1 q.2) := by
    unfold World.var? at hv
    rw [hg] at hv
    simp only [Option.bind_some] at hv
    split at hv
    · rename_i a b c hh; cases hv; exact ⟨(b, c), hh⟩
    · cases hv
  exact ⟨fr.1, fr.2, by rw [hfr, ← Array.toArray_toList (xs := cs), hcs]; rfl⟩
end Go.Proofs.YtfjafbbalohmhaaGreatDoor
