import Derived.Test.YtfjafbbalohmhaaGreatDoorLaid2
namespace Go.Proofs.YtfjafbbalohmhaaGreatDoor
set_option maxRecDepth 100000
open Go.RowKit
def makersL : List Value := [.nilFunc, fnV 219, fnV 221, fnV 223, fnV 224, fnV 225, fnV 226, fnV 227, fnV 228, fnV 229]
set_option maxRecDepth 100000 in
theorem makers_gbk {W : World} {laid : List (String × DataW Unit)} (h : laidMetH Tryz.prog laid W) (hm : ("leat/drill.makers", Rows.laid_leat_drill_makers) ∈ laid) : gbk W 0 makersL := by
  obtain ⟨g, t, cs, fuel, p, hg, ht, hv, hd⟩ := h.funcs hm
  obtain rfl := Option.some.inj ((show Tryz.prog.globalNamed "leat/drill.makers" = some 0 by kernel_rfl).symm.trans hg)
  obtain rfl := Option.some.inj ((show (Tryz.prog.globals[0]?).map (·.type) = some 94 by kernel_rfl).symm.trans ht)
  have hd' : DataW.trod (funcToken Tryz.prog) Tryz.prog W 0 (fun _ => true) true fuel 94 cs.toList = some (.agg [.nil, .held [108, 101, 97, 116, 47, 100, 114, 105, 108, 108, 46, 109, 97, 107, 101, 114, 115, 36, 49], .held [108, 101, 97, 116, 47, 100, 114, 105, 108, 108, 46, 109, 97, 107, 101, 114, 115, 36, 50], .held [108, 101, 97, 116, 47, 100, 114, 105, 108, 108, 46, 109, 97, 107, 101, 114, 115, 36, 51], .held [108, 101, 97, 116, 47, 100, 114, 105, 108, 108, 46, 109, 97, 107, 101, 114, 115, 36, 52], .held [108, 101, 97, 116, 47, 100, 114, 105, 108, 108, 46, 109, 97, 107, 101, 114, 115, 36, 53], .held [108, 101, 97, 116, 47, 100, 114, 105, 108, 108, 46, 109, 97, 107, 101, 114, 115, 36, 54], .held [108, 101, 97, 116, 47, 100, 114, 105, 108, 108, 46, 109, 97, 107, 101, 114, 115, 36, 55], .held [108, 101, 97, 116, 47, 100, 114, 105, 108, 108, 46, 109, 97, 107, 101, 114, 115, 36, 56], .held [108, 101, 97, 116, 47, 100, 114, 105, 108, 108, 46, 109, 97, 107, 101, 114, 115, 36, 57]], p) := hd
  obtain ⟨xs, m, rfl, hx, hl, hn, hel⟩ := DataW.trod_array (n := 10) (e := 93) (by kernel_rfl) hd'
  have hl : cs.toList.length = 10 := hl.trans (by kernel_rfl)
  have hc : Tryz.prog.cellsOf 93 = 1 := by kernel_rfl
  rw [hc] at hel
  have hx := (Prod.mk.inj hx).1
  generalize hcs : cs.toList = l at hl hel
  obtain ⟨c0, c1, c2, c3, c4, c5, c6, c7, c8, c9, rfl⟩ : ∃ c0 c1 c2 c3 c4 c5 c6 c7 c8 c9 : Value, l = [c0, c1, c2, c3, c4, c5, c6, c7, c8, c9] := by
    match l, hl with
    | [c0, c1, c2, c3, c4, c5, c6, c7, c8, c9], _ => exact ⟨_, _, _, _, _, _, _, _, _, _, rfl⟩
  obtain ⟨x0, x1, x2, x3, x4, x5, x6, x7, x8, x9, rfl⟩ : ∃ x0 x1 x2 x3 x4 x5 x6 x7 x8 x9 : DataW (List UInt8) × List MemPlace, xs = [x0, x1, x2, x3, x4, x5, x6, x7, x8, x9] := by
    match xs, hn with
    | [x0, x1, x2, x3, x4, x5, x6, x7, x8, x9], _ => exact ⟨_, _, _, _, _, _, _, _, _, _, rfl⟩
  simp only [List.map_cons, List.map_nil, DataW.agg.injEq, List.cons.injEq, and_true] at hx
  obtain ⟨y0, y1, y2, y3, y4, y5, y6, y7, y8, y9⟩ := hx
  obtain ⟨d0, q0⟩ := x0
  cases y0
  have e0 : DataW.trod (funcToken Tryz.prog) Tryz.prog W 0 (fun _ => true) true m 93 [c0] = some (_, q0) := hel 0 (by omega)
  obtain rfl := nil_of_trod Tryz.underlying93 e0
  obtain ⟨d1, q1⟩ := x1
  cases y1
  have e1 : DataW.trod (funcToken Tryz.prog) Tryz.prog W 0 (fun _ => true) true m 93 [c1] = some (_, q1) := hel 1 (by omega)
  obtain rfl := func_of_trod (f0 := 219) Tryz.underlying93 (by kernel_rfl) e1
  obtain ⟨d2, q2⟩ := x2
  cases y2
  have e2 : DataW.trod (funcToken Tryz.prog) Tryz.prog W 0 (fun _ => true) true m 93 [c2] = some (_, q2) := hel 2 (by omega)
  obtain rfl := func_of_trod (f0 := 221) Tryz.underlying93 (by kernel_rfl) e2
  obtain ⟨d3, q3⟩ := x3
  cases y3
  have e3 : DataW.trod (funcToken Tryz.prog) Tryz.prog W 0 (fun _ => true) true m 93 [c3] = some (_, q3) := hel 3 (by omega)
  obtain rfl := func_of_trod (f0 := 223) Tryz.underlying93 (by kernel_rfl) e3
  obtain ⟨d4, q4⟩ := x4
  cases y4
  have e4 : DataW.trod (funcToken Tryz.prog) Tryz.prog W 0 (fun _ => true) true m 93 [c4] = some (_, q4) := hel 4 (by omega)
  obtain rfl := func_of_trod (f0 := 224) Tryz.underlying93 (by kernel_rfl) e4
  obtain ⟨d5, q5⟩ := x5
  cases y5
  have e5 : DataW.trod (funcToken Tryz.prog) Tryz.prog W 0 (fun _ => true) true m 93 [c5] = some (_, q5) := hel 5 (by omega)
  obtain rfl := func_of_trod (f0 := 225) Tryz.underlying93 (by kernel_rfl) e5
  obtain ⟨d6, q6⟩ := x6
  cases y6
  have e6 : DataW.trod (funcToken Tryz.prog) Tryz.prog W 0 (fun _ => true) true m 93 [c6] = some (_, q6) := hel 6 (by omega)
  obtain rfl := func_of_trod (f0 := 226) Tryz.underlying93 (by kernel_rfl) e6
  obtain ⟨d7, q7⟩ := x7
  cases y7
  have e7 : DataW.trod (funcToken Tryz.prog) Tryz.prog W 0 (fun _ => true) true m 93 [c7] = some (_, q7) := hel 7 (by omega)
  obtain rfl := func_of_trod (f0 := 227) Tryz.underlying93 (by kernel_rfl) e7
  obtain ⟨d8, q8⟩ := x8
  cases y8
  have e8 : DataW.trod (funcToken Tryz.prog) Tryz.prog W 0 (fun _ => true) true m 93 [c8] = some (_, q8) := hel 8 (by omega)
  obtain rfl := func_of_trod (f0 := 228) Tryz.underlying93 (by kernel_rfl) e8
  obtain ⟨d9, q9⟩ := x9
  cases y9
  have e9 : DataW.trod (funcToken Tryz.prog) Tryz.prog W 0 (fun _ => true) true m 93 [c9] = some (_, q9) := hel 9 (by omega)
  obtain rfl := func_of_trod (f0 := 229) Tryz.underlying93 (by kernel_rfl) e9
  obtain ⟨fr, hfr⟩ : ∃ q : TypeId × (Nat × Nat), W.heap[0]? = some (.cells cs q.1 q.2) := by
    unfold World.var? at hv
    rw [hg] at hv
    simp only [Option.bind_some] at hv
    split at hv
    · rename_i a b c hh; cases hv; exact ⟨(b, c), hh⟩
    · cases hv
  exact ⟨fr.1, fr.2, by rw [hfr, ← Array.toArray_toList (xs := cs), hcs]; rfl⟩
end Go.Proofs.YtfjafbbalohmhaaGreatDoor
