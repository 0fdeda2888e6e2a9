/- Rows of the call's own as the heap turns; rows of numbers read. -/
import Derived.Test.YtcieejlkdfdpiaaSort2
namespace Go.Proofs.Ytcieejlkdfdpiaa
set_option maxRecDepth 100000
open Go.RowKit Go.ChangeMaps
section
variable {F : List Nat} {w w' : World} {B : Nat}
theorem own_ch {E : TypeId} {s n : Nat} {v : Value} {xs : List Value} (h : w.ownsRow B E s v n xs) (hc : Ch F w w') (hF : ∀ x ∈ F, x < B) : w'.ownsRow B E s v n xs :=
  own_same h fun k hk => hc.block k (World.ownsRow.lt h k hk).2 fun hf => by have := (World.ownsRow.lt h k hk).1; have := hF k hf; omega
theorem own_bel {E : TypeId} {s n : Nat} {v : Value} {xs : List Value} (h : w.ownsRow B E s v n xs) (hb : Below w.heap.size w w') : w'.ownsRow B E s v n xs := own_same h fun k hk => hb.block k (World.ownsRow.lt h k hk).2
theorem Ch.of_grown {r : Option Nat} (h : w.grownBy w' r) : Ch r.toList w w' := ⟨h.os, h.tape, h.output, h.size, fun k hk hn => h.block k hk fun e => hn (by rw [← e]; simp)⟩
end
attribute [local irreducible] bin un conv call callV blt slc fldA fld idxA idx lkp mUpd mEnt eSt rng nxt ent ext alc box bld bldS ld sto nilC mkMap mkS ifc pick rdy wts gsel sti cond retM Gives cCode cGrp cSeq cOp
section
variable {w : World} {K : KV}
theorem idxU {a : Option Addr} {n c i : Nat} {k : IntKind} {l : List Int} (hr : RV w a n c (l.map uv)) (hi : i < n) (h : w.cell? (slotA a i) = some (uv (G l i)) → K (.pointer (some (slotA a i))) w) :
    idxA Try.prog 47 (.slice a n c) (.int k (i : Nat)) K w := by
  have hl : l.length = n := by simpa using RV.len hr
  refine idx_slc Try.underlying47 size_u64 (by omega) (by omega) (RV.some_ hr) ?_
  rw [Int.toNat_natCast]
  refine h ?_
  rw [RV.cell hr i (uv (G l i)) (by simp [List.getElem?_map, List.getElem?_eq_getElem (show i < l.length by omega), G, List.getD, show i < l.length by omega])]
theorem ldU {ad : Addr} {v : Value} (hc : w.cell? ad = some v) (h : K v w) : ld Try.prog 33 (.pointer (some ad)) K w := ld_cell (fun _ => by kernel_rfl) hc h
theorem ldUn {a : Option Addr} {n c i : Nat} {l : List Int} (hr : RV w a n c (l.map uv)) (hi : i < n) (h : K (uv (G l i)) w) : ld Try.prog 33 (.pointer (some (slotA a i))) K w := by
  refine ldU ?_ h
  have hl : l.length = n := by simpa using RV.len hr
  rw [RV.cell hr i (uv (G l i)) (by simp [List.getElem?_map, List.getElem?_eq_getElem (show i < l.length by omega), G, List.getD, show i < l.length by omega])]
end
end Go.Proofs.Ytcieejlkdfdpiaa
