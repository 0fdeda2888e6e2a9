/- What several texts share: pointers, slices of bytes and rows that a change keeps. -/
import Derived.Test.YtjkmblbonambjaaTypes
import Derived.Test.YtjkmblbonambjaaMem2
namespace Go.Proofs.Ytjkmblbonambjaa
set_option maxRecDepth 100000
open Go.RowKit
abbrev ptr (b : Nat) : Value := .pointer (some ⟨b, 0, none⟩)
theorem size_int : ∀ w, (sizeOf 3).run Try.prog w = .ok 1 w := fun _ => by kernel_rfl
theorem RV.drew {w : World} {a : Option Addr} {n c : Nat} {xs : List Value} (h : RV w a n c xs) : RV w.drew a n c xs := ⟨h.len, h.cap, h.some_, h.nil_, h.cell⟩
theorem RB.drew {w : World} {a : Option Addr} {n c : Nat} {xs : List UInt8} (h : RB w a n c xs) : RB w.drew a n c xs := RV.drew h
theorem ownsRow_keep {T : List TypeId} {B B2 : Nat} {w w' : World} {E : TypeId} {s : Nat} {v : Value} {n : Nat} {xs : List Value} (h : w.ownsRow B2 E s v n xs) (hk : Keep T B w w') (hE : E ∉ T) : w'.ownsRow B2 E s v n xs := by
  refine ⟨h.1, ?_⟩
  rcases h.2 with h2 | ⟨g, cap, cur, hv, hb, hh, r⟩
  · exact .inl h2
  · exact .inr ⟨g, cap, cur, hv, hb, hk.block _ _ hh (.inr fun cs E' z e => by cases e; exact hE), r⟩
theorem OB.keep {T : List TypeId} {B B2 : Nat} {w w' : World} {a : Option Addr} {n c : Nat} {l : List UInt8} (h : OB w B2 a n c l) (hk : Keep T B w w') (hT : 5 ∉ T) : OB w' B2 a n c l := ownsRow_keep h hk hT
end Go.Proofs.Ytjkmblbonambjaa
