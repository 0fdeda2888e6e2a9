/- Written by program (gen.py): what the code of some functions asks, part by part; each text is checked by the kernel against the translation. -/
import Derived.Test.YtjkmblbonambjaaSh
import Derived.Test.YtjkmblbonambjaaChecked
namespace Go.Proofs.Ytjkmblbonambjaa
open Go.RowKit
set_option maxRecDepth 100000


theorem bytes_Clone_k {K : KV} {b0 : Value} {w : World}
    (h : bin Try.prog BinOp.eql 29 false true b0 (Value.slice none 0 0) (fun A0 w =>
    cond A0
      (K (Value.slice none 0 0) w)
      (bldS Try.prog 29 0 #[] (fun A1 w =>
    blt Try.prog Builtin.append #[29, 29] 29 #[false, false] #[A1, b0] (fun A2 w =>
    K A2 w) w) w)) w) :
    cCode Try.prog (cd Try.f42 []) (retK Try.prog Try.f42.results.toList K) (fun _ _ _ => False) (retK Try.prog Try.f42.results.toList K) [b0, undef, undef, undef, undef, undef, undef, undef] w := Eq.mp (by kernel_rfl) h

theorem bytes_Clone_in {K : KV} {b0 : Value} {w : World}
    (h : bin Try.prog BinOp.eql 29 false true b0 (Value.slice none 0 0) (fun A0 w =>
    cond A0
      (K (Value.slice none 0 0) w)
      (bldS Try.prog 29 0 #[] (fun A1 w =>
    blt Try.prog Builtin.append #[29, 29] 29 #[false, false] #[A1, b0] (fun A2 w =>
    K A2 w) w) w)) w) :
    Gives Try.prog 42 #[b0] w K := enter' Try.func42 (by kernel_rfl) (Eq.mp (congrArg (fun c => cCode Try.prog c (retK Try.prog Try.f42.results.toList K) (fun _ _ _ => False) (retK Try.prog Try.f42.results.toList K) [b0, undef, undef, undef, undef, undef, undef, undef] w) (by kernel_rfl : (cd Try.f42 []) = (cd Try.f42 []))) (bytes_Clone_k h))
theorem bytes_Clone_go : isGo Try.prog 42 := ⟨_, Try.func42, by kernel_rfl, by kernel_rfl⟩

end Go.Proofs.Ytjkmblbonambjaa
