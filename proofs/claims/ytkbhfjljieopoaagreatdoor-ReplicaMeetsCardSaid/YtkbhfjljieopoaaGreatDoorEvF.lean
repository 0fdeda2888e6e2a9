import Derived.Test.YtkbhfjljieopoaaGreatDoorQ1
import Derived.Test.YtkbhfjljieopoaaGreatDoorQ2
import Derived.Test.YtkbhfjljieopoaaGreatDoorChecked
namespace Go.Proofs.YtkbhfjljieopoaaGreatDoor
set_option maxRecDepth 100000
open Go.RowKit
def kv8 (x:Int):Value:=.int .u8 x
def evC (e:EV):List Value:=[iv e.o,u6 e.s,u6 e.d0,u6 e.d1,u6 e.d2,u6 e.d3,u6 e.d4,u6 e.d5,kv8 e.k,u6 e.n,iv e.t,iv e.a,u6 e.r,u6 e.f]
theorem Iv {e:EV}:∀{k:Nat},k<6→(evC e)[2+k]? = some (u6 (e.V.getD k 0))
 | 0,_=>rfl
 | 1,_=>rfl
 | 2,_=>rfl
 | 3,_=>rfl
 | 4,_=>rfl
 | 5,_=>rfl
theorem Nw {e e':EV}:evC e=evC e'↔e=e':=by
 cases e;cases e';simp[evC,u6,iv,kv8]
theorem qy (e:EV):∀v∈evC e,v.oneCell'=true:=by simp[evC,u6,iv,kv8,Value.oneCell']
theorem bD {w:World}{K:KV}{b o:Nat}(h:K (.pointer (some ⟨b,o+0,none⟩)) w):aT Tryz.prog 54 (.pointer (some ⟨b,o,none⟩)) 0 K w:=aK (by kernel_rfl) h
theorem iZ {w:World}{K:KV}{b o:Nat}(h:K (.pointer (some ⟨b,o+1,none⟩)) w):aT Tryz.prog 54 (.pointer (some ⟨b,o,none⟩)) 1 K w:=aK (by kernel_rfl) h
theorem qR {w:World}{K:KV}{b o:Nat}(h:K (.pointer (some ⟨b,o+2,none⟩)) w):aT Tryz.prog 54 (.pointer (some ⟨b,o,none⟩)) 2 K w:=aK (by kernel_rfl) h
theorem ns {w:World}{K:KV}{b o:Nat}(h:K (.pointer (some ⟨b,o+8,none⟩)) w):aT Tryz.prog 54 (.pointer (some ⟨b,o,none⟩)) 3 K w:=aK (by kernel_rfl) h
theorem eW {w:World}{K:KV}{b o:Nat}(h:K (.pointer (some ⟨b,o+9,none⟩)) w):aT Tryz.prog 54 (.pointer (some ⟨b,o,none⟩)) 4 K w:=aK (by kernel_rfl) h
theorem iD {w:World}{K:KV}{b o:Nat}(h:K (.pointer (some ⟨b,o+10,none⟩)) w):aT Tryz.prog 54 (.pointer (some ⟨b,o,none⟩)) 5 K w:=aK (by kernel_rfl) h
theorem dT {w:World}{K:KV}{b o:Nat}(h:K (.pointer (some ⟨b,o+11,none⟩)) w):aT Tryz.prog 54 (.pointer (some ⟨b,o,none⟩)) 6 K w:=aK (by kernel_rfl) h
theorem ic {w:World}{K:KV}{b o:Nat}(h:K (.pointer (some ⟨b,o+12,none⟩)) w):aT Tryz.prog 54 (.pointer (some ⟨b,o,none⟩)) 7 K w:=aK (by kernel_rfl) h
theorem pZ {w:World}{K:KV}{b o:Nat}(h:K (.pointer (some ⟨b,o+13,none⟩)) w):aT Tryz.prog 54 (.pointer (some ⟨b,o,none⟩)) 8 K w:=aK (by kernel_rfl) h
end Go.Proofs.YtkbhfjljieopoaaGreatDoor
