import Derived.Test.YtkfgimlaijifaaaGreatDoorSh
import Derived.WalkKit
import Derived.WalkSpells
import Derived.WalkLawsBesides
import Derived.KernelRfl
import Derived.Lib.Hide
import Derived.Lib.SlBytesConst
import Derived.Deep.MidRow
import Derived.Great.BuildSlice
import Derived.Maps.RangeRun
import Derived.MapKept
import Derived.Laws.StructEq
namespace Go.Proofs.YtkfgimlaijifaaaGreatDoor
set_option maxRecDepth 100000
variable {w w':World}{K:KV}{b c n o k B i p g m j s z c2 f d D B2 B' hi:Nat}{a av a2:Option Addr}{x r v:Int}{A M0:List Int}{E t e:TypeId}{cs xs ys vs:List Value}{P:Program}{T L:List (Int×Int)}{C:Nat→Int}{cx cy:Bool}{α κ:Type}{J0:IntKind}
section
open Go.RowKit
def pu (a:Option Addr)(i:Nat):Addr:=match a with|some ⟨b,o,_⟩=>⟨b,o+i,none⟩|none=>default
theorem rV (b o i:Nat)(s:Option Nat):pu (some ⟨b,o,s⟩) i=⟨b,o+i,none⟩:=rfl
structure RV (w:World) (a:Option Addr) (n c:Nat) (xs:List Value):Prop where
 len:xs.length=n
 cap:n≤c
 some_:0<n→∃b o,a=some ⟨b,o,none⟩
 nil_:a=none→n=0∧c=0
 cell:∀i v,xs[i]? = some v→w.cell? (pu a i)=some v
theorem RV.below (h:RV w a n c xs)(I:Below B w w')(C:w.heap.size≤B):RV w' a n c xs :=
 ⟨h.len,h.cap,h.some_,h.nil_,fun i v u=>by
  have j:=World.block_lt_of_cell? w _ (h.cell i v u);rw[I.cell (p:=pu a i) (Nat.lt_of_lt_of_le j C)];exact h.cell i v u⟩
theorem RV.nil (w:World):RV w none 0 0 []:=⟨rfl,Nat.le_refl _,fun h=>absurd h oo,fun _=>⟨rfl,rfl⟩,fun i v h=>by simp at h⟩
theorem RV.cut (h:RV w a n c xs)(l k m:Nat)(O:l≤k)(J:k≤m)(M:k≤n)(U:m≤c):RV w (if m=l then a else a.map (·.add (l*1))) (k-l) (m-l) ((xs.take k).drop l):=by
 refine⟨by simp[h.len];omega,by omega,?_,?_,?_⟩
 ·intro Z;obtain⟨b,o,rfl⟩:=h.some_ oo;by_cases j:m=l
  ·omega
  ·rw[if_neg j];exact⟨b,o+l,by simp[Addr.add]⟩
 ·intro u;by_cases j:m=l
  ·omega
  ·rw[if_neg j]at u;cases a with
   | none=>have:=h.nil_ rfl;omega
   | some ad=>simp at u
 ·intro i v C;have hi:i<k-l:=by
   have:=(gS C).1
   simp[h.len]at this;omega
  obtain⟨b,o,rfl⟩:=h.some_ oo;rw[if_neg oo];have I:((⟨b,o,none⟩:Addr).add (l*1))=⟨b,o+l,none⟩:=by unfold Addr.add;split<;>simp_all
  simp only[Option.map_some,I,rV]
  have:=h.cell (l+i) v (by rw[←C,List.getElem?_drop,List.getElem?_take];rw[if_pos oo])
  rw[rV]at this;rw[Nat.add_assoc];exact this
def u8v (c:UInt8):Value:=.int .u8 (c.toNat:Int)
def RB (w:World)(a:Option Addr)(n c:Nat)(l:List UInt8):Prop:=RV w a n c (l.map u8v)
theorem RB.rv {l:List UInt8}(h:RB w a n c l):RV w a n c (l.map u8v):=h
theorem RB.len {l:List UInt8}(h:RB w a n c l):l.length=n:=by simpa using RV.len h
theorem RB.below {l:List UInt8}(h:RB w a n c l)(u:Below B w w')(j:w.heap.size≤B):RB w' a n c l:=RV.below h u j
theorem RB.cut {xs:List UInt8}(h:RB w a n c xs)(l k m:Nat)(C:l≤k)(j:k≤m)(u:k≤n)(I:m≤c):RB w (if m=l then a else a.map (·.add (l*1))) (k-l) (m-l) ((xs.take k).drop l):=by
 have:=RV.cut h l k m C j u I
 simpa[RB,List.map_drop,List.map_take]using this
theorem RB.cell {l:List UInt8}(h:RB w a n c l)(i:Nat)(hi:i<l.length):w.cell? (pu a i)=some (.int .u8 (l[i].toNat:Int)) :=
 RV.cell h i _ (by simp[gE hi,u8v])
def OV (w:World)(B:Nat)(E:TypeId)(a:Option Addr)(n c:Nat)(xs:List Value):Prop:=w.ownsRow B E 1 (.slice a n c) n xs
theorem OV.rv (h:OV w B E a n c xs):RV w a n c xs:=by
 have I:xs.length=n:=by simpa using h.1
 rcases h.2 with⟨j,O⟩|⟨g,cap,u,j,Z,J,C,hm,hs,U⟩
 ·simp only[Value.slice.injEq]at j;obtain⟨rfl,_,rfl⟩:=j;subst O
  have:xs=[]:=List.eq_nil_of_length_eq_zero I
  subst this;exact RV.nil w
 ·simp only[Value.slice.injEq]at j;obtain⟨rfl,_,rfl⟩:=j;refine⟨I,C,fun _=>⟨g,0,rfl⟩,fun e=>by simp at e,fun i v hi=>?_⟩;have M:i<xs.length:=(gS hi).1;rw[rV,Nat.zero_add,cell_of_row w g i u E (0,0) J];rw[←U]at hi;rw[List.getElem?_take]at hi;split at hi
  ·simpa using hi
  ·cases hi
theorem OV.block (h:OV w B E a n c xs):∀k,(Value.slice a n c).ownBlock=some k→B≤k∧k<w.heap.size:=World.ownsRow.lt h
theorem OV.nil (w:World)(B:Nat)(E:TypeId):OV w B E none 0 0 []:=World.ownsRow_nil w B E 1
theorem OV.mono (h:OV w B E a n c xs)(C:B'≤B):OV w B' E a n c xs:=by
 refine⟨h.1,?_⟩;rcases h.2 with u|⟨g,cap,j,J,I,r⟩
 ·exact .inl u
 ·exact .inr ⟨g,cap,j,J,Nat.le_trans C I,r⟩
theorem OV.below (h:OV w B E a n c xs)(J:Below D w w')(U:w.heap.size≤D):OV w' B E a n c xs:=by
 refine⟨h.1,?_⟩;rcases h.2 with C|⟨g,cap,j,O,I,u,r⟩
 ·exact .inl C
 ·have M:g<w.heap.size:=(Array.getElem?_eq_some_iff.1 u).1;exact .inr ⟨g,cap,j,O,I,(J.block g oo).trans u,r⟩
theorem cM {h:Option Nat}(u:w.grownBy w' h)(j:B≤w.heap.size)(C:∀k,h=some k→B≤k):Below B w w' :=
 (Below.refl B w).grown u j C
section
variable {P:Program}(w:World)
theorem SC (base : Nat) (t ty e : TypeId) (i : TypeInfo) (z : Value) (bytes : Nat) (ht : P.underlying t = some (.slice e)) (hi : P.info? e = some i) (hz : i.zero = some z)
    (hsize : i.size = 1) (hby : i.bytes = bytes) (hzs : z.cells.size = 1)
    {a : Option Addr} {n c : Nat} {xs : List Value} (hown : OV w base e a n c xs) {a2 : Option Addr} {m c2 : Nat} {ys : List Value} (hy : RV w a2 m c2 ys) (h1 : ∀ u ∈ ys, u.oneCell' = true)
    (hbytes : (n + m) * bytes ≤ 140737488355328) (h63 : n + m ≤ 9223372036854775807) (hbase : base ≤ w.heap.size) :
    ∃ a' c' w', (Builtin.append_ #[t, t] ty #[.slice a n c, .slice a2 m c2]).run P w = .ok (.slice a' (n + m) c') w' ∧ OV w' base e a' (n + m) c' (xs ++ ys) ∧ w.grownBy w' (Value.slice a n c).ownBlock := by
  have fin : ∀ (v' : Value) (w' : World), w'.ownsRow base e 1 v' (n + m) (xs ++ ys) → ∃ a' c', v' = .slice a' (n + m) c' := by
    intro v' w' h
    rcases h.2 with ⟨hv, hn⟩ | ⟨g, cap, cur, hv, _⟩
    · exact ⟨none, 0, by rw [hv, hn]⟩
    · exact ⟨_, cap, hv⟩
  cases a2 with
  | some ad =>
    have hn : ∀ j u, ys[j]? = some u → w.cell? (ad.add j) = some u := by
      intro j u hj
      have hlt : j < m := by rw [← hy.len]; exact (List.getElem?_eq_some_iff.1 hj).1
      obtain ⟨b, o, hbo⟩ := hy.some_ (by omega)
      have hc := hy.cell j u hj
      cases hbo
      rw [rV] at hc
      have he : ((⟨b, o, none⟩ : Addr).add j) = ⟨b, o + j, none⟩ := by unfold Addr.add; split <;> simp_all
      rw [he]; exact hc
    obtain ⟨v', w', hr, h2, h3, _⟩ := run_append_own (P := P) w base t ty e i z 1 bytes ht hi hz hsize hby hzs (by omega) _ n xs hown ad m c2 ys (by simp [hy.len]) hn h1 (by simp only [maxLen]; omega) hbytes hbase
    obtain ⟨a', c', rfl⟩ := fin _ _ h2
    exact ⟨a', c', w', hr, h2, h3⟩
  | none =>
    obtain ⟨rfl, rfl⟩ := hy.nil_ rfl
    have : ys = [] := List.eq_nil_of_length_eq_zero hy.len
    subst this
    refine ⟨a, c, w, run_append_owned_none (P := P) w base t ty e i 1 ht hi _ n xs hown, by simpa using hown, World.grownBy.refl _ _⟩

variable {ops:Array Oper}{rest:List Oper}{a:Act}{Q:Exit→Act→World→Prop}{dst:Option Tmp}{ty:TypeId}{pos:String}{after:Array Edge}
theorem WT (t e:TypeId)(i:TypeInfo)(z:Value)(M:P.underlying t=some (.slice e))(hi:P.info? e=some i)(U:i.zero=some z)(h:i.size=1)(C:z.cells.size=1)(v:Value)(O:v.cells=#[v]):(Instr.buildSlice t 1 #[(0,v)]).run P w=.ok (.slice (some ⟨w.heap.size,0,none⟩) 1 1) (w.alloc (.cells #[v] e)):=by
 obtain⟨z0,u⟩:∃z0,z.cells=#[z0]:=by
  match hc:z.cells,C with
  | ⟨[z0]⟩,_=>exact⟨z0,rfl⟩
 have J:(Array.range 1).map (fun k=>z.cells[k%z.cells.size]!)=#[z0]:=by
  rw[u];apply Array.ext
  ·simp
  ·intro j Z I
   have:j=0:=by simpa using I
   subst this;simp
 simp[Instr.buildSlice,Instr.fill,run_underlying M,sizeOf,typeInfo,hi,h,zeroValue,U,O,newRow,J]
end
theorem uE (l:List UInt8):(xk l).toList=l:=by
 simp[xk]
@[go_sem ↓] theorem binOp_bstr_eql (t:TypeId) (l m:List UInt8):binOp .eql t (.string (xk l)) (.string (xk m))=pure (.bool (l==m)):=by
 rw[binOp_string_eql,uE,uE]
@[go_sem ↓] theorem binOp_bstr_neq (t:TypeId) (l m:List UInt8):binOp .neq t (.string (xk l)) (.string (xk m))=pure (.bool (!(l==m))):=by
 rw[binOp_string_neq,uE,uE]
@[go_sem ↓] theorem binOp_bstr_lss (t:TypeId) (l m:List UInt8):binOp .lss t (.string (xk l)) (.string (xk m))=pure (.bool (Op.bytesLess l m)):=by
 rw[binOp_string_lss,uE,uE]
section
variable {P:Program}(w:World)
variable {ops:Array Oper}{rest:List Oper}{a:Act}{Q:Exit→Act→World→Prop}{dst:Option Tmp}{ty:TypeId}{pos:String}{after:Array Edge}
end
theorem eU {n:Int}(h : -9223372036854775808≤n)(j:n≤9223372036854775807):IntKind.i64.wrap n=n:=IntWalk.i64_in n ⟨h,j⟩
theorem eu (n:Int):IntKind.u64.wrap n=n%18446744073709551616:=by simp[IntKind.wrap,IntKind.signed,IntKind.bits]
theorem JL (n:Int):IntKind.u32.wrap n=n%4294967296:=by simp[IntKind.wrap,IntKind.signed,IntKind.bits]
theorem Iu (n:Int):IntKind.u8.wrap n=n%256:=by simp[IntKind.wrap,IntKind.signed,IntKind.bits]
section
variable {P:Program}{K:KV}{w:World}{t:TypeId}{cx cy:Bool}
theorem gy {j:BinOp}{x y v:Value}(C:(eqG j t cx cy x y).run P w=.ok () w)(u:(binOp j t x y).run P w=.ok v w)(h:K v w):bin P j t cx cy x y K w:=by
 unfold bin;refine ey (w':=w) (v:=v) ?_ h;simp only[Sem.run_bind,C,Result.andThen_ok,u]
theorem nH (h:BinOp)(k j:IntKind)(a b:Int):(eqG h t cx cy (.int k a) (.int j b)).run P w=.ok () w:=by
 unfold eqG eqGuard;cases h<;>simp[Sem.run_pure]
variable {k:IntKind}{a b:Int}
theorem aO (h:K (.bool (decide (a=b))) w):bin P .eql t cx cy (.int k a) (.int k b) K w:=by
 refine gy (nH ..) ?_ h
 have:(a==b)=decide (a=b):=by by_cases j:a=b<;>simp[j]
 simp[binOp,Op.intCmp,Sem.run_pure,this]
theorem aX (h:K (.bool (decide (a≠b))) w):bin P .neq t cx cy (.int k a) (.int k b) K w:=by
 refine gy (nH ..) ?_ h
 have:(a != b)=decide (a≠b):=by by_cases j:a=b<;>simp[j]
 simp only[binOp,Op.intCmp,ne_eq,not_true_eq_false,if_false,Sem.run_pure,this]
theorem aK (h:K (.bool (decide (a<b))) w):bin P .lss t cx cy (.int k a) (.int k b) K w:=by
 refine gy (nH ..) ?_ h;simp[binOp,Op.intCmp,Sem.run_pure]
theorem gJ (h:K (.bool (decide (a≤b))) w):bin P .leq t cx cy (.int k a) (.int k b) K w:=by
 refine gy (nH ..) ?_ h;simp[binOp,Op.intCmp,Sem.run_pure]
theorem bO (h:K (.bool (decide (b<a))) w):bin P .gtr t cx cy (.int k a) (.int k b) K w:=by
 refine gy (nH ..) ?_ h;simp[binOp,Op.intCmp,Sem.run_pure]
theorem bI (h:K (.bool (decide (b≤a))) w):bin P .geq t cx cy (.int k a) (.int k b) K w:=by
 refine gy (nH ..) ?_ h;simp[binOp,Op.intCmp,Sem.run_pure]
theorem iW (h:K (.int k (k.wrap (a+b))) w):bin P .add t cx cy (.int k a) (.int k b) K w:=by
 refine gy (nH ..) ?_ h;simp[binOp,Op.intArith,Sem.run_pure]
theorem jK (h:K (.int k (k.wrap (a-b))) w):bin P .sub t cx cy (.int k a) (.int k b) K w:=by
 refine gy (nH ..) ?_ h;simp[binOp,Op.intArith,Sem.run_pure]
theorem Vb (h:K (.int k (k.wrap (a*b))) w):bin P .mul t cx cy (.int k a) (.int k b) K w:=by
 refine gy (nH ..) ?_ h;simp[binOp,Op.intArith,Sem.run_pure]
theorem aM (j : -9223372036854775808≤a+b)(u:a+b≤9223372036854775807)(h:K (.int .i64 (a+b)) w):bin P .add t cx cy (.int .i64 a) (.int .i64 b) K w :=
 iW (by rw[eU j u];exact h)
theorem aP (h:K (.int .i64 (a+b)) w)(j : -9223372036854775808≤a+b:=by omega)(u:a+b≤9223372036854775807:=by omega):bin P .add t cx cy (.int .i64 a) (.int .i64 b) K w:=aM j u h
theorem ba (j : -9223372036854775808≤a-b)(u:a-b≤9223372036854775807)(h:K (.int .i64 (a-b)) w):bin P .sub t cx cy (.int .i64 a) (.int .i64 b) K w :=
 jK (by rw[eU j u];exact h)
theorem sP (h:K (.int .i64 (a-b)) w)(j : -9223372036854775808≤a-b:=by omega)(u:a-b≤9223372036854775807:=by omega):bin P .sub t cx cy (.int .i64 a) (.int .i64 b) K w:=ba j u h
theorem Ju (j : -9223372036854775808≤a*b)(u:a*b≤9223372036854775807)(h:K (.int .i64 (a*b)) w):bin P .mul t cx cy (.int .i64 a) (.int .i64 b) K w :=
 Vb (by rw[eU j u];exact h)
theorem AJ (j:b≠0)(h:K (.int k (a.tmod b)) w):bin P .rem t cx cy (.int k a) (.int k b) K w:=by
 refine gy (nH ..) ?_ h;simp[binOp,Op.intDiv,Sem.run_pure,j]
theorem zbo (j:b≠0)(h:K (.int k (k.wrap (a.tdiv b))) w):bin P .quo t cx cy (.int k a) (.int k b) K w:=by
 refine gy (nH ..) ?_ h;simp[binOp,Op.intDiv,Sem.run_pure,j]
theorem Ct (j:0≤a)(u:0<b)(h:K (.int k (a%b)) w):bin P .rem t cx cy (.int k a) (.int k b) K w :=
 AJ oo (by rw[Int.tmod_eq_emod_of_nonneg j];exact h)
theorem Qd (j:0≤a)(u:a≤9223372036854775807)(C:0<b)(h:K (.int .i64 (a / b)) w):bin P .quo t cx cy (.int .i64 a) (.int .i64 b) K w :=
 zbo oo (by
  rw[Int.tdiv_eq_ediv_of_nonneg j,eU (Int.le_trans oo (Int.ediv_nonneg j oo)) (Int.le_trans (Int.ediv_le_self b j) u)];exact h)
theorem yL (j:0≤b)(h:K (.int k (k.wrap (a*2 ^ (min b.toNat k.bits)))) w):bin P .shl t cx cy (.int k a) (.int J0 b) K w:=by
 refine gy (nH ..) ?_ h
 have : ¬b<0:=by omega
 simp[binOp,Op.shift,Sem.run_pure,this]
theorem Ek (j:0≤b)(h:K (.int k (a.fdiv (2 ^ (min b.toNat k.bits)))) w):bin P .shr t cx cy (.int k a) (.int J0 b) K w:=by
 refine gy (nH ..) ?_ h
 have : ¬b<0:=by omega
 simp[binOp,Op.shift,Sem.run_pure,this]
def oM (op:BinOp)(k:IntKind)(x y:Int):Int :=
 let a:=BitVec.ofInt k.bits x
 let b:=BitVec.ofInt k.bits y
 match op with
 | .and=>k.wrap (a &&& b).toNat
 | .or=>k.wrap (a ||| b).toNat
 | .xor=>k.wrap (a ^^^ b).toNat
 | _=>k.wrap (a &&& ~~~b).toNat
theorem Qw (h:K (.int k (oM .and k a b)) w):bin P .and t cx cy (.int k a) (.int k b) K w:=by
 refine gy (nH ..) ?_ h;simp[binOp,Op.intBits,Sem.run_pure,oM]
theorem Pe (h:K (.int k (oM .or k a b)) w):bin P .or t cx cy (.int k a) (.int k b) K w:=by
 refine gy (nH ..) ?_ h;simp[binOp,Op.intBits,Sem.run_pure,oM]
theorem Mg (h:K (.int k (oM .xor k a b)) w):bin P .xor t cx cy (.int k a) (.int k b) K w:=by
 refine gy (nH ..) ?_ h;simp[binOp,Op.intBits,Sem.run_pure,oM]
theorem bK {x:Bool}(h:K (.bool (!x)) w):un P .not (.bool x) K w:=by
 unfold un;exact ey (by simp[Op.unary,Sem.run_pure]) h
theorem wZ {p:Prop}[Decidable p](h:K (.bool (decide (¬p))) w):un P .not (.bool (decide p)) K w :=
 bK (by rw[←decide_not];exact h)
theorem zea (h:K (.int k (oM .xor k (if k.signed then -1 else k.max) a)) w):un P .xor (.int k a) K w:=by
 unfold un;exact ey (by simp only[Op.unary,Op.intBits,Sem.run_pure];rfl) h
theorem bX {s d:TypeId}{j:TypeDesc}(C:P.underlying s=some j)(u:P.underlying d=some (.int J0))(h:K (.int J0 (J0.wrap a)) w):conv P s d (.int k a) K w:=by
 unfold conv
 refine ey (w':=w) ?_ h;cases j<;>simp[convert,run_underlying C,run_underlying u,Conv.intToInt,Sem.run_pure]
theorem rG {vs:Array Value}{v:Value}(j:vs[i]? = some v)(h:K v w):ext P (.tuple vs) i K w:=by
 unfold ext;exact ey (by simp[Instr.extract,j,Sem.run_pure]) h
theorem bu {a b:Value}(h:K a w):ext P (.tuple #[a,b]) 0 K w:=rG rfl h
theorem bv {a b:Value}(h:K b w):ext P (.tuple #[a,b]) 1 K w:=rG rfl h
theorem PB {a b c:Value}(h:K a w):ext P (.tuple #[a,b,c]) 0 K w:=rG rfl h
theorem PC {a b c:Value}(h:K b w):ext P (.tuple #[a,b,c]) 1 K w:=rG rfl h
theorem PD {a b c:Value}(h:K c w):ext P (.tuple #[a,b,c]) 2 K w:=rG rfl h
theorem bA {x y:Value}{p:Prop}[Decidable p](j:p)(h:K x w):pick (.bool (decide p)) x y K w:=⟨_,rfl,by simp[j,h]⟩
theorem bj {x y:Value}{p:Prop}[Decidable p](j : ¬p)(h:K y w):pick (.bool (decide p)) x y K w:=⟨_,rfl,by simp[j,h]⟩
theorem cz {x y:Value}(h:K x w):pick (.bool true) x y K w:=⟨_,rfl,h⟩
theorem dh {x y:Value}(h:K y w):pick (.bool false) x y K w:=⟨_,rfl,h⟩
theorem KH {p:Prop}[Decidable p]{A B:Prop}(j:p→A)(u : ¬p→B):cond (.bool (decide p)) A B:=⟨_,rfl,fun h=>j (by simpa using h),fun h=>u (by simpa using h)⟩
theorem ax {p:Prop}[Decidable p]{A B:Prop}(u:p)(h:A):cond (.bool (decide p)) A B:=⟨_,rfl,fun _=>h,fun j=>absurd u (by simpa using j)⟩
theorem ao {p:Prop}[Decidable p]{A B:Prop}(u : ¬p)(h:B):cond (.bool (decide p)) A B:=⟨_,rfl,fun j=>absurd (by simpa using j) u,fun _=>h⟩
theorem cOt {p:Prop}[Decidable p]{A B:Prop}(h:A)(j:p:=by omega):cond (.bool (decide p)) A B:=ax j h
theorem cOf {p:Prop}[Decidable p]{A B:Prop}(h:B)(j : ¬p:=by omega):cond (.bool (decide p)) A B:=ao j h
theorem aT {A B:Prop}(h:A):cond (.bool true) A B:=⟨_,rfl,fun _=>h,(fun j=>by cases j)⟩
theorem aF {A B:Prop}(h:B):cond (.bool false) A B:=⟨_,rfl,(fun j=>by cases j),fun _=>h⟩
theorem ze {c:Bool}{A B:Prop}(h:c=true→A)(j:c=false→B):cond (.bool c) A B:=⟨c,rfl,h,j⟩
theorem ac {s:KV→World→Prop}{k:KV}{v:Value}(h:∀K:KV,K v w→s K w)(j:k v w):sti s k w:=⟨v,h _ ⟨rfl,rfl⟩,j⟩
variable {A B:(List Value→World→Prop)→Prop}{KL:List Value→World→Prop}
theorem PH {v:Value}(u:v=.bool cx)(h:A KL):aG v cx A B KL:=⟨fun _=>h,fun j=>absurd (by rw[u];rfl) j⟩
theorem HP {v:Value}(u:asB v≠some cx)(h:B KL):aG v cx A B KL:=⟨fun j=>absurd j u,fun _=>h⟩
theorem cU {p:Prop}[Decidable p](j:p)(h:A KL):aG (.bool (decide p)) true A B KL:=PH (by simp[j]) h
theorem eB {p:Prop}[Decidable p](j : ¬p)(h:B KL):aG (.bool (decide p)) true A B KL:=HP (by simp[asB,j]) h
theorem iq {p:Prop}[Decidable p](j:p)(h:B KL):aG (.bool (decide p)) false A B KL:=HP (by simp[asB,j]) h
theorem dt {p:Prop}[Decidable p](j : ¬p)(h:A KL):aG (.bool (decide p)) false A B KL:=PH (by simp[j]) h
theorem qq (h:A KL):aG (.bool true) true A B KL:=PH rfl h
theorem eA (h:B KL):aG (.bool true) false A B KL:=HP (by simp[asB]) h
theorem iZ (h:A KL):aG (.bool false) false A B KL:=PH rfl h
theorem PG (j:B KL):aG undef cx A B KL:=HP (fun h=>by cases h) j
theorem nY (h:B KL):aG (.bool false) true A B KL:=HP (by simp[asB]) h
theorem ak {f:FuncId}{args:Array Value}(j:Li P f)(h:Gives P f args w K):call P f args K w:=⟨j,h⟩
theorem rD {u:Builtin}{j:Array TypeId}{cs:Array Bool}{args:Array Value}{v:Value}(C:(builtin u j E cs args).run P w=.ok (.value v) w')(h:K v w'):blt P u j E cs args K w:=by
 unfold blt;rw[C];exact h
theorem bh {e ty : TypeId} {cs : Array Bool} {av : Option Addr} {n c : Nat} (ht : P.underlying t = some (.slice e)) (h : K (.int .i64 (n : Int)) w) : blt P .len #[t] ty cs #[.slice av n c] K w :=
  rD (by rw [BigFrame.builtin_len]; simp [Builtin.len_, run_underlying ht, Sem.run_pure, goInt]) h
theorem Va {e ty : TypeId} {cs : Array Bool} {base : Nat} {i : TypeInfo} {z : Value} {bytes : Nat} (ht : P.underlying t = some (.slice e)) (hi : P.info? e = some i) (hz : i.zero = some z)
    (hsize : i.size = 1) (hby : i.bytes = bytes) (hzs : z.cells.size = 1)
    {av : Option Addr} {n c : Nat} {xs : List Value} (hown : OV w base e av n c xs) {a2 : Option Addr} {m c2 : Nat} {ys : List Value} (hy : RV w a2 m c2 ys) (h1 : ∀ u ∈ ys, u.oneCell' = true)
    (hbytes : (n + m) * bytes ≤ 140737488355328) (h63 : n + m ≤ 9223372036854775807) (hbase : base ≤ w.heap.size)
    (h : ∀ a' c' w', OV w' base e a' (n + m) c' (xs ++ ys) → w.grownBy w' (Value.slice av n c).ownBlock → K (.slice a' (n + m) c') w') :
    blt P .append #[t, t] ty cs #[.slice av n c, .slice a2 m c2] K w := by
  obtain ⟨a', c', w', hr, h2, h3⟩ := SC (P := P) w base t ty e i z bytes ht hi hz hsize hby hzs hown hy h1 hbytes h63 hbase
  exact rD (by rw [BigFrame.builtin_append]; simp only [Sem.run_bind, hr, Result.andThen_ok, Sem.run_pure]) (h a' c' w' h2 h3)

theorem HQ (M:P.underlying t=some (.slice e))(J:∀w,(sizeOf e).run P w=.ok 1 w)(u:0≤x)(C:x<n)(j:0<n→∃b o,av=some ⟨b,o,none⟩)(h:K (.pointer (some (pu av x.toNat))) w):aL P t (.slice av n c) (.int k x) K w:=by
 obtain⟨b,o,rfl⟩:=j oo;have I:((⟨b,o,none⟩:Addr).add x.toNat)=⟨b,o+x.toNat,none⟩:=by unfold Addr.add;split<;>simp_all
 unfold aL;refine ey (w':=w) ?_ h;simp only[Instr.indexAt,asIntOf,Sem.run_bind,Sem.run_pure,Result.andThen_ok,run_underlying M,J,u,C,and_self,if_true,Nat.mul_one,I];rfl
theorem PS {j:Addr}{v:Value}(u:(loadVar t j).run P w=.ok v w)(h:K v w):ld P t (.pointer (some j)) K w:=by
 unfold ld;exact ey (by simp only[Instr.loadAt,Instr.sureAddr,Sem.run_bind,Sem.run_pure,Result.andThen_ok,u]) h
theorem yR {j:Addr}{v:Value}(u:∀w,(isAgg t).run P w=.ok false w)(C:w.cell? j=some v)(h:K v w):ld P t (.pointer (some j)) K w:=by
 refine PS ?_ h;simp[loadVar,Sem.run_bind,u,load,C,Sem.run]
theorem zaC {ad:Addr}{v u:Value}(M:∀w,(sizeOf t).run P w=.ok 1 w)(U:v.oneCell'=true)(j:v.cells=#[v])(I:w.cell? ad=some u)(J:w.frozen? ad=false)(O:ad.spot=none)(h:K undef (w.setCell ad v)):sto P t (.pointer (some ad)) v K w:=by
 unfold sto;have C:ad.add 0=ad:=rfl;refine Q9 (w':=w.setCell ad v) (u:=()) ?_ h;simp[Instr.storeAt,Instr.sureAddr,storeVar,Sem.run_bind,M,j,storeCells,store,C,I,J];cases v<;>simp_all [Value.oneCell',Sem.run]
theorem ze2 (ht:P.underlying t=some (.slice e))(hs:∀w,(sizeOf e).run P w=.ok 1 w){l:Nat}(U:RV w av n c xs){lo hi:Option Value}(J:(lo=none∧l=0)∨∃k,lo=some (.int k (l:Int)))(I:(hi=none∧m=n)∨∃k,hi=some (.int k (m:Int)))(u:l≤m)(M:m≤n)(h:∀O,RV w O (m-l) (c-l) ((xs.take m).drop l)→K (.slice O (m-l) (c-l)) w):slc P t (.slice av n c) lo hi none K w:=by
 have aa:=U.cap;have C:∀(k:IntKind) (i y:Nat) (j:BoundsCode),i≤y→(Instr.sliceBound (.int k (i:Int)) y j).run P w=.ok i w:=by
  intro k i y j hi
  have:=run_sliceBound (P:=P) w k (i:Int) y j oo oo
  simpa using this
 have hb:(Instr.sliceBounds true n c lo hi none).run P w=.ok (l,m,c) w:=by
  rcases J with⟨rfl,rfl⟩|⟨kl,rfl⟩<;>rcases I with⟨rfl,rfl⟩|⟨Z,rfl⟩
  ·simp[Instr.sliceBounds]
  ·simp[Instr.sliceBounds,C Z m c _ oo]
  ·simp[Instr.sliceBounds,C kl l m _ u]
  ·simp[Instr.sliceBounds,C Z m c _ oo,C kl l m _ u]
 unfold slc;refine ey (w':=w) ?_ (h _ (U.cut l m c u oo M oA));simp only[Instr.sliceAt,Instr.slice,Sem.run_bind,Sem.run_pure,Result.andThen_ok,run_underlying ht,hs,hb]
theorem zaP {i:TypeInfo}{z:Value}(M:P.underlying t=some (.slice e))(hi:P.info? e=some i)(U:i.zero=some z)(C:i.size=1)(J:z.cells.size=1){v:Value}(O:v.cells=#[v])(h:RV (w.alloc (.cells #[v] e)) (some ⟨w.heap.size,0,none⟩) 1 1 [v]→K (.slice (some ⟨w.heap.size,0,none⟩) 1 1) (w.alloc (.cells #[v] e))):bg P t 1 #[(0,v)] K w:=by
 unfold bg;refine ey (WT w t e i z M hi U C J v O) (h ⟨rfl,Nat.le_refl _,fun _=>⟨_,_,rfl⟩,(fun h=>by simp at h),fun j u I=>?_⟩)
 have:j=0:=by
  have:=(gS I).1
  simpa using this
 subst this;simp at I;subst I;rw[rV,World.cell?_alloc_at _ _ _ _ rfl];rfl
theorem zfc {e:TypeId}{base:Nat}{i:TypeInfo}{z:Value}{bytes:Nat}(ht:P.underlying t=some (.slice e))(hi:P.info? e=some i)(hz:i.zero=some z)(hsize:i.size=1)(hby:i.bytes=bytes){kl kc:IntKind}{C:Int}{n:Nat}(hC:C=(n:Int))(b2:bytes*n≤281474976710656)(b3:n≤9223372036854775807)(hbase:base≤w.heap.size)(h:∀a' w',OV w' base e a' 0 n []→Below w.heap.size w w'→K (.slice a' 0 n) w'):mkS P t (.int kl 0) (.int kc C) K w:=by
 subst hC
 obtain⟨w',hrun,r1,r2⟩:=run_make_own (P:=P) w base t e i z 1 ht hi hz hsize kl kc n (by rw[hby];exact b2) (by simp only[maxLen];omega) hbase
 unfold mkS
 exact ey hrun (h _ w' r1 (cM r2 (Nat.le_refl _) (fun k hk=>by cases hk)))
theorem zej {i:TypeInfo}{base:Nat}(M:P.underlying t=some (.slice e))(hi:P.info? e=some i)(u:i.size=1)(j:base≤w.heap.size)(h:∀C w',OV w' base e C 0 0 []→Below w.heap.size w w'→K (.slice C 0 0) w'):bg P t 0 #[] K w:=by
 unfold bg;refine ey (w':=w.alloc (.cells #[] e)) (v:=.slice (some ⟨w.heap.size,0,none⟩) 0 0) ?_ (h _ _ (World.ownsRow_made w #[] 0 j (Nat.zero_le _) rfl) (cM (World.grownBy_alloc _ _ none) oA (fun k J=>by cases J)));have I:∀f:Nat→Value,(Array.range 0).map f=#[]:=fun f=>by apply Array.ext<;>simp
 simp[Instr.buildSlice,Instr.fill,run_underlying M,sizeOf,typeInfo,hi,u,newRow,I]
theorem Z9 (j:P.underlying t=some (.slice e))(h:K (.bool av.isNone) w):bin P .eql t cx cy (.slice av n c) (.slice none 0 0) K w:=by
 refine gy (by unfold eqG eqGuard;simp[Sem.run_pure]) ?_ h;simp only[binOp,Sem.run_bind,run_equal_slice_nil w t e av n c j,Result.andThen_ok,Sem.run_pure]
theorem Rb (I:n<72057594037927936)(C:c<256):oM .or .u64 (IntKind.u64.wrap ((n:Int)*2 ^ (min (8:Int).toNat IntKind.u64.bits))) (c:Int)=((n*256+c:Nat):Int):=by
 have j:(2:Int) ^ (min (8:Int).toNat IntKind.u64.bits)=256:=rfl;rw[j,eu];have e1:((n:Int)*256)%18446744073709551616=((n*256:Nat):Int):=by omega
 rw[e1];unfold oM;have u:IntKind.u64.bits=64:=rfl;simp only[u,eu]
 have:(BitVec.ofInt 64 ((n*256:Nat):Int) ||| BitVec.ofInt 64 ((c:Nat):Int)).toNat=n*256+c:=by
  rw[BitVec.toNat_or,BitVec.ofInt_natCast,BitVec.ofInt_natCast,BitVec.toNat_ofNat,BitVec.toNat_ofNat];rw[Nat.mod_eq_of_lt oo,Nat.mod_eq_of_lt oo];have h:=Nat.shiftLeft_add_eq_or_of_lt (i:=8) (b:=c) oo n;rw[Nat.shiftLeft_eq]at h;rw[←h]
 show ((BitVec.ofInt 64 ((n*256:Nat):Int) ||| BitVec.ofInt 64 ((c:Nat):Int)).toNat:Int)%18446744073709551616=_;rw[this];omega
def Er :Nat→List Value→List (Nat×Value)
 | _,[]=>[]
 | k,v::vs=>(k,v)::Er (k+1) vs
theorem Wt (z:Value):∀(vs:List Value) (h:List Value) (u:Nat),(∀v∈vs,v.cells=#[v])→vs.length≤u →
  Instr.fill (fun i=>some (i*1,1)) (h++List.replicate u z).toArray (Er h.length vs)=some (h++vs++List.replicate (u-vs.length) z).toArray:=by
 intro vs
 induction vs with
 | nil=>intro h u _ _;simp[Er,Instr.fill]
 | cons v vs ih =>
  intro h u J O;simp only[List.length_cons]at O;obtain⟨C,rfl⟩:∃s,u=s+1:=⟨u-1,by omega⟩
  have M:=J v (List.mem_cons_self ..);have I:=ih (h++[v]) C (fun x U=>J x (List.mem_cons_of_mem _ U)) oo;simp only[List.length_append,List.length_cons,List.length_nil,Nat.zero_add]at I;simp only[Er,Instr.fill,M];rw[if_neg sm]
  have:(#[v].zipIdx.foldl (fun cs (c,j)=>cs.setIfInBounds (h.length*1+j) c) (h++List.replicate (C+1) z).toArray)=(h++[v]++List.replicate C z).toArray:=by
   simp[List.replicate_succ]
  rw[this,I];simp[List.append_assoc]
theorem WU {i:TypeInfo}{z:Value}(Z:P.underlying t=some (.slice e))(hi:P.info? e=some i)(hz:i.zero=some z)(h:i.size=1)(J:z.cells=#[z])(vs:List Value)(U:vs.length≠0)(O:vs.length≤1000000)(hv:∀v∈vs,v.cells=#[v]):(Instr.buildSlice t vs.length (Er 0 vs).toArray).run P w=.ok (.slice (some ⟨w.heap.size,0,none⟩) vs.length vs.length) (w.alloc (.cells vs.toArray e)):=by
 have C:(Array.range (vs.length*1)).map (fun k=>z.cells[k%z.cells.size]!)=(([]:List Value)++List.replicate vs.length z).toArray:=by
  rw[J];apply Array.ext
  ·simp
  ·intro j h1 h2;simp[Nat.mod_one]
 have u:=Wt z vs [] vs.length hv oA;simp only[List.length_nil,List.nil_append,Nat.sub_self,List.replicate_zero,List.append_nil]at u C;have M : ¬(16777216<vs.length):=by omega
 have I:¬vs=[]:=fun e=>U (by rw[e];rfl);simp only[Nat.mul_one]at C u;rw[List.toArray_replicate]at u C;simp[Instr.buildSlice,run_underlying Z,sizeOf,typeInfo,hi,h,zeroValue,hz,newRow,C,u,I,M]
theorem Vc {i:TypeInfo}{z:Value}{ps:Array (Nat×Value)}(O:n=vs.length)(C:ps=(Er 0 vs).toArray)(U:P.underlying t=some (.slice e))(hi:P.info? e=some i)(hz:i.zero=some z)(j:i.size=1)(I:z.cells=#[z])(J:vs.length≠0)(u:vs.length≤1000000)(Z:∀v∈vs,v.cells=#[v])(h:OV (w.alloc (.cells vs.toArray e)) w.heap.size e (some ⟨w.heap.size,0,none⟩) vs.length vs.length vs→Below w.heap.size w (w.alloc (.cells vs.toArray e)) →
   K (.slice (some ⟨w.heap.size,0,none⟩) vs.length vs.length) (w.alloc (.cells vs.toArray e))):bg P t n ps K w:=by
 subst O C;unfold bg;refine ey (WU U hi hz j I vs J u Z) (h ⟨by simp,.inr ⟨w.heap.size,vs.length,vs.toArray,rfl,Nat.le_refl _,heap_alloc_new w _,Nat.le_refl _,?_,by simp,by simp⟩⟩ (cM (World.grownBy_alloc _ _ none) oA (fun k M=>by cases M)));simp only[maxLen];omega
end
def blk (w:World)(b:Nat)(E:TypeId)(cs:List Value):Prop:=w.heap[b]? = some (.cells cs.toArray E (0,0))
theorem blk.lt (h:blk w b E cs):b<w.heap.size:=(Array.getElem?_eq_some_iff.1 h).1
theorem blk.ne (h:blk w b E cs)(j:blk w c t xs)(u:E≠t):b≠c:=by
 rintro rfl;unfold blk at *;rw[h]at j;simp only[Option.some.injEq,Obj.cells.injEq]at j;exact u j.2.1
theorem blk.cell (h:blk w b E cs)(o:Nat):w.cell? ⟨b,o,none⟩=cs[o]? := by
 unfold World.cell?;rw[h];simp
theorem blk.frozen (h:blk w b E cs)(o:Nat):w.frozen? ⟨b,o,none⟩=false:=by
 unfold World.frozen?;rw[h];simp
structure Keep (T:List TypeId) (B:Nat) (w w':World):Prop where
 os:w'.os=w.os
 tape:w'.tape=w.tape
 output:w'.output=w.output
 size:w.heap.size≤w'.heap.size
 block:∀(k:Nat) (o:Obj),w.heap[k]? = some o→(k<B∨∀cs E z,o=.cells cs E z→E∉T)→w'.heap[k]? = some o
theorem Keep.refl (T:List TypeId)(B:Nat)(w:World):Keep T B w w:=⟨rfl,rfl,rfl,Nat.le_refl _,fun _ _ h _=>h⟩
theorem Keep.trans {T:List TypeId}{a b c:World}(h:Keep T B a b)(k:Keep T B b c):Keep T B a c :=
 ⟨k.os.trans h.os,k.tape.trans h.tape,k.output.trans h.output,Nat.le_trans h.size k.size,fun i o u j=>k.block i o (h.block i o u j) j⟩
theorem Keep.mono {T T':List TypeId}(h:Keep T B w w')(u:∀t∈T,t∈T')(j:B'≤B):Keep T' B' w w' :=
 ⟨h.os,h.tape,h.output,h.size,fun k o J C=>h.block k o J (C.elim (fun h=>.inl (Nat.lt_of_lt_of_le h j)) (fun h=>.inr fun cs E z e I=>h cs E z e (u E I)))⟩
theorem Keep.of {T:List TypeId}(h:Below w.heap.size w w'):Keep T B w w' :=
 ⟨h.os,h.tape,h.output,h.size,fun k o j _=>by rw[h.block k (Array.getElem?_eq_some_iff.1 j).1];exact j⟩
theorem Keep.below {T:List TypeId}(h:Keep T B w w')(C:B≤w.heap.size):Below B w w' :=
 ⟨h.os,h.tape,h.output,h.size,fun k u=>by
  have j:k<w.heap.size:=by omega
  rw[h.block k _ (Array.getElem?_eq_getElem j) (.inl u),Array.getElem?_eq_getElem j]⟩
theorem Keep.drew {T:List TypeId}{a:World}(h:Keep T B a w):Keep T B a w.drew:=⟨h.os,h.tape,h.output,h.size,h.block⟩
theorem Keep.undrew {T:List TypeId}{a:World}(h:Keep T B a.drew w):Keep T B a w:=⟨h.os,h.tape,h.output,h.size,h.block⟩
theorem Keep.blk {T:List TypeId}(h:Keep T B w w')(u:blk w b E cs)(j:b<B∨E∉T):blk w' b E cs :=
 h.block _ _ u (j.imp id fun h cs E z e=>by cases e;exact h)
theorem ae (h:Below B w w')(u:blk w b E cs)(j:b<B):blk w' b E cs:=by
 unfold Go.Proofs.YtkfgimlaijifaaaGreatDoor.blk;rw[h.block b j];exact u
theorem blk.drew (h:blk w b E cs):blk w.drew b E cs:=h
structure Oth (b:Nat) (w w':World):Prop where
 os:w'.os=w.os
 tape:w'.tape=w.tape
 output:w'.output=w.output
 size:w'.heap.size=w.heap.size
 other:∀k,k≠b→w'.heap[k]? = w.heap[k]?
theorem Oth.blk (h:Oth b w w')(j:blk w k E cs)(u:k≠b):blk w' k E cs:=by
 unfold Go.Proofs.YtkfgimlaijifaaaGreatDoor.blk;rw[h.other k u];exact j
theorem Oth.keep {T:List TypeId}(h:Oth b w w')(C:Go.Proofs.YtkfgimlaijifaaaGreatDoor.blk w b E cs)(I:E∈T)(J:B≤b):Keep T B w w' :=
 ⟨h.os,h.tape,h.output,by rw[h.size];exact Nat.le_refl _,fun k o u j=>by
  have:k≠b:=by
   rintro rfl;rcases j with j|j
   ·omega
   ·unfold Go.Proofs.YtkfgimlaijifaaaGreatDoor.blk at C;rw[C]at u;cases u;exact j _ _ _ rfl I
  rw[h.other k this];exact u⟩
theorem Oth.below (h:Oth b w w'):Below b w w' :=
 ⟨h.os,h.tape,h.output,by rw[h.size];exact Nat.le_refl _,fun k j=>h.other k oo⟩
theorem Keep.grown {T:List TypeId}(j:w.grownBy w' (Value.slice a n c).ownBlock)(U:w.ownsRow B2 E s (.slice a n c) n xs)(M:E∈T)(Z:B≤B2):Keep T B w w' :=
 ⟨j.os,j.tape,j.output,j.size,fun k o u h=>by
  have C:k<w.heap.size:=(Array.getElem?_eq_some_iff.1 u).1;rw[j.block k C ?_];exact u;rcases U.2 with⟨I,_⟩|⟨g,cap,J,I,hb,O,_⟩
  ·cases I;simp[Value.ownBlock]
  ·cases I;simp only[Value.ownBlock,ne_eq,Option.some.injEq];rintro rfl;rcases h with h|h
   ·omega
   ·rw[O]at u;cases u;exact h _ _ _ rfl M⟩
theorem Be (b o j:Nat):(⟨b,o,none⟩:Addr).add j=⟨b,o+j,none⟩:=Addr.add_mid b o j
theorem aj {a:Addr}(h:K (.pointer (some a)) w):aJ (.pointer (some a)) K w:=h
theorem ld1 {v:Value}(j:∀w,(isAgg t).run P w=.ok false w)(u:blk w b E cs)(C:cs[o]? = some v)(h:K v w):ld P t (pA b o) K w :=
 yR j (by rw[u.cell,C]) h
abbrev bW (w w':World):Prop:=Below w.heap.size w w'
theorem ivS {k : Nat} : Value.int .i64 ((k : Int) + 1) = .int .i64 ((k + 1 : Nat) : Int) := congrArg (Value.int .i64) (by push_cast; rfl)
theorem cZ (h:blk w k E (Value.agg cs.toArray).cells.toList):blk w k E cs:=by simpa[Value.cells]using h
theorem lK {v:Value}(u:blk w b E cs)(C:cs[o]? = some v)(h:K v w)(j:∀w,(isAgg t).run P w=.ok false w:=by intro _;kernel_rfl):ld P t (pA b o) K w:=ld1 j u C h
theorem ldA {d:TypeDesc}(O:P.underlying t=some d)(I:d.isRow=true)(hi:(P.info? t).map (·.size)=some n)(C:blk w b E cs)(U:(cs.drop o).take n=vs)(M:vs.length=n)(h:K (.agg vs.toArray) w):ld P t (pA b o) K w:=by
 refine PS (run_loadVar_mid w b o t vs d ?_ O I (by rw[M];exact hi)) h;intro j v u;rw[C.cell];subst U;have J:=(gS u).1;rw[List.getElem?_take]at u;split at u
 ·rw[List.getElem?_drop]at u;exact u
 ·cases u
theorem cB {v:Value}(O:∀w,(sizeOf t).run P w=.ok 1 w)(j:blk w b E cs)(M:o<cs.length)(C:v.oneCell'=true)(h:∀w',blk w' b E (cs.set o v)→Oth b w w'→K undef w'):sto P t (pA b o) v K w:=by
 have I:w.cell? ⟨b,o,none⟩=some cs[o]:=by rw[j.cell,gE M]
 have u:v.cells=#[v]:=by cases v<;>first|rfl|simp[Value.oneCell']at C
 refine zaC O C u I (j.frozen o) rfl (h _ ?_ ⟨rfl,rfl,rfl,by simp[World.setCell],fun k J=>Below.heap_setCell _ _ _ _ J⟩);unfold blk at *;simp only[World.setCell,Array.getElem?_modify];rw[if_pos trivial,j];simp
theorem Rs (b:Nat):∀(vs:List Value) (o:Nat) (w:World),Oth b w (w.setCells b o vs):=by
 intro vs
 induction vs with
 | nil=>intro o w;exact⟨rfl,rfl,rfl,rfl,fun _ _=>rfl⟩
 | cons v vs ih =>
  intro o w;have h:=ih (o+1) (w.setCell ⟨b,o,none⟩ v);rw[World.setCells];exact⟨h.os,h.tape,h.output,by rw[h.size];simp[World.setCell],fun k j=>(h.other k j).trans (Below.heap_setCell _ _ _ _ j)⟩
theorem Ur :∀(vs:List Value) (o:Nat) (w:World) (cs:List Value),blk w b E cs→o+vs.length≤cs.length→blk (w.setCells b o vs) b E (cs.take o++vs++cs.drop (o+vs.length)):=by
 intro vs
 induction vs with
 | nil=>intro o w cs h u;rw[World.setCells];simpa using h
 | cons v vs ih =>
  intro o w cs h u;rw[World.setCells];simp only[List.length_cons]at u;have I:blk (w.setCell ⟨b,o,none⟩ v) b E (cs.set o v):=by
   unfold blk at *;simp only[World.setCell,Array.getElem?_modify];rw[if_pos trivial,h];simp
  have j:=ih (o+1) _ _ I (by simp;omega)
  have:(cs.set o v).take (o+1)++vs++(cs.set o v).drop (o+1+vs.length)=cs.take o++(v::vs)++cs.drop (o+(vs.length+1)):=by
   have e:cs.set o v=cs.take o++v::cs.drop (o+1):=by rw[List.set_eq_take_append_cons_drop,if_pos oo]
   have C:(cs.take o).length=o:=by rw[List.length_take];omega
   rw[e,List.take_append,List.drop_append,C,List.take_take,List.drop_take];simp only[show min (o+1) o=o by omega,show o+1-o=1 by omega,List.take_succ_cons,List.take_zero,show o-(o+1+vs.length)=0 by omega,List.nil_append,show o+1+vs.length-o=vs.length+1 by omega,List.drop_succ_cons,List.drop_drop,
    show o+1+vs.length=o+(vs.length+1)by omega,List.append_assoc,List.cons_append,List.take_zero,show o-(o+(vs.length+1))=0 by omega,show o+(vs.length+1)-o=vs.length+1 by omega,List.nil_append,List.drop_succ_cons,List.drop_drop,
    show o+1+vs.length=o+(vs.length+1)by omega]
  rw[this]at j;exact j
theorem ip (hi:(P.info? t).map (·.size)=some n)(J:vs.length=n)(u:blk w b E cs)(M:o+n≤cs.length)(C:∀v∈vs,v.oneCell'=true)(h:∀w',blk w' b E (cs.take o++vs++cs.drop (o+n))→Oth b w w'→K undef w'):sto P t (pA b o) (.agg vs.toArray) K w:=by
 subst J;have O:=run_storeAt_mid (P:=P) w b o t vs.toArray (fun j I=>⟨by
  rw[u.cell,gE (by simp at I;omega)];rfl,u.frozen _⟩) (by simpa using hi) (by simpa using C)
 unfold sto;exact Q9 O (h _ (by simpa using Ur vs o w cs u M) (by simpa using Rs b vs o w))
theorem br {v:Value}(h:∀w',blk w' w.heap.size t v.cells.toList→Below w.heap.size w w'→w'.heap.size=w.heap.size+1→K (pA w.heap.size 0) w'):box P t v K w:=by
 unfold box;refine ey (w':=w.alloc (.cells v.cells t)) (v:=pA w.heap.size 0) ?_ (h _ ?_ (cM (World.grownBy_alloc _ _ none) oA (fun k j=>by cases j)) sm)
 ·simp[Instr.box,newVar,newRow]
 ·unfold blk;rw[heap_alloc_new]
theorem df {z:Value}(j:(P.info? t).bind (·.zero)=some z)(h:∀w',blk w' w.heap.size t z.cells.toList→Below w.heap.size w w'→w'.heap.size=w.heap.size+1→K (pA w.heap.size 0) w'):alc P t K w:=by
 obtain⟨i,hi,j⟩:=Option.bind_eq_some_iff.1 j;unfold alc;refine ey (w':=w.alloc (.cells z.cells t)) (v:=pA w.heap.size 0) ?_ (h _ ?_ (cM (World.grownBy_alloc _ _ none) oA (fun k u=>by cases u)) sm)
 ·simp[Instr.alloc,zeroValue,typeInfo,hi,j,newVar,newRow]
 ·unfold blk;rw[heap_alloc_new]
theorem dl {ps:Array (Nat×Value)}(j:P.built t ps.toList=some vs.toArray)(h:K (.agg vs.toArray) w):bld P t ps K w:=by
 unfold bld;exact ey (run_build w t ps _ j) h
def Zr (P:Program)(s:TypeId)(f:Nat):Option Nat :=
 match P.underlying s with
 | some (.struct fs) =>
  match fs[f]? with
  | some fd=>match P.info? fd.type with
   | some i=>match Nat.beq i.size 0 with|true=>none|false=>some fd.offset
   | none=>none
  | none=>none
 | _=>none
theorem aH {off:Nat}(j:Zr P t f=some off)(h:K (pA b (o+off)) w):ai P t (pA b o) f K w:=by
 unfold Zr at j;split at j
 ·rename_i fs O;split at j
  ·rename_i J C;split at j
   ·rename_i i hi;split at j
    ·cases j
    ·rename_i I;cases j;have M:(sizeOf J.type).run P w=.ok i.size w:=by simp[sizeOf,typeInfo,hi]
     have u:¬i.size=0:=fun e=>by rw[e]at I;exact absurd I dc
     unfold ai;refine ey (w':=w) ?_ h;simp only[Instr.fieldAt,Sem.run_bind,run_underlying O,Result.andThen_ok,C,Instr.sureAddr,Sem.run_pure,fieldPlace,M,u,if_false,Be]
   ·cases j
  ·cases j
 ·cases j
def zaX (P:Program)(s:TypeId)(f:Nat):Option (Nat×Nat×Bool) :=
 match P.underlying s with
 | some (.struct fs) =>
  match fs[f]? with
  | some fd=>match P.info? fd.type,P.underlying fd.type with
   | some i,some d=>some (fd.offset,i.size,d.isRow)
   | _,_=>none
  | none=>none
 | _=>none
theorem zf7 {off:Nat}{v:Value}(j:zaX P t f=some (off,n,false))(O:cs[off]? = some v)(h:K v w):fld P t (.agg cs.toArray) f K w:=by
 unfold zaX at j;split at j
 ·rename_i fs M;split at j
  ·rename_i C u;split at j
   ·rename_i i d hi J;simp only[Option.some.injEq,Prod.mk.injEq]at j;obtain⟨rfl,rfl,U⟩:=j;have I:(isAgg C.type).run P w=.ok false w:=by
     unfold isAgg;rw[Sem.run_bind,run_underlying J w];cases d<;>simp_all [TypeDesc.isRow]
    unfold fld;refine ey (w':=w) ?_ h;simp only[Instr.field,Sem.run_bind,run_underlying M,Result.andThen_ok,u,asAgg,Sem.run_pure,part,I];simp[O]
   ·cases j
  ·cases j
 ·cases j
theorem ew {k:IntKind}{i:Int}(I:P.underlying t=some (.array n e))(C:∀w,(sizeOf e).run P w=.ok s w)(j:0≤i)(u:i<n)(h:K (pA b (o+i.toNat*s)) w):aL P t (pA b o) (.int k i) K w:=by
 unfold aL;refine ey (w':=w) ?_ h;simp only[Instr.indexAt,asIntOf,Instr.sureAddr,Sem.run_bind,Sem.run_pure,Result.andThen_ok,run_underlying I,C,j,u,and_self,if_true,Be]
theorem dQ {k:IntKind}{i:Int}(I:P.underlying t=some (.slice e))(C:∀w,(sizeOf e).run P w=.ok s w)(j:0≤i)(u:i<n)(h:K (pA b (o+i.toNat*s)) w):aL P t (.slice (some ⟨b,o,none⟩) n c) (.int k i) K w:=by
 unfold aL;refine ey (w':=w) ?_ h;simp only[Instr.indexAt,asIntOf,Instr.sureAddr,Sem.run_bind,Sem.run_pure,Result.andThen_ok,run_underlying I,C,j,u,and_self,if_true,Be]
theorem iR {k:IntKind}{i:Int}(I:P.underlying t=some (.slice e))(h:K (pA b (o+i.toNat*s)) w)(C:∀w,(sizeOf e).run P w=.ok s w:=by intro _;kernel_rfl)(j:0≤i:=by omega)(u:i<n:=by omega):aL P t (.slice (some ⟨b,o,none⟩) n c) (.int k i) K w:=dQ I C j u h
theorem zbf (C:P.underlying t=some (.slice e))(u:∀w,(sizeOf e).run P w=.ok s w){k:IntKind}(I:m≤c)(h:K (.slice av m c) w):slc P t (.slice av n c) none (some (.int k (m:Int))) none K w:=by
 have j:(Instr.sliceBounds true n c none (some (.int k (m:Int))) none).run P w=.ok (0,m,c) w:=by
  have:=run_sliceBound (P:=P) w k (m:Int) c .sliceAcap oo oo
  simp[Instr.sliceBounds]at this ⊢;rw[this];simp
 unfold slc;refine ey (w':=w) ?_ h;simp only[Instr.sliceAt,Instr.slice,Sem.run_bind,Sem.run_pure,Result.andThen_ok,run_underlying C,u,j];cases av<;>simp[Addr.add]
theorem zfe (J:P.underlying t=some (.slice e))(I:∀w,(sizeOf e).run P w=.ok s w){q:Nat}{k:IntKind}(M:m≤q)(O:q≤c)(h:K (.slice av m q) w):slc P t (.slice av n c) none (some (.int k (m:Int))) (some (.int J0 (q:Int))) K w:=by
 have C:(Instr.sliceBounds true n c none (some (.int k (m:Int))) (some (.int J0 (q:Int)))).run P w=.ok (0,m,q) w:=by
  have j:=run_sliceBound (P:=P) w J0 (q:Int) c .slice3Acap oo oo;have u:=run_sliceBound (P:=P) w k (m:Int) q .slice3B oo oo;simp[Instr.sliceBounds]at j u ⊢;rw[j];simp[u]
 unfold slc;refine ey (w':=w) ?_ h;simp only[Instr.sliceAt,Instr.slice,Sem.run_bind,Sem.run_pure,Result.andThen_ok,run_underlying J,I,C];cases av<;>simp[Addr.add]
theorem oG {ps:Array (Nat×Value)}(vs:List Value)(ht:P.underlying t=some (.slice e))(hi:(P.info? e).map (·.size)=some s)(hz:((P.info? e).bind (·.zero)).isSome=true)(hs:0<s)(hn:n=vs.length)(h0:vs.length≠0)(O:n*s≤16777216)(I:ps.toList=(vs.zipIdx 0).map fun x=>(x.2,x.1))(hv:∀v∈vs,v.cells.size=s)(h:∀w',blk w' w.heap.size e (vs.flatMap fun v=>v.cells.toList)→Below w.heap.size w w'→w'.heap.size=w.heap.size+1→K (.slice (some ⟨w.heap.size,0,none⟩) n n) w'):bg P t n ps K w:=by
 subst hn;obtain⟨u,C,J⟩:∃u,P.info? e=some u∧u.size=s:=by
  cases M:P.info? e with
  | none=>rw[M]at hi;cases hi
  | some u=>rw[M]at hi;exact⟨u,rfl,by simpa using hi⟩
 obtain⟨z,j⟩:=Option.isSome_iff_exists.1 hz;rw[C]at j;have j:u.zero=some z:=j;subst J;have U:=Go.Great.fill_whole hs vs ((Array.range (vs.length*u.size)).map (z.cells[· % z.cells.size]!)) hv sm;unfold bg
 refine ey (run_buildSlice (P:=P) w t e vs.length ps _ u z ht C j oo (by intro h;rcases Nat.mul_eq_zero.1 h with h|h<;>omega) (by rw[I];exact U)) (h _ ?_ (cM (World.grownBy_alloc _ _ none) oA (fun k Z=>by cases Z)) sm);unfold blk;rw[heap_alloc_new]
theorem dn {f:FuncId}{j args cap all:Array Value}(u:j++args++cap=all)(h:call P f all K w):aZ P (.func (.func f) j cap) args K w:=⟨f,j,cap,rfl,by rw[u];exact h⟩
theorem zbn {ty:TypeId}{cs:Array Bool}{base:Nat}{i:TypeInfo}{z:Value}(ht:P.underlying t=some (.slice e))(hi:P.info? e=some i)(hz:i.zero=some z)(J:i.size=s)(Z:i.bytes=b)(ag:z.cells.size=s)(aa:0<s)(U:w.ownsRow base e s (.slice av n c) n xs){q:Nat}(hy:blk w g E vs)(ad:ys.length=m*s)(af:(vs.drop q).take (m*s)=ys)(h1:∀u∈ys,u.oneCell'=true)(C:(n+m)*b≤140737488355328)(am:n+m≤9223372036854775807)(I:base≤w.heap.size)(h:∀M c' w',w'.ownsRow base e s (.slice M (n+m) c') (n+m) (xs++ys)→w.grownBy w' (Value.slice av n c).ownBlock→K (.slice M (n+m) c') w'):blt P .append #[t,t] ty cs #[.slice av n c,.slice (some ⟨g,q,none⟩) m c2] K w:=by
  have hn:∀j u,ys[j]? = some u→w.cell? ((⟨g,q,none⟩:Addr).add j)=some u:=by
    intro j u O;rw[Be,hy.cell];subst af;rw[List.getElem?_take]at O;split at O
    · rw[List.getElem?_drop]at O;exact O
    · cases O
  obtain⟨v',w',hr,h2,h3,_⟩:=run_append_own (P:=P) w base t ty e i z s b ht hi hz J Z ag aa _ n xs U ⟨g,q,none⟩ m c2 ys ad hn h1 (by simp only[maxLen];omega) C I;obtain⟨M,c',rfl⟩:∃M c',v'=.slice M (n+m) c':=by
    rcases h2.2 with⟨hv,hn⟩|⟨g,cap,al,hv,_⟩
    · exact⟨none,0,by rw[hv,hn]⟩
    · exact⟨_,cap,hv⟩
  exact rD (by rw[BigFrame.builtin_append];simp only[Sem.run_bind,hr,Result.andThen_ok,Sem.run_pure]) (h M c' w' h2 h3)

theorem YU {e ty : TypeId} {bs : Array Bool} {i : TypeInfo} {z : Value} {bytes : Nat} (ht : P.underlying t = some (.slice e)) (hi : P.info? e = some i) (hz : i.zero = some z)
    (hsize : i.size = 1) (hby : i.bytes = bytes) (hzs : z.cells.size = 1)
    {av : Option Addr} {n : Nat} {xs : List Value} (hx : RV w av n n xs) {a2 : Option Addr} {m c2 : Nat} {ys : List Value} (hy : RV w a2 m c2 ys) (hbytes : (n + m) * bytes ≤ 140737488355328) (h63 : n + m ≤ 9223372036854775807)
    (h : ∀ a' c' w', ((a' = av ∧ c' = n ∧ m = 0) ∨ ∃ zs, blk w' w.heap.size e (xs ++ ys ++ zs) ∧ (n + m) + zs.length = c' ∧ a' = some ⟨w.heap.size, 0, none⟩) → Below w.heap.size w w' → K (.slice a' (n + m) c') w') :
    blt P .append #[t, t] ty bs #[.slice av n n, .slice a2 m c2] K w := by
  by_cases hm : m = 0
  · subst hm
    refine rD (v := .slice av (n + 0) n) (w' := w) ?_ (h av n w (.inl ⟨rfl, rfl, rfl⟩) (Below.refl _ _))
    rw [BigFrame.builtin_append]
    have hys : ys = [] := List.eq_nil_of_length_eq_zero hy.len
    cases a2 with
    | none => cases av <;> simp [Builtin.append_, run_underlying ht, sizeOf, typeInfo, hi, Builtin.lenOf, Builtin.firstCells, storeCells]
    | some ad => cases av <;> simp [Builtin.append_, run_underlying ht, sizeOf, typeInfo, hi, Builtin.lenOf, Builtin.firstCells, storeCells, loadCells, loadCellsFrom]
  obtain ⟨b2, o2, rfl⟩ := hy.some_ (by omega)
  have hnews : ∀ j u, ys[j]? = some u → w.cell? ((⟨b2, o2, none⟩ : Addr).add j) = some u := by
    intro j u hj
    have := hy.cell j u hj
    rw [Be]; exact this
  have hnext : ∀ k c : Nat, k * bytes ≤ 140737488355328 → c < k → Builtin.nextslicecap k c * i.bytes ≤ 281474976710656 := by
    intro k c hk hc
    have h2 : Builtin.nextslicecap k c ≤ 2 * k := by
      have := nextslicecap_le (need := k) (old := c) (by omega)
      omega
    calc _ ≤ 2 * k * i.bytes := Nat.mul_le_mul_right _ h2
      _ ≤ _ := by rw [hby, Nat.mul_assoc]; omega
  have fin : ∀ (old : Nat), blk (w.drew.alloc (.cells (xs.toArray ++ ys.toArray ++ Builtin.zeroCells z.cells (grownCap w (n + m) old e - (n + m))) e)) w.heap.size e (xs ++ ys ++ (Builtin.zeroCells z.cells (grownCap w (n + m) old e - (n + m))).toList) := by
    intro old
    unfold blk
    have := heap_alloc_new w.drew (.cells (xs.toArray ++ ys.toArray ++ Builtin.zeroCells z.cells (grownCap w (n + m) old e - (n + m))) e)
    rw [show w.drew.heap.size = w.heap.size from rfl] at this
    rw [this]
    simp
  have hz2 : ∀ k, (Builtin.zeroCells z.cells k).toList.length = k := by intro k; rw [Array.length_toList, size_zeroCells, hzs]; omega
  have hbel : ∀ ob, Below w.heap.size w (w.drew.alloc ob) := fun ob => ⟨rfl, rfl, rfl, by simp, fun k hk => Below.heap_alloc w.drew _ _ hk⟩
  cases av with
  | none =>
    obtain ⟨rfl, -⟩ := hx.nil_ rfl
    have hxs : xs = [] := List.eq_nil_of_length_eq_zero hx.len
    subst hxs
    have hr := run_append_nil (P := P) w t ty e i z ht hi hz ⟨b2, o2, none⟩ m c2 ys (by rw [hsize, hy.len]; omega) hnews (by omega) (by omega) (by rw [hby]; rw [Nat.zero_add] at hbytes; omega)
    have hge := grownCap_ge w m 0 e
    have hf := fin 0
    simp only [Nat.zero_add, List.nil_append] at hf h ⊢
    have key := h (some ⟨w.heap.size, 0, none⟩) (grownCap w m 0 e) (w.drew.alloc (.cells (ys.toArray ++ Builtin.zeroCells z.cells (grownCap w m 0 e - m)) e))
      (.inr ⟨_, by simpa using hf, by rw [hz2]; omega, rfl⟩) (hbel _)
    exact rD (by rw [BigFrame.builtin_append]; simp only [Sem.run_bind, hr, Result.andThen_ok, Sem.run_pure]) key
  | some ad =>
    have hxc : ∀ j v, xs[j]? = some v → w.cell? (ad.add j) = some v := by
      intro j v hj
      have hlt := (List.getElem?_eq_some_iff.1 hj).1
      obtain ⟨b1, o1, hb1⟩ := hx.some_ (by have := hx.len; omega)
      cases hb1
      rw [Be]; exact hx.cell j v hj
    have hr := run_append_grow (P := P) w t ty e i z ht hi hz ad n n xs (by rw [hsize, hx.len]; omega) hxc ⟨b2, o2, none⟩ m c2 ys (by rw [hsize, hy.len]; omega) hnews (by omega) (by omega) (hnext _ _ hbytes (by omega))
    have hge := grownCap_ge w (n + m) n e
    have key := h (some ⟨w.heap.size, 0, none⟩) (grownCap w (n + m) n e) _ (.inr ⟨_, fin n, by rw [hz2]; omega, rfl⟩) (hbel _)
    exact rD (by rw [BigFrame.builtin_append]; simp only [Sem.run_bind, hr, Result.andThen_ok, Sem.run_pure]) key

/-! ## In a region that draws -/
theorem ab {S:World→Prop}{s:KV→World→Prop}{k:Value→Prop}{v:Value}(h:∀w,S w→∀K:KV,K v w→s K w)(j:k v):hld S s k:=⟨v,fun w u=>h w u _ ⟨rfl,rfl⟩,j⟩
theorem au {b:(World→Prop)→World→Prop}(S:World→Prop)(j:S w)(h:b S w):aE b w:=⟨S,j,h⟩
theorem fy {v:Value}{S:World→Prop}{s:KV→World→Prop}{k:Value→Prop}{x:Value}(C:asB v=some cx)(h:∀w,S w→∀K:KV,K x w→s K w)(u:k x):hG v cx S s k :=
 ⟨x,fun _ w I=>h w I _ ⟨rfl,rfl⟩,fun j=>absurd C j,u⟩
theorem Hv {v:Value}{s:KV→World→Prop}(u:asB v=some cx)(h:s K w):xG v cx s K w:=⟨fun _=>h,fun j=>absurd u j⟩
theorem Mf {p:Prop}[Decidable p](h:p):asB (.bool (decide p))=some true:=by show some (decide p)=some true;rw[decide_eq_true h]
theorem zei {p:Prop}[Decidable p](h : ¬p):asB (.bool (decide p))=some false:=by show some (decide p)=some false;rw[decide_eq_false h]
theorem zb5 {ats : Array TypeId} {ty : TypeId} {cs : Array Bool} {k k' : IntKind} {x y : Int} (h : K (.int k (if x < y then y else x)) w) : blt P .max ats ty cs #[.int k x, .int k' y] K w :=
  rD (v := .int k (if x < y then y else x)) (w' := w) (by rw [BigFrame.builtin_max]; simp [Builtin.max_, Builtin.max2, Sem.run_pure]) h
theorem ZF (J:P.underlying t=some (.slice e))(I:∀w,(sizeOf e).run P w=.ok 1 w){k:IntKind}{v:Value}(j:RV w av n c vs)(C:0≤x)(u:vs[x.toNat]? = some v)(h:w.cell? (pu av x.toNat)=some v→K (.pointer (some (pu av x.toNat))) w):aL P t (.slice av n c) (.int k x) K w:=by
 have M:=(gS u).1;exact HQ J I C (by rw[←j.len];omega) j.some_ (h (j.cell _ _ u))
end
section
open Go.RowKit Go.ChangeMaps Go.MapKept
structure Ev (P:Program) (k:TypeId) {κ:Type} (kv:κ→Value):Prop where
 inj:∀x y,kv x=kv y→x=y
 chk:∀w em x,(Instr.checkKey em 10000 k (kv x)).run P w=.ok () w
 find:∀(w:World) x (es:List MapEntry),(∀e∈es,∃y,e.key=kv y) →
  ((Instr.findKey k (kv x) es).run P w=.ok none w∧∀e∈es,e.key≠kv x)∨∃j e,(Instr.findKey k (kv x) es).run P w=.ok (some (j,e.val)) w∧es[j]? = some e∧e.key=kv x
 stays:∀(w:World) x,(Instr.keyThatStays (kv x) (kv x)).run P w=.ok (kv x) w
section
variable {P:Program}{k:TypeId}
theorem TD {q:IntKind}(U:P.underlying k=some (.int q)):Ev P k (Value.int q) where
 inj x y h:=by simpa using h
 chk w em x:=by
  show (Instr.checkKey em (9999+1) k _).run P w=_;rw[Instr.checkKey];simp[run_underlying U]
 stays w x:=by
  have:Instr.sameBits 10000 (.int q x) (.int q x)=true:=by unfold Instr.sameBits;simp
  unfold Instr.keyThatStays;rw[if_pos this,Sem.run_pure]
 find w x es hes:=by
  have aa:∀(es:List MapEntry) (i:Nat),(∀e∈es,∃y,e.key=Value.int q y)→(Instr.findNow (.int q) (.int q x) es i=some none∧∀e∈es,e.key≠.int q x)∨∃j e,Instr.findNow (.int q) (.int q x) es i=some (some (i+j,e.val))∧es[j]? = some e∧e.key=.int q x:=by
   intro es
   induction es with
   | nil=>intro i _;exact .inl ⟨rfl,by simp⟩
   | cons e es ih =>
    intro i hes;obtain⟨y,M⟩:=hes e sm;by_cases J:x=y
    ·subst J;exact .inr ⟨0,e,by simp[Instr.findNow,Instr.sameNow,M],rfl,M⟩
    ·have Z:e.key≠.int q x:=by rw[M];simpa using fun h=>J h.symm
     have hb:(x==y)=false:=by simpa using J
     rcases ih (i+1) (fun e' u => hes e' (by simp[u]))with⟨C,I⟩|⟨j,e',C,I,O⟩
     ·refine .inl ⟨by simp[Instr.findNow,Instr.sameNow,M,hb,C],fun e' u=>?_⟩;rcases List.mem_cons.1 u with rfl|u
      ·exact Z
      ·exact I e' u
     ·exact .inr ⟨j+1,e',by simp[Instr.findNow,Instr.sameNow,M,hb,C];omega,by simpa using I,O⟩
  rcases aa es 0 hes with⟨C,I⟩|⟨j,e,C,I,O⟩
  ·exact .inl ⟨by simp[Instr.findKey,run_underlying U,C],I⟩
  ·exact .inr ⟨j,e,by simp[Instr.findKey,run_underlying U,C],I,O⟩
theorem ST {kv:κ→Value}(fs:Array Field)(hk:P.underlying k=some (.struct fs))(J:∀x,∃cs,kv x=.agg cs)(inj:∀x y,kv x=kv y→x=y)(chk:∀w em x,(Instr.checkKey em 10000 k (kv x)).run P w=.ok () w)(eq:∀(w:World) x y,∃b:Bool,(Op.equal k (kv x) (kv y)).run P w=.ok b w∧(b=true↔kv x=kv y))(U:∀x,Instr.sameBits 10000 (kv x) (kv x)=true):Ev P k kv where
 inj:=inj
 chk:=chk
 stays w x:=by unfold Instr.keyThatStays;rw[if_pos (U x),Sem.run_pure]
 find w x es hes:=by
  have af:∀(es:List MapEntry) (i:Nat),(∀e∈es,∃y,e.key=kv y)→((Instr.findAsking k (kv x) es i).run P w=.ok none w∧∀e∈es,e.key≠kv x)∨∃j e,(Instr.findAsking k (kv x) es i).run P w=.ok (some (i+j,e.val)) w∧es[j]? = some e∧e.key=kv x:=by
   intro es
   induction es with
   | nil=>intro i _;exact .inl ⟨by simp[Instr.findAsking],by simp⟩
   | cons e es ih =>
    intro i hes;obtain⟨y,O⟩:=hes e sm;obtain⟨b,hb,M⟩:=eq w x y;cases b with
    | true =>
     have:=M.1 rfl
     exact .inr ⟨0,e,by simp[Instr.findAsking,O,hb],rfl,by rw[O,this]⟩
    | false =>
     have ad:e.key≠kv x:=by rw[O];intro h;exact absurd (M.2 h.symm) sm
     rcases ih (i+1) (fun e' u => hes e' (by simp[u]))with⟨C,I⟩|⟨j,e',C,I,Z⟩
     ·refine .inl ⟨by simp[Instr.findAsking,O,hb,C],fun e' u=>?_⟩;rcases List.mem_cons.1 u with rfl|u
      ·exact ad
      ·exact I e' u
     ·exact .inr ⟨j+1,e',by simp[Instr.findAsking,O,hb,C];omega,by simpa using I,Z⟩
  have aa:(Instr.findKey k (kv x) es).run P w=(Instr.findAsking k (kv x) es).run P w:=by
   obtain⟨cs,ag⟩:=J x;cases es with
   | nil=>simp[Instr.findKey,run_underlying hk,Instr.findNow,Instr.findAsking]
   | cons e es=>simp[Instr.findKey,run_underlying hk,Instr.findNow,Instr.sameNow]
  rw[aa];rcases af es 0 hes with⟨C,I⟩|⟨j,e,C,I,Z⟩
  ·exact .inl ⟨C,I⟩
  ·exact .inr ⟨j,e,by simpa using C,I,Z⟩
end
/-! ## Plain maps -/
section
variable {κ ν:Type}[DecidableEq κ]
def dK :List (κ×ν)→κ→Option ν
 | [],_=>none
 | p::m,x=>if p.1=x then some p.2 else dK m x
def si :List (κ×ν)→κ→ν→List (κ×ν)
 | [],x,v=>[(x,v)]
 | p::m,x,v=>if p.1=x then (x,v)::m else p::si m x v
theorem wh {m:List (κ×ν)}{x:κ}:dK m x=none↔x∉m.map (·.1):=by
 induction m with
 | nil=>simp[dK]
 | cons p m ih =>
  by_cases h:p.1=x
  ·simp[dK,h]
  ·have : ¬x=p.1:=fun e=>h e.symm
   simp only[dK,h,if_false,ih,List.map_cons,List.mem_cons,this,false_or]
theorem yB {m:List (κ×ν)}{x:κ}{v:ν}(h:dK m x=some v):(x,v)∈m:=by
 induction m with
 | nil=>simp[dK]at h
 | cons p m ih =>
  by_cases j:p.1=x
  ·simp only[dK,j,if_true,Option.some.injEq]at h;subst h;subst j;simp
  ·simp only[dK,j,if_false]at h;exact List.mem_cons_of_mem _ (ih h)
theorem sh {m:List (κ×ν)}{x:κ}{v:ν}(j:(m.map (·.1)).Nodup)(h:(x,v)∈m):dK m x=some v:=by
 induction m with
 | nil=>simp at h
 | cons p m ih =>
  simp only[List.map_cons,List.nodup_cons]at j;rcases List.mem_cons.1 h with rfl|h
  ·simp[dK]
  ·have u : ¬p.1=x:=by
    rintro rfl;exact j.1 (List.mem_map.2 ⟨_,h,rfl⟩)
   simp only[dK,u,if_false];exact ih j.2 h
theorem XY {m:List (κ×ν)}{x:κ}{v:ν}:(si m x v).map (·.1)=if x∈m.map (·.1)then m.map (·.1)else m.map (·.1)++[x]:=by
 induction m with
 | nil=>simp[si]
 | cons p m ih =>
  by_cases h:p.1=x
  ·simp[si,h]
  ·have j : ¬x=p.1:=fun e=>h e.symm;simp only[si,h,if_false,List.map_cons,ih,List.mem_cons,j,false_or];split<;>simp
theorem zR {m:List (κ×ν)}{x:κ}{v:ν}(h:(m.map (·.1)).Nodup):((si m x v).map (·.1)).Nodup:=by
 rw[XY];split
 ·exact h
 ·rename_i C;rw[List.nodup_append];refine⟨h,by simp,fun a u b j=>?_⟩;simp at j;subst j;rintro rfl;exact C u
theorem Jt {m:List (κ×ν)}{x y:κ}{v:ν}:dK (si m x v) y=if y=x then some v else dK m y:=by
 induction m with
 | nil =>
  by_cases h:y=x
  ·subst h;simp[si,dK]
  ·have : ¬x=y:=fun e=>h e.symm
   simp[si,dK,h,this]
 | cons p m ih =>
  by_cases h:p.1=x
  ·by_cases u:y=x
   ·subst u;simp[si,dK,h]
   ·have C : ¬x=y:=fun e=>u e.symm;have I : ¬p.1=y:=by rw[h];exact C
    simp[si,dK,h,u,C]
  ·by_cases j:p.1=y
   ·have u : ¬y=x:=fun e=>h (j.trans e);simp[si,dK,h,j,u]
   ·simp[si,dK,h,j,ih]
theorem TW {m:List (κ×ν)}{x:κ}{v I:ν}(u:(m.map (·.1)).Nodup)(h:m[j]? = some (x,I)):si m x v=m.set j (x,v):=by
 induction m generalizing j with
 | nil=>simp at h
 | cons p m ih =>
  simp only[List.map_cons,List.nodup_cons]at u;cases j with
  | zero=>simp at h;subst h;simp[si]
  | succ j =>
   simp at h;have C : ¬p.1=x:=by
    rintro rfl;exact u.1 (List.mem_map.2 ⟨_,mO h,rfl⟩)
   simp[si,C,ih u.2 h]
end
/-! ## A map in memory -/
section
variable {κ ν:Type}
structure MBs (kv:κ→Value) (vv:ν→Value) (w:World) (b:Nat) (m:List (κ×ν)) (es:Array MapEntry) (clock:Nat):Prop where
 heap:w.heap[b]? = some (.map es clock)
 keys:es.toList.map (·.key)=m.map fun p=>kv p.1
 vals:es.toList.map (·.val)=m.map fun p=>vv p.2
 nodup:(m.map (·.1)).Nodup
 born:(es.toList.map (·.born)).Pairwise (· < ·)
 old:∀e∈es.toList,e.born<clock
def MB (kv:κ→Value)(vv:ν→Value)(w:World)(b:Nat)(m:List (κ×ν)):Prop:=∃es clock,MBs kv vv w b m es clock
variable {kv:κ→Value}{vv:ν→Value}{w w':World}{b:Nat}{m:List (κ×ν)}{es:Array MapEntry}{clock:Nat}
theorem MBs.len (h:MBs kv vv w b m es clock):es.size=m.length:=by
 have:=congrArg List.length h.keys
 simpa using this
theorem MBs.get (h:MBs kv vv w b m es clock){e:MapEntry}(I:es.toList[i]? = some e):∃p,m[i]? = some p∧e.key=kv p.1∧e.val=vv p.2:=by
 have j:=congrArg (fun l=>l[i]?) h.keys;have u:=congrArg (fun l=>l[i]?) h.vals;simp only[List.getElem?_map,I,Option.map_some]at j u;cases C:m[i]? with
 | none=>rw[C]at j;simp at j
 | some p =>
  rw[C]at j u;simp at j u;exact⟨p,rfl,j,u⟩
theorem MBs.keyed (h:MBs kv vv w b m es clock):∀e∈es.toList,∃y,e.key=kv y:=by
 intro e u;obtain⟨i,hi,rfl⟩:=List.getElem_of_mem u;obtain⟨p,_,j,_⟩:=h.get (gE hi);exact⟨p.1,j⟩
theorem MB.lt (h:MB kv vv w b m):b<w.heap.size:=by
 obtain⟨es,c,h⟩:=h;exact(Array.getElem?_eq_some_iff.1 h.heap).1
theorem MB.kept (h:MB kv vv w b m)(j:w'.heap[b]? = w.heap[b]?):MB kv vv w' b m:=by
 obtain⟨es,c,h⟩:=h;exact⟨es,c,j.trans h.heap,h.keys,h.vals,h.nodup,h.born,h.old⟩
theorem MB.below (h:MB kv vv w b m)(j:Below w.heap.size w w'):MB kv vv w' b m:=h.kept (j.block b h.lt)
theorem MB.oth (h:MB kv vv w b m)(u:Oth g w w')(j:b≠g):MB kv vv w' b m:=h.kept (u.other b j)
variable {P:Program}{K:KV}{t k e:TypeId}
theorem ub {r:Option Value}(C:P.underlying t=some (.map k e))(u:r=none)(kv:κ→Value)(vv:ν→Value)(h:∀w',MB kv vv w' w.heap.size ([]:List (κ×ν))→Below w.heap.size w w'→w'.heap.size=w.heap.size+1→K (.map (some w.heap.size)) w'):cr P t r K w:=by
 subst u;unfold cr;refine ey (w':=w.alloc (.map #[] 0)) (v:=.map (some w.heap.size)) (by simp[Instr.makeMap]) (h _ ⟨#[],0,heap_alloc_new w _,rfl,rfl,by simp,by simp,by simp⟩ (cM (World.grownBy_alloc _ _ none) oA (fun k j=>by cases j)) sm)
theorem ZU {ty : TypeId} {cs : Array Bool} (ht : P.underlying t = some (.map k e)) (hm : MB kv vv w b m) (h : K (.int .i64 (m.length : Int)) w) : blt P .len #[t] ty cs #[.map (some b)] K w := by
  obtain ⟨es, c, hm⟩ := hm
  have hl := hm.len
  refine rD (v := .int .i64 (m.length : Int)) (w' := w) ?_ h
  rw [BigFrame.builtin_len]
  simp [Builtin.len_, run_underlying ht, MapKept.run_getObj_map hm.heap, Result.andThen, hl, goInt]
theorem Mu {o:Obj}(h:w.heap[b]? = some (.map es clock)):Oth b w (setBlock w b o) :=
 ⟨rfl,rfl,rfl,by simp[setBlock],fun i hi=>heap_setBlock_other h o hi⟩
end
section
variable {κ ν:Type}[DecidableEq κ]{kv:κ→Value}{vv:ν→Value}{w w':World}{b:Nat}{m:List (κ×ν)}{es:Array MapEntry}{clock:Nat}
variable {P:Program}{K:KV}{t k e:TypeId}
theorem MBs.find {k:TypeId}(h:MBs kv vv w b m es clock)(K:Ev P k kv)(x:κ):(dK m x=none∧(Instr.findKey k (kv x) es.toList).run P w=.ok none w∧∀e∈es.toList,e.key≠kv x) ∨
  ∃j e v,dK m x=some v∧(Instr.findKey k (kv x) es.toList).run P w=.ok (some (j,vv v)) w∧es.toList[j]? = some e∧e.key=kv x∧e.val=vv v∧m[j]? = some (x,v):=by
 rcases K.find w x es.toList h.keyed with⟨I,u⟩|⟨j,e,I,u,O⟩
 ·refine .inl ⟨wh.2 fun J=>?_,I,u⟩;obtain⟨p,C,rfl⟩:=List.mem_map.1 J
  have:kv p.1∈es.toList.map (·.key):=by rw[h.keys];exact List.mem_map.2 ⟨p,C,rfl⟩
  obtain⟨e,U,Z⟩:=List.mem_map.1 this;exact u e U Z
 ·obtain⟨p,C,e1,M⟩:=h.get u;have J:p.1=x:=K.inj _ _ (e1.symm.trans O);obtain⟨px,pv⟩:=p;cases J;exact .inr ⟨j,e,pv,sh h.nodup (mO C),by rw[←M];exact I,u,O,M,C⟩
theorem TO {z0:ν}(KK:Ev P k kv)(J:P.underlying t=some (.map k e))(M:∀w,(zeroValue e).run P w=.ok (vv z0) w)(u:MB kv vv w b m){x:κ}(h:K (vv ((dK m x).getD z0)) w):lkp P t (.map (some b)) (kv x) false K w:=by
 obtain⟨es,c,u⟩:=u;unfold lkp;rcases u.find KK x with⟨C,I,_⟩|⟨j,O,v,C,I,_⟩
 ·rw[C]at h;exact ey (w':=w) (v:=vv z0) (by simp[Instr.lookup,run_underlying J,MapKept.run_getObj_map u.heap,KK.chk,I,M,Result.andThen]) h
 ·rw[C]at h;exact ey (w':=w) (v:=vv v) (by simp[Instr.lookup,run_underlying J,MapKept.run_getObj_map u.heap,KK.chk,I,Result.andThen]) h
theorem TP {z0:ν}(KK:Ev P k kv)(J:P.underlying t=some (.map k e))(M:∀w,(zeroValue e).run P w=.ok (vv z0) w)(u:MB kv vv w b m){x:κ}(h:K (.tuple #[vv ((dK m x).getD z0),.bool (dK m x).isSome]) w):lkp P t (.map (some b)) (kv x) true K w:=by
 obtain⟨es,c,u⟩:=u;unfold lkp;rcases u.find KK x with⟨C,I,_⟩|⟨j,O,v,C,I,_⟩
 ·rw[C]at h;exact ey (w':=w) (by simp[Instr.lookup,run_underlying J,MapKept.run_getObj_map u.heap,KK.chk,I,M,Result.andThen]) h
 ·rw[C]at h;exact ey (w':=w) (by simp[Instr.lookup,run_underlying J,MapKept.run_getObj_map u.heap,KK.chk,I,Result.andThen]) h
theorem uI (KK:Ev P k kv)(ht:P.underlying t=some (.map k e))(C:MB kv vv w b m){x:κ}{v:ν}(h:∀w',MB kv vv w' b (si m x v)→Oth b w w'→K undef w'):cP P t (.map (some b)) (kv x) (vv v) K w:=by
 obtain⟨es,c,C⟩:=C;unfold cP;rcases C.find KK x with⟨h0,M,Z⟩|⟨j,e0,v0,h0,M,Z,h3,h4,h5⟩
 ·refine Q9 (u:=()) (w':=setBlock w b (.map (es.push ⟨kv x,vv v,c⟩) (c+1))) (by simp[Instr.mapUpdate,run_underlying ht,MapKept.run_getObj_map C.heap,KK.chk,M,MapKept.run_setObj_map _ C.heap,Result.andThen,setBlock]) (h _ ?_ (Mu C.heap));have hx:=wh.1 h0;have U:si m x v=m++[(x,v)]:=by
   clear h M Z h0 C
   induction m with
   | nil=>rfl
   | cons p m ih =>
    simp only[List.map_cons,List.mem_cons,not_or]at hx;have hp : ¬p.1=x:=fun e=>hx.1 e.symm;simp[si,hp,ih hx.2]
  rw[U];refine⟨_,_,heap_setBlock_same C.heap _,by simp[C.keys],by simp[C.vals],?_,?_,?_⟩
  ·rw[←U];exact zR C.nodup
  ·rw[Array.toList_push,List.map_append,List.pairwise_append];refine⟨C.born,by simp,fun a ha c' aa=>?_⟩;obtain⟨e1,I,rfl⟩:=List.mem_map.1 ha;simp at aa;subst aa;exact C.old e1 I
  ·intro e1 I;simp only[Array.toList_push,List.mem_append,List.mem_singleton]at I;rcases I with I|rfl
   ·exact Nat.lt_succ_of_lt (C.old e1 I)
   ·exact Nat.lt_succ_self c
 ·have hj:es[j]? = some e0:=by rw[←Array.getElem?_toList];exact Z
  have ag:=KK.stays w x;refine Q9 (u:=()) (w':=setBlock w b (.map (es.modify j fun e=>{e with key:=kv x,val:=vv v}) c)) (by simp[Instr.mapUpdate,run_underlying ht,MapKept.run_getObj_map C.heap,KK.chk,M,hj,h3,ag,MapKept.run_setObj_map _ C.heap,Result.andThen,setBlock]) (h _ ?_ (Mu C.heap));rw[TW C.nodup h5]
  have O:((es.modify j fun e=>{e with key:=kv x,val:=vv v}).toList.map (·.born))=es.toList.map (·.born):=by
   rw[Array.toList_modify];apply List.ext_getElem?;intro i;simp only[List.getElem?_map,List.getElem?_modify];cases hi:es.toList[i]? with
   | none=>simp
   | some e1=>by_cases J:j=i<;>simp[J]
  refine⟨_,c,heap_setBlock_same C.heap _,?_,?_,?_,by rw[O];exact C.born,?_⟩
  ·rw[Array.toList_modify];apply List.ext_getElem?;intro i;have M:=congrArg (fun l=>l[i]?) C.keys;simp only[List.getElem?_map,List.getElem?_modify,List.getElem?_set]at M ⊢;by_cases J:j=i
   ·subst J;rw[Z]at M ⊢
    have:=(gS h5).1
    simp[this]
   ·simpa[J]using M
  ·rw[Array.toList_modify];apply List.ext_getElem?;intro i;have M:=congrArg (fun l=>l[i]?) C.vals;simp only[List.getElem?_map,List.getElem?_modify,List.getElem?_set]at M ⊢;by_cases J:j=i
   ·subst J;rw[Z]at M ⊢
    have:=(gS h5).1
    simp[this]
   ·simpa[J]using M
  ·rw[←TW C.nodup h5];exact zR C.nodup
  ·intro e1 I
   have:e1.born∈es.toList.map (·.born):=by rw[←O];exact List.mem_map.2 ⟨e1,I,rfl⟩
   obtain⟨e2,af,ad⟩:=List.mem_map.1 this;rw[←ad];exact C.old e2 af
end
theorem Cr {κ:Type}[DecidableEq κ]:∀{l l':List κ},l.Nodup→(∀x∈l,x∈l')→l.length≤l'.length
 | [],_,_,_=>by simp
 | x::l,l',hn,hs=>by
  have j:x∈l':=hs x sm;simp only[List.nodup_cons]at hn
  have:=Cr (l:=l) (l':=l'.erase x) hn.2 fun y u=>by
   have h:y≠x:=by rintro rfl;exact hn.1 u
   exact(List.mem_erase_of_ne h).2 (hs y (by simp[u]))
  rw[List.length_erase_of_mem j]at this;have C:=List.length_pos_of_mem j;simp only[List.length_cons];omega
section
variable {κ ν:Type}
variable {kv:κ→Value}{vv:ν→Value}{w w':World}{b r:Nat}{m:List (κ×ν)}{x:κ}{s:Nat}
def IT (kv:κ→Value)(vv:ν→Value)(w:World)(r b:Nat)(m:List (κ×ν))(done:List κ):Prop :=
 ∃es clock since seen c0,MBs kv vv w b m es clock∧w.heap[r]? = some (.mapIter (some b) since seen c0)∧(∀e∈es.toList,e.born<since)∧since≤c0∧since≤clock ∧
  (∀(i:Nat) (e:MapEntry) (p:κ×ν),es.toList[i]? = some e→m[i]? = some p→(seen.contains e.born=true↔p.1∈done))∧done.Nodup∧∀x∈done,x∈m.map (·.1)
variable {done:List κ}
theorem IT.kept (h:IT kv vv w r b m done)(J:w'.heap[b]? = w.heap[b]?)(M:w'.heap[r]? = w.heap[r]?):IT kv vv w' r b m done:=by
 obtain⟨es,c,j,C,c0,u,I,rest⟩:=h;exact⟨es,c,j,C,c0,⟨J.trans u.heap,u.keys,u.vals,u.nodup,u.born,u.old⟩,M.trans I,rest⟩
theorem IT.lt (h:IT kv vv w r b m done):r<w.heap.size∧b<w.heap.size:=by
 obtain⟨es,c,j,u,c0,C,I,_⟩:=h;exact⟨(Array.getElem?_eq_some_iff.1 I).1,(Array.getElem?_eq_some_iff.1 C.heap).1⟩
theorem IT.below (h:IT kv vv w r b m done)(j:Below w.heap.size w w'):IT kv vv w' r b m done:=h.kept (j.block b h.lt.2) (j.block r h.lt.1)
theorem IT.nodup (h:IT kv vv w r b m done):done.Nodup∧(m.map (·.1)).Nodup∧∀x∈done,x∈m.map (·.1):=by
 obtain⟨es,c,j,u,c0,C,_,_,_,_,_,I,J⟩:=h;exact⟨I,C.nodup,J⟩
def EN (kv:κ→Value)(vv:ν→Value)(w:World)(r b:Nat)(x:κ)(v:ν):Prop :=
 ∃(es:Array MapEntry) (clock since:Nat) (seen:Array Nat) (e:MapEntry),w.heap[b]? = some (.map es clock)∧w.heap[r]? = some (.mapIter (some b) since (seen.push e.born) clock)∧e∈es.toList∧(es.toList.map (·.born)).Nodup∧e.key=kv x∧e.val=vv v
variable {P:Program}{K:KV}{t k e:TypeId}
theorem Pr {x:κ}{v:ν}(h:EN kv vv w r b x v)(C:K (.tuple #[kv x,vv v]) w):ent P (pA r 0) K w:=by
 obtain⟨es,c,j,u,e,J,U,M,O,I,ev⟩:=h;unfold ent;rw[←I, ←ev]at C;exact ey (run_entry_at (P:=P) w r b j u es c e U J M O) C
theorem LW (J:P.underlying t=some (.map k e))(j:MB kv vv w b m)(h:∀w',IT kv vv w' w.heap.size b m []→Below w.heap.size w w'→w'.heap.size=w.heap.size+1→K (pA w.heap.size 0) w'):rng P t (.map (some b)) K w:=by
 have u:=j.lt;obtain⟨es,c,j⟩:=j;unfold rng;have C:Below w.heap.size w (w.alloc (.mapIter (some b) c #[] c)):=cM (World.grownBy_alloc _ _ none) oA (fun k I=>by cases I)
 refine ey (run_range_map w t k e b es c J j.heap) (h _ ⟨es,c,c,#[],c,⟨?_,j.keys,j.vals,j.nodup,j.born,j.old⟩,heap_alloc_new w _,j.old,Nat.le_refl _,Nat.le_refl _,fun i e p M O=>by simp,by simp,by simp⟩ C sm);rw[C.block b u];exact j.heap
def lG (w:World)(b r:Nat):Nat :=
 match w.heap[b]?,w.heap[r]? with
 | some (.map es _),some (.mapIter _ _ seen _)=>(leftOf es seen).size
 | _,_=>0
theorem wI {r:Nat}(h:w'.heap[b]? = w.heap[b]?)(j:w'.heap[r]? = w.heap[r]?):lG w' b r=lG w b r:=by unfold lG;rw[h,j]
theorem Nv (hi:IT kv vv w r b m done)(h:Below w.heap.size w w'):lG w' b r=lG w b r:=wI (h.block b hi.lt.2) (h.block r hi.lt.1)
theorem PE {α:Type}{p q:α→Bool}:∀{l:List α} {e:α},e∈l→p e=true→q e=false→(∀x,q x=true→p x=true)→(l.filter q).length<(l.filter p).length
 | a::l,e,C,hp,hq,hs=>by
  have le:∀l:List α,(l.filter q).length≤(l.filter p).length:=by
   intro l
   induction l with
   | nil=>simp
   | cons x l u =>
    by_cases h:q x=true
    ·rw[List.filter_cons_of_pos h,List.filter_cons_of_pos (hs x h)];simpa using u
    ·rw[List.filter_cons_of_neg h];by_cases j:p x=true
     ·rw[List.filter_cons_of_pos j];simp only[List.length_cons];omega
     ·rw[List.filter_cons_of_neg j];exact u
  rcases List.mem_cons.1 C with rfl|C
  ·rw[List.filter_cons_of_neg (by simp[hq]),List.filter_cons_of_pos hp]
   have:=le l
   simp only[List.length_cons];omega
  ·have u:=PE C hp hq hs;by_cases h:q a=true
   ·rw[List.filter_cons_of_pos h,List.filter_cons_of_pos (hs a h)];simpa using u
   ·rw[List.filter_cons_of_neg h];by_cases j:p a=true
    ·rw[List.filter_cons_of_pos j];simp only[List.length_cons];omega
    ·rw[List.filter_cons_of_neg j];exact u
theorem LH (hi:IT kv vv w r b m done)(am:r≠b)(h0:(∀x∈m.map (·.1),x∈done)→K (.tuple #[.bool false]) w)(h1:∀(x:κ) (v:ν) (w':World),(x,v)∈m→x∉done→IT kv vv w' r b m (done++[x])→EN kv vv w' r b x v→Oth r w w'→lG w' b r<lG w b r→K (.tuple #[.bool true,kv x,vv v]) w'):nxt P (pA r 0) false E K w:=by
 obtain⟨es,c,u,C,c0,J,hr,ag,a5,av,aa,a3,az⟩:=hi;unfold nxt;rcases run_next_at (P:=P) w E r b u c0 C es c hr J.heap ag a5 with⟨hz,M⟩|⟨e1,af,w1,ad,M⟩
 ·refine ey M (h0 fun x hx=>?_);obtain⟨p,hp,rfl⟩:=List.mem_map.1 hx;obtain⟨i,hi,rfl⟩:=List.getElem_of_mem hp;have a6:=J.len;have a0:i<es.toList.length:=by simp;omega
  refine(aa i es.toList[i] m[i] (gE a0) (gE hi)).1 ?_;have O:leftOf es C=#[]:=Array.eq_empty_of_size_eq_zero hz;unfold leftOf at O;rw[Array.filter_eq_empty_iff]at O
  have:=O es.toList[i] sm
  simpa using this
 ·have I:e1∈es.toList∧C.contains e1.born=false:=by
   unfold leftOf at af;simp at af;exact⟨by simpa using af.1,by simpa using af.2⟩
  obtain⟨i,hi,rfl⟩:=List.getElem_of_mem I.1;obtain⟨p,hp,ek,ev⟩:=J.get (gE hi);obtain⟨x,v⟩:=p;have aS:x∉done:=fun hx=>by
   have:=(aa i _ _ (gE hi) hp).2 hx
   rw[this]at I;exact absurd I.2 sm
  have an:w1.heap[r]? = some (.mapIter (some b) u C c0):=by rcases ad with rfl|rfl<;>exact hr
  have ho:Oth r w1 (setBlock w1 r (.mapIter (some b) u (C.push es.toList[i].born) c)):=by
   refine⟨rfl,rfl,rfl,by simp[setBlock],fun j hj=>?_⟩;simp only[setBlock];rw[Array.getElem?_setIfInBounds_ne (fun h=>hj h.symm)]
  rw[ek,ev]at M;refine ey M (h1 x v _ (mO hp) aS ⟨es,c,u,C.push es.toList[i].born,c,⟨?_,J.keys,J.vals,J.nodup,J.born,J.old⟩,?_,ag,av,av,?_,?_,?_⟩ ⟨es,c,u,C,es.toList[i],?_,?_,List.getElem_mem hi,J.born.imp (fun h=>Nat.ne_of_lt h),ek,ev⟩ ?_ ?_)
  ·rw[ho.other b (fun h=>am h.symm)];rcases ad with rfl|rfl<;>exact J.heap
  ·simp only[setBlock];rw[Array.getElem?_setIfInBounds_self_of_lt (Array.getElem?_eq_some_iff.1 an).1]
  ·intro j e2 p2 ap ar;have hj:=(gS ap)
   have Z:=(gS ar)
   have U:=(gS hp)
   have hb:=List.pairwise_iff_getElem.1 J.born;have hk:=List.pairwise_iff_getElem.1 J.nodup;have al:(e2.born=es.toList[i].born↔j=i)∧(p2.1=x↔j=i):=by
    rcases Nat.lt_trichotomy j i with h|h|h
    ·have a1:=hb j i (by simpa using hj.1) (by simpa using hi) h;have a2:=hk j i (by simpa using Z.1) (by simpa using U.1) h;simp only[List.getElem_map,hj.2,Z.2,U.2]at a1 a2;exact⟨⟨fun e=>by omega,fun e=>by omega⟩,⟨fun e=>absurd e a2,fun e=>by omega⟩⟩
    ·subst h;rw[←hj.2]
     have:p2=(x,v):=by rw[←Z.2, ←U.2]
     rw[this];simp
    ·have a1:=hb i j (by simpa using hi) (by simpa using hj.1) h;have a2:=hk i j (by simpa using U.1) (by simpa using Z.1) h;simp only[List.getElem_map,hj.2,Z.2,U.2]at a1 a2;exact⟨⟨fun e=>by omega,fun e=>by omega⟩,⟨fun e=>absurd e.symm a2,fun e=>by omega⟩⟩
   have a4:=aa j e2 p2 ap ar;rw[List.mem_append,List.mem_singleton,al.2, ←al.1, ←a4];simp only[Array.contains_iff_mem,Array.mem_push]
  ·rw[List.nodup_append];refine⟨a3,by simp,fun a ha b hb=>?_⟩;simp at hb;subst hb;rintro rfl;exact aS ha
  ·intro y hy;rcases List.mem_append.1 hy with h|h
   ·exact az y h
   ·simp at h;subst h;exact List.mem_map.2 ⟨_,mO hp,rfl⟩
  ·rw[ho.other b (fun h=>am h.symm)];rcases ad with rfl|rfl<;>exact J.heap
  ·simp only[setBlock];rw[Array.getElem?_setIfInBounds_self_of_lt (Array.getElem?_eq_some_iff.1 an).1]
  ·rcases ad with rfl|rfl
   ·exact ho
   ·exact⟨ho.os,ho.tape,ho.output,ho.size,ho.other⟩
  ·have e1:(setBlock w1 r (.mapIter (some b) u (C.push es.toList[i].born) c)).heap[b]? = some (.map es c):=by
    rw[ho.other b (fun h=>am h.symm)];rcases ad with rfl|rfl<;>exact J.heap
   have e2:(setBlock w1 r (.mapIter (some b) u (C.push es.toList[i].born) c)).heap[r]? = some (.mapIter (some b) u (C.push es.toList[i].born) c):=by
    simp only[setBlock];rw[Array.getElem?_setIfInBounds_self_of_lt (Array.getElem?_eq_some_iff.1 an).1]
   unfold lG;rw[e1,e2,J.heap,hr];simp only[leftOf];have hs:∀p:MapEntry→Bool,(es.filter p).size=(es.toList.filter p).length:=fun p=>by rw[←Array.toList_filter,Array.length_toList]
   rw[hs,hs];refine PE I.1 (by simpa using I.2) sm (fun x hx=>?_);simp only[Array.contains_push,Bool.not_or,Bool.and_eq_true]at hx;exact hx.1
end
section
variable {κ ν:Type}[DecidableEq κ]{kv:κ→Value}{vv:ν→Value}{w w':World}{b:Nat}{m:List (κ×ν)}{P:Program}{K:KV}{t k e:TypeId}
theorem yC {m:List (κ×ν)}{x:κ}(h:dK m x=none)(v:ν):si m x v=m++[(x,v)]:=by
 induction m with
 | nil=>rfl
 | cons p m ih =>
  by_cases j:p.1=x
  ·simp[dK,j]at h
  ·simp only[dK,j,if_false]at h;simp[si,j,ih h]
end
end
section
abbrev MXA :Int:=1125899906842624
def okA (x:Int):Bool:=decide (0≤x)&&decide (x≤MXA)
def nl (l:List Int):Int×Bool:=match l.all okA with|true=>(l.sum,true)|false=>(0,false)
def nA (A:List Int)(i:Nat):Int:=A.getD i 0
def ue (A:List Int)(k j:Nat):List Int:=nA A (6+k)::(List.range j).map fun j=>nA A (18+6*k+j)
def inL (A:List Int)(k j:Nat):List Int:=nA A k::nA A (12+k)::(List.range j).map fun j=>nA A (18+6*j+k)
def qX (A:List Int)(k:Nat):Int×Bool:=((nl (inL A k 6)).1-(nl (ue A k 6)).1,(nl (ue A k 6)).2&&(nl (inL A k 6)).2)
theorem om :okA x=true↔0≤x∧x≤MXA:=by simp[okA]
theorem JG :∀{l:List Int},l.all okA=true→0≤l.sum∧l.sum≤MXA*l.length
 | [],_=>by simp
 | x::l,h=>by
  rw[List.all_cons,Bool.and_eq_true]at h;have j:=om.1 h.1;have u:=JG h.2;simp only[List.sum_cons,List.length_cons];simp only[MXA]at *;omega
def gL (A:List Int):List Int:=(List.range 6).map fun k=>nA A k
def Df (A:List Int):Bool :=
 (List.range 6).all (fun k=>(qX A k).2&&decide (0≤(qX A k).1)&&decide (nA A (12+k)≤nA A (6+k))&&decide (nA A (18+6*k+k)=0))&&((nl (gL A)).2&&decide ((nl (gL A)).1≤MXA))
def gQ (A:List Int)(k:Nat):Int:=nA A k-nA A (6+k)+nA A (12+k)+((List.range 6).map fun j=>nA A (18+6*j+k)-nA A (18+6*k+j)).sum
def yE (A:List Int)(i:Nat):Bool:=okA (nA A i)&&okA (nA A (6+i))&&okA (nA A (12+i))&&decide (nA A (12+i)≤nA A (6+i))&&decide (nA A (18+6*i+i)=0)&&(List.range 6).all fun j=>okA (nA A (18+6*i+j))
def jn (A:List Int):Bool:=(List.range 6).all (yE A)&&(List.range 6).all (fun k=>decide (0≤gQ A k))&&decide ((gL A).sum≤MXA)
def bG (i:Int):Bool:=decide (1≤i)&&decide (i≤6)
structure ND where
 id:Int
 par:Int
 A:List Int
 deriving DecidableEq
def sq (A:List Int)(i x:Int):Int:=if jn A=false∨x<1∨MXA<x then 1 else if bG i=false then 10 else 0
def z54 :List Int:=List.replicate 54 0
def vk (A:List Int)(q:Nat)(x:Int):List Int×Int:=if MXA<nA A q+x then (z54,6)else (A.set q (nA A q+x),0)
def mf (A:List Int)(i x:Int):List Int×Int:=if sq A i x≠0 then (z54,sq A i x)else if gQ A (i-1).toNat<x then (z54,11)else vk A (6+(i-1).toNat) x
def mc (A:List Int)(i x:Int):List Int×Int:=if sq A i x≠0 then (z54,sq A i x)else if nA A (6+(i-1).toNat)-nA A (12+(i-1).toNat)<x then (z54,12)else (A.set (12+(i-1).toNat) (nA A (12+(i-1).toNat)+x),0)
def mX (A:List Int)(i j x:Int):List Int×Int :=
 if sq A i x≠0 then (z54,sq A i x)else if bG j=false then (z54,10)else if i=j then (z54,1)else if gQ A (i-1).toNat<x then (z54,11)else vk A (18+6*(i-1).toNat+(j-1).toNat) x
structure EV where
 o:Int
 s:Int
 d0:Int
 d1:Int
 d2:Int
 d3:Int
 d4:Int
 d5:Int
 k:Int
 n:Int
 t:Int
 a:Int
 r:Int
 f:Int
 deriving DecidableEq
def EV.V (e:EV):List Int:=[e.d0,e.d1,e.d2,e.d3,e.d4,e.d5]
def ni (e:EV):EV:={e with
 n:=if e.k=1∨e.k=2∨e.k=3∨e.k=5 then e.n else 0
 t:=if e.k=5∨e.k=6 then e.t else 0
 a:=if e.k=1∨e.k=2∨e.k=3∨e.k=5 then e.a else 0
 r:=if e.k=3∨e.k=4 then e.r else 0
 f:=if e.k=4 then e.f else 0}
def smE (e:EV):Bool:=decide (1≤e.a)&&decide (e.a≤1125899906842624)
def otE (e:EV):Bool:=bG e.t&&decide (e.t≠e.o)
def fdE (e:EV):Bool :=
 if e.k=1 then decide (0≤e.a)&&decide (e.a≤1125899906842624)
 else if e.k=2 then smE e
 else if e.k=3 then smE e&&decide (1≤e.r)
 else if e.k=4 then decide (1≤e.r)&&(decide (1≤e.f)&&decide (e.r≠e.f))
 else if e.k=5 then smE e&&otE e
 else if e.k=6 then otE e
 else decide (e.k=7)
def bJ (e:EV):Bool:=bG e.o&&(decide (1≤e.s)&&(decide (e.s<1099511627776)&&(decide (e.V.getD (e.o-1).toNat 0=e.s-1)&&((List.range 6).all (fun k=>decide (e.V.getD k 0<1099511627776))&&(decide (e=ni e)&&fdE e)))))
def qQ (V:List Int)(e:EV):Bool:=bJ e&&decide (e.s≤V.getD (e.o-1).toNat 0)
def eX (V:List Int)(e:EV):Bool:=bJ e&&(decide (e.s=V.getD (e.o-1).toNat 0+1)&&(List.range 6).all (fun k=>decide (e.V.getD k 0≤V.getD k 0)))
theorem gW {e:EV}(h:bJ e=true):1≤e.o∧e.o≤6∧1≤e.s∧e.s<1099511627776:=by
 unfold bJ at h;simp only[Bool.and_eq_true,decide_eq_true_eq,bG]at h;exact⟨h.1.1,h.1.2,h.2.1,h.2.2.1⟩
structure GR where
 o:Int
 q:Int
 n:Int
 a:Int
 b:Int
 deriving DecidableEq
/-! ## A new one is put among others -/
def gu (L:List α)(i:Nat)(z:α):List α:=L.take i++z::L.drop i
theorem ns {L:List α}{z:α}:(gu L i z).length=L.length+1:=by
 unfold gu;rw[List.length_append,List.length_cons,List.length_take,List.length_drop];omega
theorem J7 {L:List α}{z x:α}(h:i≤L.length):(gu L i z).set i x=gu L i x:=by
 unfold gu;have j:(L.take i).length=i:=by rw[List.length_take];omega
 rw[List.set_append_right _ _ oo,j,Nat.sub_self,List.set_cons_zero]
theorem Tz {L:List α}{z:α}(j:0<i)(h:i≤L.length):(gu L i z)[i-1]? = L[i-1]? := by
 unfold gu;rw[List.getElem?_append_left (by rw[List.length_take];omega),List.getElem?_take_of_lt oo]
theorem PO {L:List α}{x:α}(I:0<i)(h:L[i-1]? = some x):gu L i x=gu L (i-1) x:=by
 obtain⟨C,rfl⟩:=gS h;unfold gu;obtain⟨j,rfl⟩:∃j,i=j+1:=⟨i-1,by omega⟩
 have u:j<L.length:=C;show List.take (j+1) L++L[j]::List.drop (j+1) L=List.take j L++L[j]::List.drop j L;rw[←List.take_append_getElem u,List.drop_eq_getElem_cons u,List.append_assoc];rfl
theorem Ty {L:List α}{z:α}:gu L L.length z=L++[z]:=by simp[gu]
theorem pD {L:List α}{z x:α}:x∈gu L i z↔x=z∨x∈L:=by
 unfold gu;rw[List.mem_append,List.mem_cons];constructor
 ·rintro(h|h|h)
  ·exact .inr (List.mem_of_mem_take h)
  ·exact .inl h
  ·exact .inr (List.mem_of_mem_drop h)
 ·rintro(h|h)
  ·exact .inr (.inl h)
  ·have:x∈L.take i++L.drop i:=by rw[List.take_append_drop];exact h
   rcases List.mem_append.1 this with h|h
   ·exact .inl h
   ·exact .inr (.inr h)
/-! ## A tree: nodes (what it is, what it is below) -/
structure TK (L:List (Int×Int)) (rk:Int→Nat):Prop where
 low:∀x∈L,rk x.1<L.length
 nz:∀x∈L,x.1≠0
 up:∀x∈L,x.2=0∨∃y∈L,y.1=x.2∧rk y.1<rk x.1
def bS (L:List (Int×Int))(id:Int):Bool:=L.any fun x=>x.1==id
theorem ja {id:Int}:bS L id=true↔∃x∈L,x.1=id:=by simp[bS]
def upT (L:List (Int×Int))(rk:Int→Nat)(id:Int):Nat:=match bS L id with|true=>rk id+1|false=>0
theorem TK.nil :TK [] fun _=>0:=⟨by simp,by simp,by simp⟩
theorem G7 {rk:Int→Nat}(h:TK L rk)(id:Int):upT L rk id≤L.length:=by
 unfold upT;cases j:bS L id with
 | false=>exact Nat.zero_le _
 | true =>
  obtain⟨x,u,rfl⟩:=ja.1 j;exact h.low x u
theorem yK {rk:Int→Nat}(h:TK L rk){x:Int×Int}(j:x∈L):upT L rk x.2<upT L rk x.1:=by
 have C:bS L x.1=true:=ja.2 ⟨x,j,rfl⟩;unfold upT;rw[C];cases I:bS L x.2 with
 | false=>exact Nat.succ_pos _
 | true =>
  rcases h.up x j with e|⟨y,O,e,M⟩
  ·obtain⟨z,J,u⟩:=ja.1 I;exact absurd (u.trans e) (h.nz z J)
  ·show rk x.2+1<rk x.1+1;rw[←e];omega
theorem TK.add {rk:Int→Nat}(h:TK L rk){id par:Int}(O:id≠0)(Z:bS L id=false)(I:par=0∨bS L par=true)(i:Nat):TK (gu L i (id,par)) (fun k=>if k=id then L.length else rk k):=by
 have j:∀x∈L,x.1≠id:=fun x u e=>by
  have:=ja.2 ⟨x,u,e⟩
  rw[Z]at this;cases this
 refine⟨fun x u=>?_,fun x u=>?_,fun x u=>?_⟩
 ·rw[ns];rcases pD.1 u with e|e
  ·subst e;simp
  ·rw[if_neg (j x e)];have:=h.low x e;omega
 ·rcases pD.1 u with e|e
  ·subst e;exact O
  ·exact h.nz x e
 ·rcases pD.1 u with e|e
  ·subst e;rcases I with I|I
   ·exact .inl I
   ·obtain⟨y,C,M⟩:=ja.1 I;refine .inr ⟨y,pD.2 (.inr C),M,?_⟩;rw[if_neg (j y C)];simp only[if_true];exact h.low y C
  ·rcases h.up x e with J|⟨y,C,J,U⟩
   ·exact .inl J
   ·refine .inr ⟨y,pD.2 (.inr C),J,?_⟩;rw[if_neg (j y C),if_neg (j x e)];exact U
def posT (T:List (Int×Int))(id:Int):Nat:=T.findIdx fun x=>x.1==id
def fdT (T:List (Int×Int))(id:Int):Int:=if posT T id<T.length then (posT T id:Nat)else -1
def el (T:List (Int×Int))(id:Int):Int:=(T.getD (posT T id) (0,0)).2
def cv (T:List (Int×Int)):Nat→Int→List Int
 | 0,_=>[]
 | f+1,id=>if bS T id=true then id::cv T f (el T id)else []
def cC (T:List (Int×Int))(id:Int):List Int:=cv T (T.length+1) id
def yy {α:Type}(f:α→Bool)(L:List α):Nat→Nat
 | 0=>0
 | k+1=>match L[k]? with
  | some x=>if f x=true then yy f L k else k+1
  | none=>k+1
def jm (T:List (Int×Int))(id par:Int):List (Int×Int)×Int :=
 if id=0 then (T,1)else if bS T id=true then (T,14)else if par≠0∧bS T par=false then (T,9)else if 32≤T.length∨4≤(cC T par).length then (T,6)
 else (gu T (yy (fun x=>decide (id<x.1)) T T.length) (id,par),0)
def posN (L:List ND)(id:Int):Nat:=L.findIdx fun x=>x.id==id
def fdN (L:List ND)(id:Int):Int:=if posN L id<L.length then (posN L id:Nat)else -1
structure PL where
 I:List Bool
 L:List Bool
 V:List Int
 N:List ND
 G:List GR
 R:List (List Int)
 deriving DecidableEq
abbrev M40 :Int:=1099511627776
abbrev M47 :Int:=140737488355328
def EV.q (e:EV):Nat:=(e.o-1).toNat
def idE (e:EV):Int:=e.o*M40+e.s
def tr (N:List ND):List (Int×Int):=N.map fun x=>(x.id,x.par)
def dv (N:List ND)(id:Int):Bool:=N.any fun x=>x.id==id
def ef (N:List ND)(id:Int):List Int:=cC (tr N) id
def iy (N:List ND)(o:Int):Nat:=(N.filter fun x=>decide (x.id / M40=o)).length
def aN (N:List ND)(id:Int):List Int:=match N.find? fun x=>x.id==id with|some x=>x.A|none=>z54
def kU (G:List GR)(o q:Int):Option GR:=G.find? fun g=>g.o==o&&g.q==q
def od (R:List (List Int))(k:Nat)(r:Int):Bool:=(R.getD k []).contains r
def eh (x:ND):List ND→List ND
 | []=>[x]
 | y::l=>if x.id<y.id then x::y::l else y::eh x l
def ltG (x y:GR):Prop:=x.o<y.o∨x.o=y.o∧x.q<y.q
instance (x y:GR):Decidable (ltG x y):=inferInstanceAs (Decidable (_∨_))
def kX (x:GR):List GR→List GR
 | []=>[x]
 | y::l=>if ltG x y then x::y::l else y::kX x l
def eD (ids:List Int)(c:Nat)(x:Int)(y:ND):ND:=if ids.contains y.id=true then {y with A:=y.A.set c (nA y.A c+x)} else y
inductive NOp
 | ins (x:ND)
 | bmp (ids:List Int) (c:Nat) (x:Int)
 | non
def NOp.ap :NOp→List ND→List ND
 | .ins x,N=>eh x N
 | .bmp ids c x,N=>N.map (eD ids c x)
 | .non,N=>N
inductive GOp
 | ins (x:GR)
 | upd (o q b:Int)
 | non
def qO (o q b:Int)(g:GR):GR:=if g.o=o∧g.q=q then {g with b:=b} else g
def GOp.ap :GOp→List GR→List GR
 | .ins x,G=>kX x G
 | .upd o q b,G=>G.map (qO o q b)
 | .non,G=>G
def gOf (s:PL)(e:EV):GR:=(kU s.G e.o e.f).getD ⟨0,0,0,0,0⟩
def nop (e:EV)(s:PL):NOp :=
 if e.k=1 then .ins ⟨idE e,e.n,z54.set e.q e.a⟩
 else if e.k=2 then .bmp [e.n] e.q e.a
 else if e.k=3 then .bmp (ef s.N e.n) (6+e.q) e.a
 else if e.k=4 then .bmp (ef s.N (gOf s e).n) (12+e.q) (gOf s e).a
 else if e.k=5 then .bmp [e.n] (18+6*e.q+(e.t-1).toNat) e.a
 else .non
def gop (e:EV):GOp :=
 if e.k=3 then .ins ⟨e.o,e.r,e.n,e.a,0⟩
 else if e.k=4 then .upd e.o e.f e.r
 else .non
def tP (e:EV)(I:List Bool):List Bool:=if e.k=6 then I.set (e.t-1).toNat true else I
def tQ (e:EV)(L:List Bool):List Bool:=if e.k=7 then L.set e.q true else L
def pN (e:EV)(R:List (List Int)):List (List Int):=if e.k=3∨e.k=4 then R.set e.q (R.getD e.q []++[e.r])else R
def IF (e:EV)(V:List Int):List Int:=V.set e.q (V.getD e.q 0+1)
def eff (e:EV)(s:PL):PL:=⟨tP e s.I,tQ e s.L,IF e s.V,(nop e s).ap s.N,(gop e).ap s.G,pN e s.R⟩
structure OK (e:EV) (s:PL):Prop where
 may:bJ e=true
 rdy:eX s.V e=true
 inI:s.I.getD e.q false=true
 notL:s.L.getD e.q false=false
 k1:e.k=1→iy s.N e.o<5∧e.a≤M47∧(e.n=0∨dv s.N e.n=true)∧(ef s.N e.n).length<4
 k2:e.k=2→dv s.N e.n=true∧nA (aN s.N e.n) e.q+e.a≤M47
 k3:e.k=3→od s.R e.q e.r=false∧dv s.N e.n=true∧∀id∈ef s.N e.n,e.a≤gQ (aN s.N id) e.q∧nA (aN s.N id) (6+e.q)+e.a≤MXA
 k4:e.k=4→od s.R e.q e.r=false∧∃g,kU s.G e.o e.f=some g∧g.b=0∧∀id∈ef s.N g.n,nA (aN s.N id) (12+e.q)+g.a≤nA (aN s.N id) (6+e.q)
 k5:e.k=5→dv s.N e.n=true∧s.I.getD (e.t-1).toNat false=true∧e.a≤gQ (aN s.N e.n) e.q∧nA (aN s.N e.n) (18+6*e.q+(e.t-1).toNat)+e.a≤MXA
structure PI (s:PL):Prop where
 i6:s.I.length=6
 l6:s.L.length=6
 v6:s.V.length=6
 r6:s.R.length=6
 vb:∀k,k<6→0≤s.V.getD k 0∧s.V.getD k 0<M40
 A54:∀x∈s.N,x.A.length=54
 may:∀x∈s.N,jn x.A=true∧∀k,k<6→nA x.A k≤M47
 srt:s.N.Pairwise (·.id < ·.id)
 ids:∀x∈s.N,∃o q:Int,1≤o∧o≤6∧1≤q∧q<M40∧x.id=o*M40+q∧q≤s.V.getD (o-1).toNat 0
 own:∀o,iy s.N o≤5
 tk:∃rk,TK (tr s.N) rk
 dep:∀x∈s.N,(ef s.N x.id).length≤4
 gs:s.G.Pairwise ltG
 gk:∀g∈s.G,dv s.N g.n=true∧1≤g.a∧g.a≤MXA∧1≤g.o∧g.o≤6∧1≤g.q∧od s.R (g.o-1).toNat g.q=true
def pl0 (n:Nat):PL:=⟨(List.range 6).map fun k=>decide (k<n),List.replicate 6 false,List.replicate 6 0,[],[],List.replicate 6 []⟩
/-! ## Rights -/
def dlt (c:Nat)(x:Int)(j:Nat):Int:=if j=c then x else 0
theorem iY (h:j≠c):dlt c x j=0:=by unfold dlt;rw[if_neg h]
theorem sU :dlt c x c=x:=by unfold dlt;rw[if_pos rfl]
theorem jE (h:0≤x):0≤dlt c x j:=by unfold dlt;split<;>omega
theorem oa (C:c<A.length)(j:Nat):nA (A.set c (nA A c+x)) j=nA A j+dlt c x j:=by
 unfold nA dlt;by_cases h:j=c
 ·subst h;rw[if_pos rfl];simp[List.getD,C]
 ·have u : ¬c=j:=fun e=>h e.symm;rw[if_neg h];simp[List.getD,u]
theorem Ol (h:c<A.length)(k:Nat):gQ (A.set c (nA A c+x)) k=gQ A k+(dlt c x k-dlt c x (6+k)+dlt c x (12+k)
 +((dlt c x (18+6*0+k)-dlt c x (18+6*k+0))+(dlt c x (18+6*1+k)-dlt c x (18+6*k+1))+(dlt c x (18+6*2+k)-dlt c x (18+6*k+2))+(dlt c x (18+6*3+k)-dlt c x (18+6*k+3))+(dlt c x (18+6*4+k)-dlt c x (18+6*k+4))+(dlt c x (18+6*5+k)-dlt c x (18+6*k+5)))):=by
 simp only[gQ,show List.range 6=[0,1,2,3,4,5]from rfl,List.map_cons,List.map_nil,List.sum_cons,List.sum_nil,oa h];omega
theorem Om (I:c<A.length)(u:0≤x)(C:c≠6+k)(h:∀j,j<6→c≠18+6*k+j):gQ A k≤gQ (A.set c (nA A c+x)) k:=by
 rw[Ol I];rw[iY (j:=6+k) (fun e=>C e.symm),iY (j:=18+6*k+0) (fun e=>h 0 oo e.symm),iY (j:=18+6*k+1) (fun e=>h 1 oo e.symm),iY (j:=18+6*k+2) (fun e=>h 2 oo e.symm),iY (j:=18+6*k+3) (fun e=>h 3 oo e.symm),iY (j:=18+6*k+4) (fun e=>h 4 oo e.symm),iY (j:=18+6*k+5) (fun e=>h 5 oo e.symm)]
 have:=jE (c:=c) (j:=k) u
 have:=jE (c:=c) (j:=12+k) u
 have:=jE (c:=c) (j:=18+6*0+k) u
 have:=jE (c:=c) (j:=18+6*1+k) u
 have:=jE (c:=c) (j:=18+6*2+k) u
 have:=jE (c:=c) (j:=18+6*3+k) u
 have:=jE (c:=c) (j:=18+6*4+k) u
 have:=jE (c:=c) (j:=18+6*5+k) u
 omega
theorem za1 {A : List Int} {c : Nat} {x : Int} {k : Nat} (hc : c < A.length) (hx : 0 ≤ x) : gQ A k - x ≤ gQ (A.set c (nA A c + x)) k := by
  by_cases h6 : c = 6 + k
  · rw [Ol hc]
    rw [iY (j := 18 + 6 * k + 0) (by omega), iY (j := 18 + 6 * k + 1) (by omega), iY (j := 18 + 6 * k + 2) (by omega), iY (j := 18 + 6 * k + 3) (by omega), iY (j := 18 + 6 * k + 4) (by omega), iY (j := 18 + 6 * k + 5) (by omega), show dlt c x (6 + k) = x by rw [h6]; exact sU]
    have := jE (c := c) (j := k) hx
    have := jE (c := c) (j := 12 + k) hx
    have := jE (c := c) (j := 18 + 6 * 0 + k) hx
    have := jE (c := c) (j := 18 + 6 * 1 + k) hx
    have := jE (c := c) (j := 18 + 6 * 2 + k) hx
    have := jE (c := c) (j := 18 + 6 * 3 + k) hx
    have := jE (c := c) (j := 18 + 6 * 4 + k) hx
    have := jE (c := c) (j := 18 + 6 * 5 + k) hx
    omega
  · by_cases h18 : ∃ j, j < 6 ∧ c = 18 + 6 * k + j
    · obtain ⟨j, hj, hcj⟩ := h18
      have hs : dlt c x (18 + 6 * k + 0) + dlt c x (18 + 6 * k + 1) + dlt c x (18 + 6 * k + 2) + dlt c x (18 + 6 * k + 3) + dlt c x (18 + 6 * k + 4) + dlt c x (18 + 6 * k + 5) = x := by
        subst hcj
        match j, hj with
        | 0, _ => rw [sU]; repeat rw [iY (by omega)]
                  omega
        | 1, _ => rw [sU]; repeat rw [iY (by omega)]
                  omega
        | 2, _ => rw [sU]; repeat rw [iY (by omega)]
                  omega
        | 3, _ => rw [sU]; repeat rw [iY (by omega)]
                  omega
        | 4, _ => rw [sU]; repeat rw [iY (by omega)]
                  omega
        | 5, _ => rw [sU]; repeat rw [iY (by omega)]
                  omega
      rw [Ol hc, iY (j := 6 + k) (by omega)]
      have := jE (c := c) (j := k) hx
      have := jE (c := c) (j := 12 + k) hx
      have := jE (c := c) (j := 18 + 6 * 0 + k) hx
      have := jE (c := c) (j := 18 + 6 * 1 + k) hx
      have := jE (c := c) (j := 18 + 6 * 2 + k) hx
      have := jE (c := c) (j := 18 + 6 * 3 + k) hx
      have := jE (c := c) (j := 18 + 6 * 4 + k) hx
      have := jE (c := c) (j := 18 + 6 * 5 + k) hx
      omega
    · have := Om (k := k) hc hx h6 fun j hj e => h18 ⟨j, hj, e⟩
      omega
structure SP (A:List Int):Prop where
 g:∀i,i<6→0≤nA A i∧nA A i≤MXA
 c:∀i,i<6→0≤nA A (6+i)∧nA A (6+i)≤MXA
 f:∀i,i<6→0≤nA A (12+i)∧nA A (12+i)≤nA A (6+i)
 d:∀i,i<6→nA A (18+6*i+i)=0
 r:∀i j,i<6→j<6→0≤nA A (18+6*i+j)∧nA A (18+6*i+j)≤MXA
 l:∀k,k<6→0≤gQ A k
 s:(gL A).sum≤MXA
theorem AX :jn A=true↔SP A:=by
 unfold jn;rw[Bool.and_eq_true,Bool.and_eq_true,List.all_eq_true,List.all_eq_true,decide_eq_true_eq];constructor
 ·rintro⟨⟨J,M⟩,O⟩;have C:∀i,i<6→yE A i=true:=fun i hi=>J i (by simpa using hi);have n:∀i,i<6→((((okA (nA A i)=true∧okA (nA A (6+i))=true)∧okA (nA A (12+i))=true)∧nA A (12+i)≤nA A (6+i))∧nA A (18+6*i+i)=0)∧∀j,j<6→okA (nA A (18+6*i+j))=true:=fun i hi=>by
   have:=C i hi
   unfold yE at this;simp only[Bool.and_eq_true,decide_eq_true_eq,List.all_eq_true]at this;exact⟨this.1,fun j u=>this.2 j (by simpa using u)⟩
  exact⟨fun i hi=>om.1 (n i hi).1.1.1.1.1,fun i hi=>om.1 (n i hi).1.1.1.1.2,fun i hi=>⟨(om.1 (n i hi).1.1.1.2).1,(n i hi).1.1.2⟩,fun i hi=>(n i hi).1.2,fun i j hi u=>om.1 ((n i hi).2 j u),fun k I=>by simpa using M k (by simpa using I),O⟩
 ·intro h;refine⟨⟨fun i hi=>?_,fun k I=>by simpa using h.l k (by simpa using I)⟩,h.s⟩;have hi:i<6:=by simpa using hi
  unfold yE;simp only[Bool.and_eq_true,decide_eq_true_eq,List.all_eq_true];exact⟨⟨⟨⟨⟨om.2 (h.g i hi),om.2 (h.c i hi)⟩,om.2 ⟨(h.f i hi).1,Int.le_trans (h.f i hi).2 (h.c i hi).2⟩⟩,(h.f i hi).2⟩,h.d i hi⟩,fun j u=>om.2 (h.r i j hi (by simpa using u))⟩
theorem XF (A:List Int):(gL A).sum=nA A 0+nA A 1+nA A 2+nA A 3+nA A 4+nA A 5:=by
 simp only[gL,show List.range 6=[0,1,2,3,4,5]from rfl,List.map_cons,List.map_nil,List.sum_cons,List.sum_nil];omega
theorem VI (hA:A.length=54)(h:SP A)(O:0≤x)(hc:c<54)(hm:nA A c+x≤MXA)(J:∀i,i<6→c=12+i→nA A (12+i)+x≤nA A (6+i))(hd:∀i,i<6→c≠18+6*i+i)(hl:∀k,k<6→(c=6+k∨∃j,j<6∧c=18+6*k+j)→x≤gQ A k)(hg:c<6→nA A c+x≤M47∧∀i,i<6→nA A i≤M47):SP (A.set c (nA A c+x)):=by
 have u:c<A.length:=by omega
 have I:∀j,nA A j≤nA (A.set c (nA A c+x)) j:=fun j=>by rw[oa u];have:=jE (c:=c) (j:=j) O;omega
 have U:∀j,nA A j≤MXA→nA (A.set c (nA A c+x)) j≤MXA:=fun j C=>by
  rw[oa u];by_cases e:j=c
  ·subst e;rw[sU];exact hm
  ·rw[iY e];omega
 refine⟨fun i hi=>⟨Int.le_trans (h.g i hi).1 (I _),U _ (h.g i hi).2⟩,fun i hi=>⟨Int.le_trans (h.c i hi).1 (I _),U _ (h.c i hi).2⟩,fun i hi=>⟨Int.le_trans (h.f i hi).1 (I _),?_⟩,fun i hi=>?_,fun i j hi C=>⟨Int.le_trans (h.r i j hi C).1 (I _),U _ (h.r i j hi C).2⟩,fun k hk=>?_,?_⟩
 ·have h2:=I (6+i);by_cases e:c=12+i
  ·have:=J i hi e
   rw[oa u (12+i),show dlt c x (12+i)=x by rw[e];exact sU];omega
  ·rw[oa u (12+i),iY (fun e' => e e'.symm)]
   have:=(h.f i hi).2;omega
 ·rw[oa u,iY (fun e=>hd i hi e.symm),h.d i hi];rfl
 ·by_cases M:c=6+k∨∃j,j<6∧c=18+6*k+j
  ·have:=hl k hk M
   have:=za1 (k:=k) u O
   omega
  ·have:=Om (k:=k) u O (fun e=>M (.inl e)) (fun j C e=>M (.inr ⟨j,C,e⟩))
   have:=h.l k hk;omega
 ·rw[XF];have hs:=h.s;rw[XF]at hs;by_cases e:c<6
  ·obtain⟨h1,h2⟩:=hg e;have b:∀i,i<6→nA (A.set c (nA A c+x)) i≤M47:=fun i hi=>by
    rw[oa u];by_cases Z:i=c
    ·subst Z;rw[sU];exact h1
    ·rw[iY Z];have:=h2 i hi;omega
   have:=b 0 oo
   have:=b 1 oo
   have:=b 2 oo
   have:=b 3 oo
   have:=b 4 oo
   have:=b 5 oo
   simp only[M47,MXA]at *;omega
  ·rw[oa u 0,oa u 1,oa u 2,oa u 3,oa u 4,oa u 5]
   repeat rw[iY oo]
   omega
/-! ## Nodes -/
section
variable {N:List ND}{id:Int}
theorem oh :dv N id=true↔∃x∈N,x.id=id:=by simp[dv]
theorem kW :bS (tr N) id=dv N id:=by
 unfold bS tr dv;rw[List.any_map];rfl
theorem ol {x y:ND}:∀{N:List ND},y∈eh x N↔y=x∨y∈N
 | []=>by simp[eh]
 | z::N=>by
  unfold eh;split
  ·simp
  ·rw[List.mem_cons,ol (N:=N),List.mem_cons];constructor
   ·rintro(h|h|h)
    ·exact .inr (.inl h)
    ·exact .inl h
    ·exact .inr (.inr h)
   ·rintro(h|h|h)
    ·exact .inr (.inl h)
    ·exact .inl h
    ·exact .inr (.inr h)
theorem TC {x:ND}:∀{N:List ND},(eh x N).length=N.length+1
 | []=>rfl
 | z::N=>by
  unfold eh;split
  ·rfl
  ·simp[TC (N:=N)]
theorem RT {x y:ND}(h:x.id≠y.id):∀{N:List ND},eh x (eh y N)=eh y (eh x N)
 | []=>by
  simp only[eh];by_cases j:x.id<y.id
  ·rw[if_pos j,if_neg oo]
  ·rw[if_neg j,if_pos oo]
 | z::N=>by
  by_cases u:x.id<z.id<;>by_cases C:y.id<z.id
  ·by_cases j:x.id<y.id
   ·simp[eh,u,C,j,show ¬y.id<x.id by omega]
   ·simp[eh,u,C,j,show y.id<x.id by omega]
  ·simp[eh,u,C,show x.id<y.id∨True from .inr trivial,show ¬y.id<x.id by omega]
  ·simp[eh,u,C,show ¬x.id<y.id by omega]
  ·simp[eh,u,C,RT h (N:=N)]
theorem uH {x:ND}:∀{N:List ND},N.Pairwise (·.id < ·.id)→(∀y∈N,y.id≠x.id)→(eh x N).Pairwise (·.id < ·.id)
 | [],_,_=>by simp[eh]
 | z::N,h,hn=>by
  rw[List.pairwise_cons]at h;unfold eh;split
  ·rename_i u;rw[List.pairwise_cons,List.pairwise_cons];refine⟨fun y j=>?_,h⟩;rcases List.mem_cons.1 j with rfl|j
   ·exact u
   ·have:=h.1 y j;omega
  ·rename_i u;rw[List.pairwise_cons];refine⟨fun y j=>?_,uH h.2 fun y j=>hn y (by simp[j])⟩;rcases ol.1 j with rfl|j
   ·have:=hn z sm;omega
   ·exact h.1 y j
theorem Od {x:ND}{g:ND→ND}(h:g x=x)(j:∀y,(g y).id=y.id):∀{N:List ND},eh x (N.map g)=(eh x N).map g
 | []=>by simp[eh,h]
 | z::N=>by
  simp only[List.map_cons,eh,j];split
  ·simp[h]
  ·simp[Od h j (N:=N)]
theorem O5 {p:ND→Bool}{x:ND}(u:N.Pairwise (·.id < ·.id))(I:x∈N)(C:∀y,p y=true↔y.id=x.id):N.find? p=some x:=by
 induction N with
 | nil=>simp at I
 | cons z N ih =>
  rw[List.pairwise_cons]at u;by_cases J:z=x
  ·subst J;rw[List.find?_cons_of_pos ((C z).2 rfl)]
  ·have j:x∈N:=by rcases List.mem_cons.1 I with h|h;exact absurd h.symm J;exact h
   have : ¬p z=true:=fun h=>by
    have M:=(C z).1 h
    have:=u.1 x j;omega
   rw[List.find?_cons_of_neg this];exact ih u.2 j
theorem wC {x:ND}(h:N.Pairwise (·.id < ·.id))(j:x∈N):aN N x.id=x.A:=by
 unfold aN;rw[O5 h j (fun y=>by simp)]
theorem ua (h:dv N id=true):∃x∈N,x.id=id:=oh.1 h
theorem zdp {x y:ND}(u:N.Pairwise (·.id < ·.id))(I:x∈N)(J:y∈N)(h:x.id=y.id):x=y:=by
 have C:=O5 (p:=fun z=>z.id==x.id) u I (fun y=>by simp);have j:=O5 (p:=fun z=>z.id==x.id) u J (fun z=>by simp[h]);rw[C]at j;exact Option.some.inj j
theorem iX {ids:List Int}(y:ND):(eD ids c v y).id=y.id∧(eD ids c v y).par=y.par:=by unfold eD;split<;>exact⟨rfl,rfl⟩
theorem AM {ids:List Int}{y:ND}(h:y.id∈ids):eD ids c v y={y with A:=y.A.set c (nA y.A c+v)}:=by unfold eD;rw[if_pos (List.contains_iff_mem.2 h)]
theorem AL {ids:List Int}{y:ND}(h:y.id∉ids):eD ids c v y=y:=by unfold eD;rw[if_neg (fun j=>h (List.contains_iff_mem.1 j))]
theorem Us {y:Int}(h:c≠d):(A.set c (nA A c+x)).set d (nA (A.set c (nA A c+x)) d+y)=(A.set d (nA A d+y)).set c (nA (A.set d (nA A d+y)) c+x):=by
 have j:nA (A.set c (nA A c+x)) d=nA A d:=by unfold nA;simp[List.getD,h]
 have u:nA (A.set d (nA A d+y)) c=nA A c:=by unfold nA;simp[List.getD,show ¬d=c from fun e=>h e.symm]
 rw[j,u,List.set_comm _ _ h]
theorem Xo {ids:List Int}(h:c≠d)(y:ND):eD ids c v (eD M0 d r y)=eD M0 d r (eD ids c v y):=by
 obtain⟨i,p,A⟩:=y;by_cases j:i∈ids<;>by_cases u:i∈M0<;>simp only[eD,List.contains_iff_mem,j,u,if_true,if_false];rw[Us (A:=A) (x:=v) (y:=r) h]
theorem YL {g:ND→ND}(h:∀y,(g y).id=y.id∧(g y).par=y.par):tr (N.map g)=tr N:=by
 unfold tr;rw[List.map_map];refine List.map_congr_left fun y _=>?_;show ((g y).id,(g y).par)=_;rw[(h y).1,(h y).2]
theorem O9 {g:ND→ND}(h:∀y,(g y).id=y.id):dv (N.map g) id=dv N id:=by
 unfold dv;rw[List.any_map]
 congr 1
 funext y;show ((g y).id==id)=_;rw[h]
theorem EM {x:ND}:dv (eh x N) id=(decide (x.id=id) || dv N id):=by
 rw[Bool.eq_iff_iff,oh,Bool.or_eq_true,oh,decide_eq_true_eq];constructor
 ·rintro⟨y,j,h⟩;rcases ol.1 j with rfl|j
  ·exact .inl h
  ·exact .inr ⟨y,j,h⟩
 ·rintro(h|⟨y,j,h⟩)
  ·exact⟨x,ol.2 (.inl rfl),h⟩
  ·exact⟨y,ol.2 (.inr j),h⟩
theorem Jx {g:ND→ND}(h:∀y,(g y).id=y.id){o:Int}:iy (N.map g) o=iy N o:=by
 unfold iy;rw[List.filter_map,List.length_map]
 congr 2
 funext y;show decide ((g y).id / M40=o)=_;rw[h]
theorem Jw {x:ND}{o:Int}:iy (eh x N) o=iy N o+if x.id / M40=o then 1 else 0:=by
 unfold iy
 induction N with
 | nil=>simp only[eh];by_cases h:x.id / M40=o<;>simp[h]
 | cons z N ih =>
  unfold eh;split
  ·by_cases h:x.id / M40=o<;>simp[h]
  ·by_cases j:z.id / M40=o
   ·rw[List.filter_cons_of_pos (by simpa using j),List.filter_cons_of_pos (by simpa using j),List.length_cons,List.length_cons,ih];omega
   ·rw[List.filter_cons_of_neg (by simpa using j),List.filter_cons_of_neg (by simpa using j),ih]
theorem uG {o s:Int}(h:0≤s)(j:s<M40):(o*M40+s) / M40=o:=by
 have:(o*M40+s) / M40=o+s / M40:=by rw[Int.add_comm,Int.add_mul_ediv_right _ _ dc,Int.add_comm]
 rw[this,Int.ediv_eq_zero_of_lt h j];omega
theorem VD (h:∀x∈N,∃o q:Int,1≤o∧o≤6∧1≤q∧q<M40∧x.id=o*M40+q):N.length=iy N 1+iy N 2+iy N 3+iy N 4+iy N 5+iy N 6:=by
 induction N with
 | nil=>rfl
 | cons x N I =>
  have I:=I fun y O=>h y (by simp[O]);obtain⟨o,q,U,Z,h3,J,M⟩:=h x sm;have C:x.id / M40=o:=by rw[M];exact uG oo J
  have j:∀p:Int,iy (x::N) p=iy N p+if o=p then 1 else 0:=fun p=>by
   unfold iy;by_cases u:o=p
   ·rw[List.filter_cons_of_pos (by simp[C,u]),if_pos u];rfl
   ·rw[List.filter_cons_of_neg (by simp[C,u]),if_neg u];rfl
  rw[List.length_cons,j,j,j,j,j,j]
  have:o=1∨o=2∨o=3∨o=4∨o=5∨o=6:=by omega
  rcases this with rfl|rfl|rfl|rfl|rfl|rfl<;>simp<;>omega
end
/-! ## Paths -/
section
variable {T T':List (Int×Int)}{rk:Int→Nat}
theorem zcl {id:Int}(h:bS T id=true):posT T id<T.length∧((T.getD (posT T id) (0,0)).1=id):=by
 obtain⟨x,C,u⟩:=ja.1 h;have j:posT T id<T.length:=List.findIdx_lt_length_of_exists ⟨x,C,by simp[u]⟩;refine⟨j,?_⟩
 have:=List.findIdx_getElem (w:=j) (p:=fun x:Int×Int=>x.1==id)
 rw[List.getD_eq_getElem?_getD,gE j,Option.getD_some];exact beq_iff_eq.1 this
theorem oq {id:Int}(h:bS T id=true):(id,el T id)∈T:=by
 obtain⟨j,u⟩:=zcl h
 have:T.getD (posT T id) (0,0)∈T:=by
  rw[List.getD_eq_getElem?_getD,gE j];exact List.getElem_mem _
 have e:T.getD (posT T id) (0,0)=(id,el T id):=Prod.ext u rfl;rw[←e];exact this
theorem Ig {id p:Int}(u:∀x∈T,∀y∈T,x.1=y.1→x=y)(h:(id,p)∈T):el T id=p:=by
 have j:bS T id=true:=ja.2 ⟨_,h,rfl⟩
 have:=u _ (oq j) _ h rfl
 exact congrArg Prod.snd this
theorem LL (j:TK T rk):∀(f g:Nat) (id:Int),upT T rk id≤f→upT T rk id≤g→cv T f id=cv T g id
 | 0,0,_,_,_=>rfl
 | f+1,g,id,h1,h2=>by
  cases h:bS T id with
  | false =>
   cases g with
   | zero=>simp[cv,h]
   | succ g=>simp[cv,h]
  | true =>
   have O:upT T rk id=rk id+1:=by unfold upT;rw[h]
   obtain⟨g,rfl⟩:∃I,g=I+1:=⟨g-1,by omega⟩
   have Z:upT T rk (el T id)≤rk id:=by
    have M:=oq h;unfold upT;cases C:bS T (el T id)with
    | false=>exact Nat.zero_le _
    | true =>
     rcases j.up _ M with J|⟨y,hy,e,u⟩
     ·exfalso;obtain⟨z,U,e⟩:=ja.1 C;exact j.nz z U (e.trans J)
     ·show rk (el T id)+1≤rk id;have e:y.1=el T id:=e;rw[←e];exact u
   simp only[cv,h,if_true];rw[LL j f g (el T id) oo oo]
 | 0,g+1,id,h1,h2=>by
  cases h:bS T id with
  | false=>simp[cv,h]
  | true =>
   have O:upT T rk id=rk id+1:=by unfold upT;rw[h]
   omega
theorem Ub (j:TK T rk)(C:bS T' 0=false)(u:∀id,bS T id=true→bS T' id=true∧el T' id=el T id):∀(f:Nat) (id:Int),bS T id=true∨id=0→cv T' f id=cv T f id
 | 0,_,_=>rfl
 | f+1,id,h=>by
  rcases h with h|rfl
  ·obtain⟨J,M⟩:=u id h;simp only[cv,h,J,if_true,M];rw[Ub j C u f];rcases j.up _ (oq h)with I|⟨y,Z,e,_⟩
   ·exact .inr I
   ·exact .inl (ja.2 ⟨y,Z,e⟩)
  ·have:bS T 0=false:=by
    cases O:bS T 0 with
    | false=>rfl
    | true =>
     obtain⟨x,U,e⟩:=ja.1 O;exact absurd e (j.nz x U)
   simp[cv,C,this]
theorem Uc :∀(f:Nat) (id:Int),∀x∈cv T f id,bS T x=true
 | 0,_,_,h=>by simp[cv]at h
 | f+1,id,x,h=>by
  unfold cv at h;split at h
  ·rename_i j;rcases List.mem_cons.1 h with rfl|h
   ·exact j
   ·exact Uc f _ x h
  ·simp at h
end
section
variable {N:List ND}{id:Int}
theorem pW (h:x∈ef N id):dv N x=true:=by rw[←kW];exact Uc _ _ x h
theorem RA (J:N.Pairwise (·.id < ·.id)):∀x∈tr N,∀y∈tr N,x.1=y.1→x=y:=by
 intro x j y u h;unfold tr at j u;obtain⟨a,C,rfl⟩:=List.mem_map.1 j;obtain⟨b,I,rfl⟩:=List.mem_map.1 u
 have:=zdp J C I h
 rw[this]
theorem Yc {x:ND}(Z:N.Pairwise (·.id < ·.id))(j:∃rk,TK (tr N) rk)(J:dv N x.id=false)(M:x.id≠0)(h:dv N id=true∨id=0):ef (eh x N) id=ef N id:=by
 obtain⟨rk,j⟩:=j;have O:∀y∈N,y.id≠x.id:=fun y C e=>by rw[oh.2 ⟨y,C,e⟩]at J;cases J
 have I:=uH Z O;have hz:bS (tr (eh x N)) 0=false:=by
  rw[kW,EM,decide_eq_false M,Bool.false_or, ←kW];cases U:bS (tr N) 0 with
  | false=>rfl
  | true =>
   obtain⟨y,C,e⟩:=ja.1 U;exact absurd e (j.nz y C)
 have u:∀id,bS (tr N) id=true→bS (tr (eh x N)) id=true∧el (tr (eh x N)) id=el (tr N) id:=by
  intro i hi;refine⟨?_,?_⟩
  ·rw[kW,EM];rw[kW]at hi;rw[hi,Bool.or_true]
  ·refine Ig (RA I) ?_
   have:=oq hi
   unfold tr at this ⊢;obtain⟨y,C,e⟩:=List.mem_map.1 this;exact List.mem_map.2 ⟨y,ol.2 (.inr C),e⟩
 unfold ef cC;rw[Ub j hz u _ _ (by rw[kW];exact h)];exact LL j _ _ _ (by have:=G7 j id;unfold tr at *; simp[TC]at *; omega) (by have:=G7 j id;omega)
theorem Yd {g:ND→ND}(h:∀y,(g y).id=y.id∧(g y).par=y.par):ef (N.map g) id=ef N id:=by unfold ef;rw[YL h]
end
/-! ## Grants -/
section
variable {G:List GR}
theorem zc3 {x:GR}:¬ltG x x:=by unfold ltG;omega
theorem XQ {x y z:GR}(h:ltG x y)(k:ltG y z):ltG x z:=by unfold ltG at *; omega
theorem Oc {x y:GR}:∀{G:List GR},y∈kX x G↔y=x∨y∈G
 | []=>by simp[kX]
 | z::G=>by
  unfold kX;split
  ·simp
  ·rw[List.mem_cons,Oc (G:=G),List.mem_cons];constructor
   ·rintro(h|h|h)
    ·exact .inr (.inl h)
    ·exact .inl h
    ·exact .inr (.inr h)
   ·rintro(h|h|h)
    ·exact .inr (.inl h)
    ·exact .inl h
    ·exact .inr (.inr h)
theorem RR {x y:GR}(h:x.o≠y.o):∀{G:List GR},kX x (kX y G)=kX y (kX x G)
 | []=>by
  simp only[kX];by_cases j:ltG x y
  ·rw[if_pos j,if_neg (by unfold ltG at *; omega)]
  ·rw[if_neg j,if_pos (by unfold ltG at *; omega)]
 | z::G=>by
  by_cases u:ltG x z<;>by_cases C:ltG y z
  ·by_cases j:ltG x y
   ·simp[kX,u,C,j,show ¬ltG y x by unfold ltG at *; omega]
   ·simp[kX,u,C,j,show ltG y x by unfold ltG at *; omega]
  ·simp[kX,u,C,show ¬ltG y x by unfold ltG at *; omega]
  ·simp[kX,u,C,show ¬ltG x y by unfold ltG at *; omega]
  ·simp[kX,u,C,RR h (G:=G)]
theorem Hc {x:GR}:∀{G:List GR},G.Pairwise ltG→(∀y∈G,¬(y.o=x.o∧y.q=x.q))→(kX x G).Pairwise ltG
 | [],_,_=>by simp[kX]
 | z::G,h,hn=>by
  rw[List.pairwise_cons]at h;unfold kX;split
  ·rename_i u;rw[List.pairwise_cons,List.pairwise_cons];refine⟨fun y j=>?_,h⟩;rcases List.mem_cons.1 j with rfl|j
   ·exact u
   ·exact XQ u (h.1 y j)
  ·rename_i u;rw[List.pairwise_cons];refine⟨fun y j=>?_,Hc h.2 fun y j=>hn y (by simp[j])⟩;rcases Oc.1 j with rfl|j
   ·have:=hn z sm;unfold ltG at *; omega
   ·exact h.1 y j
theorem Ob {x:GR}{g:GR→GR}(u:g x=x)(j:∀y,(g y).o=y.o∧(g y).q=y.q):∀{G:List GR},kX x (G.map g)=(kX x G).map g
 | []=>by simp[kX,u]
 | z::G=>by
  have e:ltG x (g z)↔ltG x z:=by unfold ltG;rw[(j z).1,(j z).2]
  simp only[List.map_cons,kX];by_cases h:ltG x z
  ·rw[if_pos (e.2 h),if_pos h];simp[u]
  ·rw[if_neg (fun C=>h (e.1 C)),if_neg h,List.map_cons,Ob u j (G:=G)]
theorem Tv {x:GR}{o q:Int}(h : ¬(x.o=o∧x.q=q)):∀{G:List GR},kU (kX x G) o q=kU G o q
 | []=>by
  have:(x.o==o&&x.q==q)=false:=by
   cases j:(x.o==o&&x.q==q)with
   | false=>rfl
   | true=>rw[Bool.and_eq_true,beq_iff_eq,beq_iff_eq]at j;exact absurd j h
  simp[kU,kX,List.find?,this]
 | z::G=>by
  have j:(x.o==o&&x.q==q)=false:=by
   cases j:(x.o==o&&x.q==q)with
   | false=>rfl
   | true=>rw[Bool.and_eq_true,beq_iff_eq,beq_iff_eq]at j;exact absurd j h
  unfold kX;split
  ·simp[kU,List.find?,j]
  ·have u:=Tv h (G:=G);unfold kU at u ⊢;simp only[List.find?_cons];split
   ·rfl
   ·exact u
theorem O7 {g:GR→GR}{o q:Int}(j:∀y,(g y).o=y.o∧(g y).q=y.q)(u:∀y,y.o=o→y.q=q→g y=y):∀{G:List GR},kU (G.map g) o q=kU G o q
 | []=>rfl
 | z::G=>by
  have C:=O7 j u (G:=G);unfold kU at C ⊢;simp only[List.map_cons,List.find?_cons,(j z).1,(j z).2];cases h:(z.o==o&&z.q==q)with
  | false=>exact C
  | true =>
   rw[Bool.and_eq_true,beq_iff_eq,beq_iff_eq]at h;show some (g z)=some z;rw[u z h.1 h.2]
theorem yw {o q:Int}{g:GR}(h:kU G o q=some g):g∈G∧g.o=o∧g.q=q:=by
 unfold kU at h;have u:=List.mem_of_find?_eq_some h;have j:=List.find?_some h;rw[Bool.and_eq_true,beq_iff_eq,beq_iff_eq]at j;exact⟨u,j⟩
end
section
variable {S E:Type}(eff:E→S→S)(ok:E→S→Prop)
def qY (s:S)(l:List E):S:=l.foldl (fun s e=>eff e s) s
def okL :S→List E→Prop
 | _,[]=>True
 | s,e::l=>ok e s∧okL (eff e s) l
variable {eff ok}
theorem JD {s:S}{l l':List E}:qY eff s (l++l')=qY eff (qY eff s l) l':=by unfold qY;rw[List.foldl_append]
theorem Ie {l':List E}:∀{l:List E} {s:S},okL eff ok s (l++l')↔okL eff ok s l∧okL eff ok (qY eff s l) l'
 | [],s=>by simp[okL,qY]
 | e::l,s=>by
  have:=Ie (l':=l') (l:=l) (s:=eff e s)
  simp only[List.cons_append,okL,this,and_assoc];rfl
structure Sys (eff:E→S→S) (ok:E→S→Prop) (org:E→Nat) (Inv:S→Prop):Prop where
 inv:∀e s,Inv s→ok e s→Inv (eff e s)
 dia:∀e f s,Inv s→org f≠org e→ok e s→ok f s→ok f (eff e s)∧eff f (eff e s)=eff e (eff f s)
variable {org:E→Nat}{Inv:S→Prop}(H:Sys eff ok org Inv)
include H
theorem Sys.invs :∀{l:List E} {s:S},Inv s→okL eff ok s l→Inv (qY eff s l)
 | [],_,h,_=>h
 | e::_,s,h,k=>Sys.invs (s:=eff e s) (H.inv e s h k.1) k.2
end
section
variable {S E:Type}{eff:E→S→S}{ok:E→S→Prop}{org:E→Nat}{seq:E→Int}{dep:E→Nat→Int}{Inv:S→Prop}{s0:S}
def kn (org:E→Nat)(seq:E→Int)(D:Nat→Int)(e:E):Bool:=decide (seq e≤D (org e))
def Xe (org:E→Nat)(seq:E→Int)(dep:E→Nat→Int)(l:List E)(D:Nat→Int):Prop:=∀f∈l,seq f≤D (org f)→∀k,dep f k≤D k
inductive Wf (eff:E→S→S) (ok:E→S→Prop) (org:E→Nat) (seq:E→Int) (dep:E→Nat→Int) (s0:S):List E→Prop
 | nil:Wf eff ok org seq dep s0 []
 | snoc {l:List E} {e:E}:Wf eff ok org seq dep s0 l→(∀f∈l,org f=org e→seq f<seq e)→dep e (org e)=seq e-1→Xe org seq dep l (dep e)→ok e (qY eff s0 (l.filter (kn org seq (dep e))))→Wf eff ok org seq dep s0 (l++[e])
def stD (eff:E→S→S)(org:E→Nat)(seq:E→Int)(s0:S)(l:List E)(D:Nat→Int):S:=qY eff s0 (l.filter (kn org seq D))
def upD (D:Nat→Int)(k:Nat)(x:Int):Nat→Int:=fun j=>if j=k then x else D j
end
end
end Go.Proofs.YtkfgimlaijifaaaGreatDoor
