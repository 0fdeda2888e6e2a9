import Derived.Test.YtkbhfjljieopoaaGreatDoorSh
import Derived.WalkKit
import Derived.WalkSpells
import Derived.WalkLawsBesides
import Derived.KernelRfl
import Derived.Lib.Hide
import Derived.Lib.SlBytesConst
import Derived.Deep.MidRow
import Derived.Great.BuildSlice
import Derived.Maps.RangeRun
import Derived.MapKept
import Derived.Laws.StructEq
namespace Go.Proofs.YtkbhfjljieopoaaGreatDoor
set_option maxRecDepth 100000
variable {w w':World}{K:KV}{b n c o k B i g p j m s z f d D c2 hi:Nat}{x r:Int}{a av:Option Addr}{cs ys:List Value}{E t e:TypeId}{xs v:List Int}{α:Type}{T:List (Int×Int)}{cx cy:Bool}{W3:IntKind}
section
open Go.RowKit
def vL (a:Option Addr)(i:Nat):Addr:=match a with|some ⟨b,o,_⟩=>⟨b,o+i,none⟩|none=>default
theorem OY (b o i:Nat)(s:Option Nat):vL (some ⟨b,o,s⟩) i=⟨b,o+i,none⟩:=rfl
structure RV (w:World) (a:Option Addr) (n c:Nat) (xs:List Value):Prop where
 len:xs.length=n
 cap:n≤c
 some_:0<n→∃b o,a=some ⟨b,o,none⟩
 nil_:a=none→n=0∧c=0
 cell:∀i v,xs[i]? = some v→w.cell? (vL a i)=some v
theorem RV.nil (w:World):RV w none 0 0 []:=⟨rfl,Nat.le_refl _,fun h=>absurd h (by omega),fun _=>⟨rfl,rfl⟩,fun i v h=>by simp at h⟩
def u8v (c:UInt8):Value:=.int .u8 (c.toNat:Int)
def RB (w:World)(a:Option Addr)(n c:Nat)(l:List UInt8):Prop:=RV w a n c (l.map u8v)
def OV (w:World)(B:Nat)(E:TypeId)(a:Option Addr)(n c:Nat)(xs:List Value):Prop:=w.ownsRow B E 1 (.slice a n c) n xs
theorem OV.rv {xs:List Value}(h:OV w B E a n c xs):RV w a n c xs:=by
 have I:xs.length=n:=by simpa using h.1
 rcases h.2 with⟨j,O⟩|⟨g,cap,u,j,hB,J,C,hm,hs,U⟩
 ·simp only[Value.slice.injEq]at j;obtain⟨rfl,_,rfl⟩:=j;subst O
  have:xs=[]:=List.eq_nil_of_length_eq_zero I
  subst this;exact RV.nil w
 ·simp only[Value.slice.injEq]at j;obtain⟨rfl,_,rfl⟩:=j;refine⟨I,C,fun _=>⟨g,0,rfl⟩,fun e=>by simp at e,fun i v hi=>?_⟩;have M:i<xs.length:=(List.getElem?_eq_some_iff.1 hi).1;rw[OY,Nat.zero_add,cell_of_row w g i u E (0,0) J];rw[←U]at hi;rw[List.getElem?_take]at hi;split at hi
  ·simpa using hi
  ·cases hi
theorem OV.block {xs:List Value}(h:OV w B E a n c xs):∀k,(Value.slice a n c).ownBlock=some k→B≤k∧k<w.heap.size:=World.ownsRow.lt h
theorem OV.nil (w:World)(B:Nat)(E:TypeId):OV w B E none 0 0 []:=World.ownsRow_nil w B E 1
theorem dW {h:Option Nat}(u:w.grownBy w' h)(j:B≤w.heap.size)(C:∀k,h=some k→B≤k):Below B w w' :=
 (Below.refl B w).grown u j C
section
variable {P:Program}(w:World)
variable {ops:Array Oper}{rest:List Oper}{a:Act}{Q:Exit→Act→World→Prop}{dst:Option Tmp}{ty:TypeId}{pos:String}{after:Array Edge}
end
theorem rI (l:List UInt8):(sq l).toList=l:=by
 simp[sq]
@[go_sem ↓] theorem binOp_bstr_eql (t:TypeId) (l m:List UInt8):binOp .eql t (.string (sq l)) (.string (sq m))=pure (.bool (l==m)):=by
 rw[binOp_string_eql,rI,rI]
@[go_sem ↓] theorem binOp_bstr_neq (t:TypeId) (l m:List UInt8):binOp .neq t (.string (sq l)) (.string (sq m))=pure (.bool (!(l==m))):=by
 rw[binOp_string_neq,rI,rI]
@[go_sem ↓] theorem binOp_bstr_lss (t:TypeId) (l m:List UInt8):binOp .lss t (.string (sq l)) (.string (sq m))=pure (.bool (Op.bytesLess l m)):=by
 rw[binOp_string_lss,rI,rI]
section
variable {P:Program}(w:World)
variable {ops:Array Oper}{rest:List Oper}{a:Act}{Q:Exit→Act→World→Prop}{dst:Option Tmp}{ty:TypeId}{pos:String}{after:Array Edge}
end
theorem eK {n:Int}(h : -9223372036854775808≤n)(j:n≤9223372036854775807):IntKind.i64.wrap n=n:=IntWalk.i64_in n ⟨h,j⟩
theorem gF (n:Int):IntKind.u64.wrap n=n%18446744073709551616:=by simp[IntKind.wrap,IntKind.signed,IntKind.bits]
theorem Ok (n:Int):IntKind.u8.wrap n=n%256:=by simp[IntKind.wrap,IntKind.signed,IntKind.bits]
section
variable {P:Program}{K:KV}{w:World}{t:TypeId}{cx cy:Bool}
theorem jm {j:BinOp}{x y v:Value}(C:(eqG j t cx cy x y).run P w=.ok () w)(u:(binOp j t x y).run P w=.ok v w)(h:K v w):bin P j t cx cy x y K w:=by
 unfold bin;refine gZ (w':=w) (v:=v) ?_ h;simp only[Sem.run_bind,C,Result.andThen_ok,u]
theorem mM (h:BinOp)(k j:IntKind)(a b:Int):(eqG h t cx cy (.int k a) (.int j b)).run P w=.ok () w:=by
 unfold eqG eqGuard;cases h<;>simp[Sem.run_pure]
variable {k:IntKind}{a b:Int}
theorem cA (h:K (.bool (decide (a=b))) w):bin P .eql t cx cy (.int k a) (.int k b) K w:=by
 refine jm (mM ..) ?_ h
 have:(a==b)=decide (a=b):=by by_cases j:a=b<;>simp[j]
 simp[binOp,Op.intCmp,Sem.run_pure,this]
theorem bN (h:K (.bool (decide (a≠b))) w):bin P .neq t cx cy (.int k a) (.int k b) K w:=by
 refine jm (mM ..) ?_ h
 have:(a != b)=decide (a≠b):=by by_cases j:a=b<;>simp[j]
 simp only[binOp,Op.intCmp,ne_eq,not_true_eq_false,if_false,Sem.run_pure,this]
theorem aM (h:K (.bool (decide (a<b))) w):bin P .lss t cx cy (.int k a) (.int k b) K w:=by
 refine jm (mM ..) ?_ h;simp[binOp,Op.intCmp,Sem.run_pure]
theorem fU (h:K (.bool (decide (a≤b))) w):bin P .leq t cx cy (.int k a) (.int k b) K w:=by
 refine jm (mM ..) ?_ h;simp[binOp,Op.intCmp,Sem.run_pure]
theorem de (h:K (.bool (decide (b<a))) w):bin P .gtr t cx cy (.int k a) (.int k b) K w:=by
 refine jm (mM ..) ?_ h;simp[binOp,Op.intCmp,Sem.run_pure]
theorem bM (h:K (.bool (decide (b≤a))) w):bin P .geq t cx cy (.int k a) (.int k b) K w:=by
 refine jm (mM ..) ?_ h;simp[binOp,Op.intCmp,Sem.run_pure]
theorem jS (h:K (.int k (k.wrap (a+b))) w):bin P .add t cx cy (.int k a) (.int k b) K w:=by
 refine jm (mM ..) ?_ h;simp[binOp,Op.intArith,Sem.run_pure]
theorem kO (h:K (.int k (k.wrap (a-b))) w):bin P .sub t cx cy (.int k a) (.int k b) K w:=by
 refine jm (mM ..) ?_ h;simp[binOp,Op.intArith,Sem.run_pure]
theorem SU (h:K (.int k (k.wrap (a*b))) w):bin P .mul t cx cy (.int k a) (.int k b) K w:=by
 refine jm (mM ..) ?_ h;simp[binOp,Op.intArith,Sem.run_pure]
theorem aW (j : -9223372036854775808≤a+b)(u:a+b≤9223372036854775807)(h:K (.int .i64 (a+b)) w):bin P .add t cx cy (.int .i64 a) (.int .i64 b) K w :=
 jS (by rw[eK j u];exact h)
theorem aP (h:K (.int .i64 (a+b)) w)(j : -9223372036854775808≤a+b:=by omega)(u:a+b≤9223372036854775807:=by omega):bin P .add t cx cy (.int .i64 a) (.int .i64 b) K w:=aW j u h
theorem bh (j : -9223372036854775808≤a-b)(u:a-b≤9223372036854775807)(h:K (.int .i64 (a-b)) w):bin P .sub t cx cy (.int .i64 a) (.int .i64 b) K w :=
 kO (by rw[eK j u];exact h)
theorem sP (h:K (.int .i64 (a-b)) w)(j : -9223372036854775808≤a-b:=by omega)(u:a-b≤9223372036854775807:=by omega):bin P .sub t cx cy (.int .i64 a) (.int .i64 b) K w:=bh j u h
theorem DI (j : -9223372036854775808≤a*b)(u:a*b≤9223372036854775807)(h:K (.int .i64 (a*b)) w):bin P .mul t cx cy (.int .i64 a) (.int .i64 b) K w :=
 SU (by rw[eK j u];exact h)
theorem Cq (j:b≠0)(h:K (.int k (a.tmod b)) w):bin P .rem t cx cy (.int k a) (.int k b) K w:=by
 refine jm (mM ..) ?_ h;simp[binOp,Op.intDiv,Sem.run_pure,j]
theorem SV (j:b≠0)(h:K (.int k (k.wrap (a.tdiv b))) w):bin P .quo t cx cy (.int k a) (.int k b) K w:=by
 refine jm (mM ..) ?_ h;simp[binOp,Op.intDiv,Sem.run_pure,j]
theorem xX (j:0≤a)(u:0<b)(h:K (.int k (a%b)) w):bin P .rem t cx cy (.int k a) (.int k b) K w :=
 Cq (by omega) (by rw[Int.tmod_eq_emod_of_nonneg j];exact h)
theorem IX (j:0≤a)(u:a≤9223372036854775807)(C:0<b)(h:K (.int .i64 (a / b)) w):bin P .quo t cx cy (.int .i64 a) (.int .i64 b) K w :=
 SV (by omega) (by
  rw[Int.tdiv_eq_ediv_of_nonneg j,eK (Int.le_trans (by omega) (Int.ediv_nonneg j (by omega))) (Int.le_trans (Int.ediv_le_self b j) u)];exact h)
theorem Cg (j:0≤b)(h:K (.int k (k.wrap (a*2 ^ (min b.toNat k.bits)))) w):bin P .shl t cx cy (.int k a) (.int W3 b) K w:=by
 refine jm (mM ..) ?_ h
 have : ¬b<0:=by omega
 simp[binOp,Op.shift,Sem.run_pure,this]
theorem Np (j:0≤b)(h:K (.int k (a.fdiv (2 ^ (min b.toNat k.bits)))) w):bin P .shr t cx cy (.int k a) (.int W3 b) K w:=by
 refine jm (mM ..) ?_ h
 have : ¬b<0:=by omega
 simp[binOp,Op.shift,Sem.run_pure,this]
def ub (op:BinOp)(k:IntKind)(x y:Int):Int :=
 let a:=BitVec.ofInt k.bits x
 let b:=BitVec.ofInt k.bits y
 match op with
 | .and=>k.wrap (a &&& b).toNat
 | .or=>k.wrap (a ||| b).toNat
 | .xor=>k.wrap (a ^^^ b).toNat
 | _=>k.wrap (a &&& ~~~b).toNat
theorem ST (h:K (.int k (ub .and k a b)) w):bin P .and t cx cy (.int k a) (.int k b) K w:=by
 refine jm (mM ..) ?_ h;simp[binOp,Op.intBits,Sem.run_pure,ub]
theorem UD (h:K (.int k (ub .or k a b)) w):bin P .or t cx cy (.int k a) (.int k b) K w:=by
 refine jm (mM ..) ?_ h;simp[binOp,Op.intBits,Sem.run_pure,ub]
theorem Jo (h:K (.int k (ub .xor k a b)) w):bin P .xor t cx cy (.int k a) (.int k b) K w:=by
 refine jm (mM ..) ?_ h;simp[binOp,Op.intBits,Sem.run_pure,ub]
theorem dB {x:Bool}(h:K (.bool (!x)) w):un P .not (.bool x) K w:=by
 unfold un;exact gZ (by simp[Op.unary,Sem.run_pure]) h
theorem tO {p:Prop}[Decidable p](h:K (.bool (decide (¬p))) w):un P .not (.bool (decide p)) K w :=
 dB (by rw[←decide_not];exact h)
theorem dS {s d:TypeId}{j:TypeDesc}(C:P.underlying s=some j)(u:P.underlying d=some (.int W3))(h:K (.int W3 (W3.wrap a)) w):conv P s d (.int k a) K w:=by
 unfold conv
 refine gZ (w':=w) ?_ h;cases j<;>simp[convert,run_underlying C,run_underlying u,Conv.intToInt,Sem.run_pure]
theorem sv {vs:Array Value}{v:Value}(j:vs[i]? = some v)(h:K v w):ext P (.tuple vs) i K w:=by
 unfold ext;exact gZ (by simp[Instr.extract,j,Sem.run_pure]) h
theorem cZ {a b:Value}(h:K a w):ext P (.tuple #[a,b]) 0 K w:=sv rfl h
theorem db {a b:Value}(h:K b w):ext P (.tuple #[a,b]) 1 K w:=sv rfl h
theorem bO {x y:Value}{p:Prop}[Decidable p](j:p)(h:K x w):pick (.bool (decide p)) x y K w:=⟨_,rfl,by simp[j,h]⟩
theorem bw {x y:Value}{p:Prop}[Decidable p](j : ¬p)(h:K y w):pick (.bool (decide p)) x y K w:=⟨_,rfl,by simp[j,h]⟩
theorem bX {x y:Value}(h:K x w):pick (.bool true) x y K w:=⟨_,rfl,h⟩
theorem dA {x y:Value}(h:K y w):pick (.bool false) x y K w:=⟨_,rfl,h⟩
theorem EA {p:Prop}[Decidable p]{A B:Prop}(j:p→A)(u : ¬p→B):cond (.bool (decide p)) A B:=⟨_,rfl,fun h=>j (by simpa using h),fun h=>u (by simpa using h)⟩
theorem ax {p:Prop}[Decidable p]{A B:Prop}(u:p)(h:A):cond (.bool (decide p)) A B:=⟨_,rfl,fun _=>h,fun j=>absurd u (by simpa using j)⟩
theorem aq {p:Prop}[Decidable p]{A B:Prop}(u : ¬p)(h:B):cond (.bool (decide p)) A B:=⟨_,rfl,fun j=>absurd (by simpa using j) u,fun _=>h⟩
theorem cOt {p:Prop}[Decidable p]{A B:Prop}(h:A)(j:p:=by omega):cond (.bool (decide p)) A B:=ax j h
theorem cOf {p:Prop}[Decidable p]{A B:Prop}(h:B)(j : ¬p:=by omega):cond (.bool (decide p)) A B:=aq j h
theorem bu {A B:Prop}(h:A):cond (.bool true) A B:=⟨_,rfl,fun _=>h,(fun j=>by cases j)⟩
theorem aO {A B:Prop}(h:B):cond (.bool false) A B:=⟨_,rfl,(fun j=>by cases j),fun _=>h⟩
theorem aH {s:KV→World→Prop}{k:KV}{v:Value}(h:∀K:KV,K v w→s K w)(j:k v w):sti s k w:=⟨v,h _ ⟨rfl,rfl⟩,j⟩
variable {A B:(List Value→World→Prop)→Prop}{KL:List Value→World→Prop}
theorem IB {v:Value}(u:v=.bool cx)(h:A KL):aI v cx A B KL:=⟨fun _=>h,fun j=>absurd (by rw[u];rfl) j⟩
theorem Cm {v:Value}(u:asB v≠some cx)(h:B KL):aI v cx A B KL:=⟨fun j=>absurd j u,fun _=>h⟩
theorem dD {p:Prop}[Decidable p](j:p)(h:A KL):aI (.bool (decide p)) true A B KL:=IB (by simp[j]) h
theorem dY {p:Prop}[Decidable p](j : ¬p)(h:B KL):aI (.bool (decide p)) true A B KL:=Cm (by simp[asB,j]) h
theorem jy {p:Prop}[Decidable p](j:p)(h:B KL):aI (.bool (decide p)) false A B KL:=Cm (by simp[asB,j]) h
theorem dX {p:Prop}[Decidable p](j : ¬p)(h:A KL):aI (.bool (decide p)) false A B KL:=IB (by simp[j]) h
theorem kS (h:A KL):aI (.bool true) true A B KL:=IB rfl h
theorem fV (h:B KL):aI (.bool true) false A B KL:=Cm (by simp[asB]) h
theorem lR (h:A KL):aI (.bool false) false A B KL:=IB rfl h
theorem mE (h:B KL):aI (.bool false) true A B KL:=Cm (by simp[asB]) h
theorem aj {f:FuncId}{args:Array Value}(j:EO P f)(h:Gives P f args w K):call P f args K w:=⟨j,h⟩
theorem qv {u:Builtin}{j:Array TypeId}{cs:Array Bool}{args:Array Value}{v:Value}(C:(builtin u j E cs args).run P w=.ok (.value v) w')(h:K v w'):blt P u j E cs args K w:=by
 unfold blt;rw[C];exact h
theorem bj {e ty : TypeId} {cs : Array Bool} {av : Option Addr} {n c : Nat} (ht : P.underlying t = some (.slice e)) (h : K (.int .i64 (n : Int)) w) : blt P .len #[t] ty cs #[.slice av n c] K w :=
  qv (by rw [BigFrame.builtin_len]; simp [Builtin.len_, run_underlying ht, Sem.run_pure, goInt]) h
theorem NE (M:P.underlying t=some (.slice e))(J:∀w,(sizeOf e).run P w=.ok 1 w)(u:0≤x)(C:x<n)(j:0<n→∃b o,av=some ⟨b,o,none⟩)(h:K (.pointer (some (vL av x.toNat))) w):aV P t (.slice av n c) (.int k x) K w:=by
 obtain⟨b,o,rfl⟩:=j (by omega);have I:((⟨b,o,none⟩:Addr).add x.toNat)=⟨b,o+x.toNat,none⟩:=by unfold Addr.add;split<;>simp_all
 unfold aV;refine gZ (w':=w) ?_ h;simp only[Instr.indexAt,asIntOf,Sem.run_bind,Sem.run_pure,Result.andThen_ok,run_underlying M,J,u,C,and_self,if_true,Nat.mul_one,I];rfl
theorem IG {j:Addr}{v:Value}(u:(loadVar t j).run P w=.ok v w)(h:K v w):ld P t (.pointer (some j)) K w:=by
 unfold ld;exact gZ (by simp only[Instr.loadAt,Instr.sureAddr,Sem.run_bind,Sem.run_pure,Result.andThen_ok,u]) h
theorem FV {j:Addr}{v:Value}(u:∀w,(isAgg t).run P w=.ok false w)(C:w.cell? j=some v)(h:K v w):ld P t (.pointer (some j)) K w:=by
 refine IG ?_ h;simp[loadVar,Sem.run_bind,u,load,C,Sem.run]
theorem Sk {ad:Addr}{v u:Value}(M:∀w,(sizeOf t).run P w=.ok 1 w)(U:v.oneCell'=true)(j:v.cells=#[v])(I:w.cell? ad=some u)(J:w.frozen? ad=false)(O:ad.spot=none)(h:K undef (w.setCell ad v)):sto P t (.pointer (some ad)) v K w:=by
 unfold sto;have C:ad.add 0=ad:=rfl;refine IS (w':=w.setCell ad v) (u:=()) ?_ h;simp[Instr.storeAt,Instr.sureAddr,storeVar,Sem.run_bind,M,j,storeCells,store,C,I,J];cases v<;>simp_all [Value.oneCell',Sem.run]
end
def blk (w:World)(b:Nat)(E:TypeId)(cs:List Value):Prop:=w.heap[b]? = some (.cells cs.toArray E (0,0))
theorem blk.lt (h:blk w b E cs):b<w.heap.size:=(Array.getElem?_eq_some_iff.1 h).1
theorem blk.ne (h:blk w b E cs)(j:blk w n t ys)(u:E≠t):b≠n:=by
 rintro rfl;unfold blk at *;rw[h]at j;simp only[Option.some.injEq,Obj.cells.injEq]at j;exact u j.2.1
theorem blk.cell (h:blk w b E cs)(o:Nat):w.cell? ⟨b,o,none⟩=cs[o]? := by
 unfold World.cell?;rw[h];simp
theorem blk.frozen (h:blk w b E cs)(o:Nat):w.frozen? ⟨b,o,none⟩=false:=by
 unfold World.frozen?;rw[h];simp
structure Keep (T:List TypeId) (B:Nat) (w w':World):Prop where
 os:w'.os=w.os
 tape:w'.tape=w.tape
 output:w'.output=w.output
 size:w.heap.size≤w'.heap.size
 block:∀(k:Nat) (o:Obj),w.heap[k]? = some o→(k<B∨∀cs E z,o=.cells cs E z→E∉T)→w'.heap[k]? = some o
theorem ac (h:Below B w w')(u:blk w b E cs)(j:b<B):blk w' b E cs:=by
 unfold Go.Proofs.YtkbhfjljieopoaaGreatDoor.blk;rw[h.block b j];exact u
theorem blk.drew (h:blk w b E cs):blk w.drew b E cs:=h
structure Oth (b:Nat) (w w':World):Prop where
 os:w'.os=w.os
 tape:w'.tape=w.tape
 output:w'.output=w.output
 size:w'.heap.size=w.heap.size
 other:∀k,k≠b→w'.heap[k]? = w.heap[k]?
theorem Oth.blk (h:Oth b w w')(j:blk w k E cs)(u:k≠b):blk w' k E cs:=by
 unfold Go.Proofs.YtkbhfjljieopoaaGreatDoor.blk;rw[h.other k u];exact j
section
variable {P:Program}{K:KV}{w:World}{t:TypeId}{b o:Nat}{E:TypeId}{cs:List Value}
theorem Bq (b o j:Nat):(⟨b,o,none⟩:Addr).add j=⟨b,o+j,none⟩:=Addr.add_mid b o j
theorem ai {a:Addr}(h:K (.pointer (some a)) w):aU (.pointer (some a)) K w:=h
theorem ld1 {v:Value}(j:∀w,(isAgg t).run P w=.ok false w)(u:blk w b E cs)(C:cs[o]? = some v)(h:K v w):ld P t (.pointer (some ⟨b,o,none⟩)) K w :=
 FV j (by rw[u.cell,C]) h
theorem ivS {k : Nat} : Value.int .i64 ((k : Int) + 1) = .int .i64 ((k + 1 : Nat) : Int) := congrArg (Value.int .i64) (by push_cast; rfl)
theorem lK {v:Value}(u:blk w b E cs)(C:cs[o]? = some v)(h:K v w)(j:∀w,(isAgg t).run P w=.ok false w:=by intro _;kernel_rfl):ld P t (.pointer (some ⟨b,o,none⟩)) K w:=ld1 j u C h
theorem ldA {vs:List Value}{d:TypeDesc}(O:P.underlying t=some d)(I:d.isRow=true)(hi:(P.info? t).map (·.size)=some n)(C:blk w b E cs)(U:(cs.drop o).take n=vs)(M:vs.length=n)(h:K (.agg vs.toArray) w):ld P t (.pointer (some ⟨b,o,none⟩)) K w:=by
 refine IG (run_loadVar_mid w b o t vs d ?_ O I (by rw[M];exact hi)) h;intro j v u;rw[C.cell];subst U;have J:=(List.getElem?_eq_some_iff.1 u).1;rw[List.getElem?_take]at u;split at u
 ·rw[List.getElem?_drop]at u;exact u
 ·cases u
theorem eB {v:Value}(O:∀w,(sizeOf t).run P w=.ok 1 w)(j:blk w b E cs)(M:o<cs.length)(C:v.oneCell'=true)(h:∀w',blk w' b E (cs.set o v)→Oth b w w'→K undef w'):sto P t (.pointer (some ⟨b,o,none⟩)) v K w:=by
 have I:w.cell? ⟨b,o,none⟩=some cs[o]:=by rw[j.cell,List.getElem?_eq_getElem M]
 have u:v.cells=#[v]:=by cases v<;>first|rfl|simp[Value.oneCell']at C
 refine Sk O C u I (j.frozen o) rfl (h _ ?_ ⟨rfl,rfl,rfl,by simp[World.setCell],fun k J=>Below.heap_setCell _ _ _ _ J⟩);unfold blk at *;simp only[World.setCell,Array.getElem?_modify];rw[if_pos trivial,j];simp
theorem JX (b:Nat):∀(vs:List Value) (o:Nat) (w:World),Oth b w (w.setCells b o vs):=by
 intro vs
 induction vs with
 | nil=>intro o w;exact⟨rfl,rfl,rfl,rfl,fun _ _=>rfl⟩
 | cons v vs ih =>
  intro o w;have h:=ih (o+1) (w.setCell ⟨b,o,none⟩ v);rw[World.setCells];exact⟨h.os,h.tape,h.output,by rw[h.size];simp[World.setCell],fun k j=>(h.other k j).trans (Below.heap_setCell _ _ _ _ j)⟩
theorem MH :∀(vs:List Value) (o:Nat) (w:World) (cs:List Value),blk w b E cs→o+vs.length≤cs.length→blk (w.setCells b o vs) b E (cs.take o++vs++cs.drop (o+vs.length)):=by
 intro vs
 induction vs with
 | nil=>intro o w cs h u;rw[World.setCells];simpa using h
 | cons v vs ih =>
  intro o w cs h u;rw[World.setCells];simp only[List.length_cons]at u;have I:blk (w.setCell ⟨b,o,none⟩ v) b E (cs.set o v):=by
   unfold blk at *;simp only[World.setCell,Array.getElem?_modify];rw[if_pos trivial,h];simp
  have j:=ih (o+1) _ _ I (by simp;omega)
  have:(cs.set o v).take (o+1)++vs++(cs.set o v).drop (o+1+vs.length)=cs.take o++(v::vs)++cs.drop (o+(vs.length+1)):=by
   have e:cs.set o v=cs.take o++v::cs.drop (o+1):=by rw[List.set_eq_take_append_cons_drop,if_pos (by omega)]
   have C:(cs.take o).length=o:=by rw[List.length_take];omega
   rw[e,List.take_append,List.drop_append,C,List.take_take,List.drop_take];simp only[show min (o+1) o=o by omega,show o+1-o=1 by omega,List.take_succ_cons,List.take_zero,show o-(o+1+vs.length)=0 by omega,List.nil_append,show o+1+vs.length-o=vs.length+1 by omega,List.drop_succ_cons,List.drop_drop,
    show o+1+vs.length=o+(vs.length+1)by omega,List.append_assoc,List.cons_append,List.take_zero,show o-(o+(vs.length+1))=0 by omega,show o+(vs.length+1)-o=vs.length+1 by omega,List.nil_append,List.drop_succ_cons,List.drop_drop,
    show o+1+vs.length=o+(vs.length+1)by omega]
  rw[this]at j;exact j
theorem jP {vs:List Value}(hi:(P.info? t).map (·.size)=some n)(J:vs.length=n)(u:blk w b E cs)(M:o+n≤cs.length)(C:∀v∈vs,v.oneCell'=true)(h:∀w',blk w' b E (cs.take o++vs++cs.drop (o+n))→Oth b w w'→K undef w'):sto P t (.pointer (some ⟨b,o,none⟩)) (.agg vs.toArray) K w:=by
 subst J;have O:=run_storeAt_mid (P:=P) w b o t vs.toArray (fun j I=>⟨by
  rw[u.cell,List.getElem?_eq_getElem (by simp at I;omega)];rfl,u.frozen _⟩) (by simpa using hi) (by simpa using C)
 unfold sto;exact IS O (h _ (by simpa using MH vs o w cs u M) (by simpa using JX b vs o w))
theorem cv {v:Value}(h:∀w',blk w' w.heap.size t v.cells.toList→Below w.heap.size w w'→w'.heap.size=w.heap.size+1→K (.pointer (some ⟨w.heap.size,0,none⟩)) w'):box P t v K w:=by
 unfold box;refine gZ (w':=w.alloc (.cells v.cells t)) (v:=.pointer (some ⟨w.heap.size,0,none⟩)) ?_ (h _ ?_ (dW (World.grownBy_alloc _ _ none) (Nat.le_refl _) (fun k j=>by cases j)) (by simp))
 ·simp[Instr.box,newVar,newRow]
 ·unfold blk;rw[heap_alloc_new]
theorem dZ {z:Value}(j:(P.info? t).bind (·.zero)=some z)(h:∀w',blk w' w.heap.size t z.cells.toList→Below w.heap.size w w'→w'.heap.size=w.heap.size+1→K (.pointer (some ⟨w.heap.size,0,none⟩)) w'):alc P t K w:=by
 obtain⟨i,hi,j⟩:=Option.bind_eq_some_iff.1 j;unfold alc;refine gZ (w':=w.alloc (.cells z.cells t)) (v:=.pointer (some ⟨w.heap.size,0,none⟩)) ?_ (h _ ?_ (dW (World.grownBy_alloc _ _ none) (Nat.le_refl _) (fun k u=>by cases u)) (by simp))
 ·simp[Instr.alloc,zeroValue,typeInfo,hi,j,newVar,newRow]
 ·unfold blk;rw[heap_alloc_new]
theorem eT {ps:Array (Nat×Value)}{vs:List Value}(j:P.built t ps.toList=some vs.toArray)(h:K (.agg vs.toArray) w):bld P t ps K w:=by
 unfold bld;exact gZ (run_build w t ps _ j) h
def Rg (P:Program)(s:TypeId)(f:Nat):Option Nat :=
 match P.underlying s with
 | some (.struct fs) =>
  match fs[f]? with
  | some fd=>match P.info? fd.type with
   | some i=>match Nat.beq i.size 0 with|true=>none|false=>some fd.offset
   | none=>none
  | none=>none
 | _=>none
theorem aK {off:Nat}(j:Rg P t f=some off)(h:K (.pointer (some ⟨b,o+off,none⟩)) w):aT P t (.pointer (some ⟨b,o,none⟩)) f K w:=by
 unfold Rg at j;split at j
 ·rename_i fs O;split at j
  ·rename_i J C;split at j
   ·rename_i i hi;split at j
    ·cases j
    ·rename_i I;cases j;have M:(sizeOf J.type).run P w=.ok i.size w:=by simp[sizeOf,typeInfo,hi]
     have u:¬i.size=0:=fun e=>by rw[e]at I;exact absurd I (by decide)
     unfold aT;refine gZ (w':=w) ?_ h;simp only[Instr.fieldAt,Sem.run_bind,run_underlying O,Result.andThen_ok,C,Instr.sureAddr,Sem.run_pure,fieldPlace,M,u,if_false,Bq]
   ·cases j
  ·cases j
 ·cases j
def Gc (P:Program)(s:TypeId)(f:Nat):Option (Nat×Nat×Bool) :=
 match P.underlying s with
 | some (.struct fs) =>
  match fs[f]? with
  | some fd=>match P.info? fd.type,P.underlying fd.type with
   | some i,some d=>some (fd.offset,i.size,d.isRow)
   | _,_=>none
  | none=>none
 | _=>none
theorem Kt {off:Nat}{vs:List Value}(j:Gc P t f=some (off,n,true))(U:(cs.drop off).take n=vs)(h:K (.agg vs.toArray) w):fld P t (.agg cs.toArray) f K w:=by
 unfold Gc at j;split at j
 ·rename_i fs O;split at j
  ·rename_i C u;split at j
   ·rename_i i d hi J;simp only[Option.some.injEq,Prod.mk.injEq]at j;obtain⟨rfl,rfl,hr⟩:=j;have I:(isAgg C.type).run P w=.ok true w:=by
     unfold isAgg;rw[Sem.run_bind,run_underlying J w];cases d<;>simp_all [TypeDesc.isRow]
    have M:(sizeOf C.type).run P w=.ok i.size w:=by simp[sizeOf,typeInfo,hi]
    unfold fld;refine gZ (w':=w) ?_ h;subst U;simp only[Instr.field,Sem.run_bind,run_underlying O,Result.andThen_ok,u,asAgg,Sem.run_pure,part,I,if_true,M]
    congr 3
    rw[List.extract_toArray];simp[List.extract_eq_take_drop]
   ·cases j
  ·cases j
 ·cases j
theorem eO {k:IntKind}{i:Int}(I:P.underlying t=some (.array n e))(C:∀w,(sizeOf e).run P w=.ok s w)(j:0≤i)(u:i<n)(h:K (.pointer (some ⟨b,o+i.toNat*s,none⟩)) w):aV P t (.pointer (some ⟨b,o,none⟩)) (.int k i) K w:=by
 unfold aV;refine gZ (w':=w) ?_ h;simp only[Instr.indexAt,asIntOf,Instr.sureAddr,Sem.run_bind,Sem.run_pure,Result.andThen_ok,run_underlying I,C,j,u,and_self,if_true,Bq]
theorem dJ {k:IntKind}{i:Int}(I:P.underlying t=some (.slice e))(C:∀w,(sizeOf e).run P w=.ok s w)(j:0≤i)(u:i<n)(h:K (.pointer (some ⟨b,o+i.toNat*s,none⟩)) w):aV P t (.slice (some ⟨b,o,none⟩) n c) (.int k i) K w:=by
 unfold aV;refine gZ (w':=w) ?_ h;simp only[Instr.indexAt,asIntOf,Instr.sureAddr,Sem.run_bind,Sem.run_pure,Result.andThen_ok,run_underlying I,C,j,u,and_self,if_true,Bq]
theorem iR {k:IntKind}{i:Int}(I:P.underlying t=some (.slice e))(h:K (.pointer (some ⟨b,o+i.toNat*s,none⟩)) w)(C:∀w,(sizeOf e).run P w=.ok s w:=by intro _;kernel_rfl)(j:0≤i:=by omega)(u:i<n:=by omega):aV P t (.slice (some ⟨b,o,none⟩) n c) (.int k i) K w:=dJ I C j u h
theorem Wn (C:P.underlying t=some (.slice e))(u:∀w,(sizeOf e).run P w=.ok s w){k:IntKind}(I:m≤c)(h:K (.slice av m c) w):slc P t (.slice av n c) none (some (.int k (m:Int))) none K w:=by
 have j:(Instr.sliceBounds true n c none (some (.int k (m:Int))) none).run P w=.ok (0,m,c) w:=by
  have:=run_sliceBound (P:=P) w k (m:Int) c .sliceAcap (by omega) (by omega)
  simp[Instr.sliceBounds]at this ⊢;rw[this];simp
 unfold slc;refine gZ (w':=w) ?_ h;simp only[Instr.sliceAt,Instr.slice,Sem.run_bind,Sem.run_pure,Result.andThen_ok,run_underlying C,u,j];cases av<;>simp[Addr.add]
theorem mY {ps:Array (Nat×Value)}(vs:List Value)(ht:P.underlying t=some (.slice e))(hi:(P.info? e).map (·.size)=some s)(hz:((P.info? e).bind (·.zero)).isSome=true)(hs:0<s)(hn:n=vs.length)(h0:vs.length≠0)(O:n*s≤16777216)(I:ps.toList=(vs.zipIdx 0).map fun x=>(x.2,x.1))(hv:∀v∈vs,v.cells.size=s)(h:∀w',blk w' w.heap.size e (vs.flatMap fun v=>v.cells.toList)→Below w.heap.size w w'→w'.heap.size=w.heap.size+1→K (.slice (some ⟨w.heap.size,0,none⟩) n n) w'):bT P t n ps K w:=by
 subst hn;obtain⟨u,C,J⟩:∃u,P.info? e=some u∧u.size=s:=by
  cases M:P.info? e with
  | none=>rw[M]at hi;cases hi
  | some u=>rw[M]at hi;exact⟨u,rfl,by simpa using hi⟩
 obtain⟨z,j⟩:=Option.isSome_iff_exists.1 hz;rw[C]at j;have j:u.zero=some z:=j;subst J;have U:=Go.Great.fill_whole hs vs ((Array.range (vs.length*u.size)).map (z.cells[· % z.cells.size]!)) hv (by simp);unfold bT
 refine gZ (run_buildSlice (P:=P) w t e vs.length ps _ u z ht C j (by omega) (by intro h;rcases Nat.mul_eq_zero.1 h with h|h<;>omega) (by rw[I];exact U)) (h _ ?_ (dW (World.grownBy_alloc _ _ none) (Nat.le_refl _) (fun k hk=>by cases hk)) (by simp));unfold blk;rw[heap_alloc_new]
theorem fM {f:FuncId}{j args cap all:Array Value}(u:j++args++cap=all)(h:call P f all K w):bY P (.func (.func f) j cap) args K w:=⟨f,j,cap,rfl,by rw[u];exact h⟩
theorem FK {ty:TypeId}{cs:Array Bool}{base:Nat}{i:TypeInfo}{z:Value}(ht:P.underlying t=some (.slice e))(hi:P.info? e=some i)(hz:i.zero=some z)(J:i.size=s)(aa:i.bytes=b)(al:z.cells.size=s)(ad:0<s){xs:List Value}(U:w.ownsRow base e s (.slice av n c) n xs){q:Nat}{zs:List Value}(hy:blk w g E zs)(af:ys.length=m*s)(ag:(zs.drop q).take (m*s)=ys)(h1:∀u∈ys,u.oneCell'=true)(C:(n+m)*b≤140737488355328)(an:n+m≤9223372036854775807)(I:base≤w.heap.size)(h:∀M c' w',w'.ownsRow base e s (.slice M (n+m) c') (n+m) (xs++ys)→w.grownBy w' (Value.slice av n c).ownBlock→K (.slice M (n+m) c') w'):blt P .append #[t,t] ty cs #[.slice av n c,.slice (some ⟨g,q,none⟩) m c2] K w:=by
  have hn:∀j u,ys[j]? = some u→w.cell? ((⟨g,q,none⟩:Addr).add j)=some u:=by
    intro j u O;rw[Bq,hy.cell];subst ag;rw[List.getElem?_take]at O;split at O
    · rw[List.getElem?_drop]at O;exact O
    · cases O
  obtain⟨v',w',hr,h2,h3,_⟩:=run_append_own (P:=P) w base t ty e i z s b ht hi hz J aa al ad _ n xs U ⟨g,q,none⟩ m c2 ys af hn h1 (by simp only[maxLen];omega) C I;obtain⟨M,c',rfl⟩:∃M c',v'=.slice M (n+m) c':=by
    rcases h2.2 with⟨hv,hn⟩|⟨g,cap,am,hv,_⟩
    · exact⟨none,0,by rw[hv,hn]⟩
    · exact⟨_,cap,hv⟩
  exact qv (by rw[BigFrame.builtin_append];simp only[Sem.run_bind,hr,Result.andThen_ok,Sem.run_pure]) (h M c' w' h2 h3)

/-! ## In a region that draws -/
theorem ab {S:World→Prop}{s:KV→World→Prop}{k:Value→Prop}{v:Value}(h:∀w,S w→∀K:KV,K v w→s K w)(j:k v):hld S s k:=⟨v,fun w u=>h w u _ ⟨rfl,rfl⟩,j⟩
theorem aw {b:(World→Prop)→World→Prop}(S:World→Prop)(j:S w)(h:b S w):aG b w:=⟨S,j,h⟩
end
theorem gE {v:Value}{S:World→Prop}{s:KV→World→Prop}{k:Value→Prop}{x:Value}(C:asB v=some cx)(h:∀w,S w→∀K:KV,K x w→s K w)(u:k x):hG v cx S s k :=
 ⟨x,fun _ w I=>h w I _ ⟨rfl,rfl⟩,fun j=>absurd C j,u⟩
theorem Ce {v:Value}{s:KV→World→Prop}(u:asB v=some cx)(h:s K w):xG v cx s K w:=⟨fun _=>h,fun j=>absurd u j⟩
theorem FL {p:Prop}[Decidable p](h:p):asB (.bool (decide p))=some true:=by show some (decide p)=some true;rw[decide_eq_true h]
theorem VK {p:Prop}[Decidable p](h : ¬p):asB (.bool (decide p))=some false:=by show some (decide p)=some false;rw[decide_eq_false h]
section
variable {P:Program}{K:KV}{w:World}{t:TypeId}
theorem SC {ats : Array TypeId} {ty : TypeId} {cs : Array Bool} {k k' : IntKind} {x y : Int} (h : K (.int k (if x < y then y else x)) w) : blt P .max ats ty cs #[.int k x, .int k' y] K w :=
  qv (v := .int k (if x < y then y else x)) (w' := w) (by rw [BigFrame.builtin_max]; simp [Builtin.max_, Builtin.max2, Sem.run_pure]) h
theorem Dl {ats : Array TypeId} {ty : TypeId} {cs : Array Bool} {k k' : IntKind} {x y : Int} (h : K (.int k (if y < x then y else x)) w) : blt P .min ats ty cs #[.int k x, .int k' y] K w :=
  qv (v := .int k (if y < x then y else x)) (w' := w) (by rw [BigFrame.builtin_min]; simp [Builtin.min_, Builtin.min2, Sem.run_pure]) h

end
section
variable {P:Program}{t:TypeId}{w:World}{K:KV}{cx cy:Bool}
end
end
section
open Go.RowKit Go.ChangeMaps Go.MapKept
structure zH (P:Program) (k:TypeId) {κ:Type} (kv:κ→Value):Prop where
 inj:∀x y,kv x=kv y→x=y
 chk:∀w em x,(Instr.checkKey em 10000 k (kv x)).run P w=.ok () w
 find:∀(w:World) x (es:List MapEntry),(∀e∈es,∃y,e.key=kv y) →
  ((Instr.findKey k (kv x) es).run P w=.ok none w∧∀e∈es,e.key≠kv x)∨∃j e,(Instr.findKey k (kv x) es).run P w=.ok (some (j,e.val)) w∧es[j]? = some e∧e.key=kv x
 stays:∀(w:World) x,(Instr.keyThatStays (kv x) (kv x)).run P w=.ok (kv x) w
section
variable {P:Program}{k:TypeId}
theorem LS {q:IntKind}(U:P.underlying k=some (.int q)):zH P k (Value.int q) where
 inj x y h:=by simpa using h
 chk w em x:=by
  show (Instr.checkKey em (9999+1) k _).run P w=_;rw[Instr.checkKey];simp[run_underlying U]
 stays w x:=by
  have:Instr.sameBits 10000 (.int q x) (.int q x)=true:=by unfold Instr.sameBits;simp
  unfold Instr.keyThatStays;rw[if_pos this,Sem.run_pure]
 find w x es hes:=by
  have ad:∀(es:List MapEntry) (i:Nat),(∀e∈es,∃y,e.key=Value.int q y)→(Instr.findNow (.int q) (.int q x) es i=some none∧∀e∈es,e.key≠.int q x)∨∃j e,Instr.findNow (.int q) (.int q x) es i=some (some (i+j,e.val))∧es[j]? = some e∧e.key=.int q x:=by
   intro es
   induction es with
   | nil=>intro i _;exact .inl ⟨rfl,by simp⟩
   | cons e es ih =>
    intro i hes;obtain⟨y,M⟩:=hes e (by simp);by_cases J:x=y
    ·subst J;exact .inr ⟨0,e,by simp[Instr.findNow,Instr.sameNow,M],rfl,M⟩
    ·have aa:e.key≠.int q x:=by rw[M];simpa using fun h=>J h.symm
     have hb:(x==y)=false:=by simpa using J
     rcases ih (i+1) (fun e' u => hes e' (by simp[u]))with⟨C,I⟩|⟨j,e',C,I,O⟩
     ·refine .inl ⟨by simp[Instr.findNow,Instr.sameNow,M,hb,C],fun e' u=>?_⟩;rcases List.mem_cons.1 u with rfl|u
      ·exact aa
      ·exact I e' u
     ·exact .inr ⟨j+1,e',by simp[Instr.findNow,Instr.sameNow,M,hb,C];omega,by simpa using I,O⟩
  rcases ad es 0 hes with⟨C,I⟩|⟨j,e,C,I,O⟩
  ·exact .inl ⟨by simp[Instr.findKey,run_underlying U,C],I⟩
  ·exact .inr ⟨j,e,by simp[Instr.findKey,run_underlying U,C],I,O⟩
theorem Lj {kv:α→Value}(fs:Array Field)(hk:P.underlying k=some (.struct fs))(J:∀x,∃cs,kv x=.agg cs)(inj:∀x y,kv x=kv y→x=y)(chk:∀w em x,(Instr.checkKey em 10000 k (kv x)).run P w=.ok () w)(eq:∀(w:World) x y,∃b:Bool,(Op.equal k (kv x) (kv y)).run P w=.ok b w∧(b=true↔kv x=kv y))(U:∀x,Instr.sameBits 10000 (kv x) (kv x)=true):zH P k kv where
 inj:=inj
 chk:=chk
 stays w x:=by unfold Instr.keyThatStays;rw[if_pos (U x),Sem.run_pure]
 find w x es hes:=by
  have af:∀(es:List MapEntry) (i:Nat),(∀e∈es,∃y,e.key=kv y)→((Instr.findAsking k (kv x) es i).run P w=.ok none w∧∀e∈es,e.key≠kv x)∨∃j e,(Instr.findAsking k (kv x) es i).run P w=.ok (some (i+j,e.val)) w∧es[j]? = some e∧e.key=kv x:=by
   intro es
   induction es with
   | nil=>intro i _;exact .inl ⟨by simp[Instr.findAsking],by simp⟩
   | cons e es ih =>
    intro i hes;obtain⟨y,O⟩:=hes e (by simp);obtain⟨b,hb,M⟩:=eq w x y;cases b with
    | true =>
     have:=M.1 rfl
     exact .inr ⟨0,e,by simp[Instr.findAsking,O,hb],rfl,by rw[O,this]⟩
    | false =>
     have ad:e.key≠kv x:=by rw[O];intro h;exact absurd (M.2 h.symm) (by simp)
     rcases ih (i+1) (fun e' u => hes e' (by simp[u]))with⟨C,I⟩|⟨j,e',C,I,h3⟩
     ·refine .inl ⟨by simp[Instr.findAsking,O,hb,C],fun e' u=>?_⟩;rcases List.mem_cons.1 u with rfl|u
      ·exact ad
      ·exact I e' u
     ·exact .inr ⟨j+1,e',by simp[Instr.findAsking,O,hb,C];omega,by simpa using I,h3⟩
  have aa:(Instr.findKey k (kv x) es).run P w=(Instr.findAsking k (kv x) es).run P w:=by
   obtain⟨cs,ag⟩:=J x;cases es with
   | nil=>simp[Instr.findKey,run_underlying hk,Instr.findNow,Instr.findAsking]
   | cons e es=>simp[Instr.findKey,run_underlying hk,Instr.findNow,Instr.sameNow]
  rw[aa];rcases af es 0 hes with⟨C,I⟩|⟨j,e,C,I,h3⟩
  ·exact .inl ⟨C,I⟩
  ·exact .inr ⟨j,e,by simpa using C,I,h3⟩
end
/-! ## Plain maps -/
section
variable {κ ν:Type}[DecidableEq κ]
def dP :List (κ×ν)→κ→Option ν
 | [],_=>none
 | p::m,x=>if p.1=x then some p.2 else dP m x
def qd :List (κ×ν)→κ→ν→List (κ×ν)
 | [],x,v=>[(x,v)]
 | p::m,x,v=>if p.1=x then (x,v)::m else p::qd m x v
theorem sQ {m:List (κ×ν)}{x:κ}:dP m x=none↔x∉m.map (·.1):=by
 induction m with
 | nil=>simp[dP]
 | cons p m ih =>
  by_cases h:p.1=x
  ·simp[dP,h]
  ·have : ¬x=p.1:=fun e=>h e.symm
   simp only[dP,h,if_false,ih,List.map_cons,List.mem_cons,this,false_or]
theorem uR {m:List (κ×ν)}{x:κ}{v:ν}(h:dP m x=some v):(x,v)∈m:=by
 induction m with
 | nil=>simp[dP]at h
 | cons p m ih =>
  by_cases j:p.1=x
  ·simp only[dP,j,if_true,Option.some.injEq]at h;subst h;subst j;simp
  ·simp only[dP,j,if_false]at h;exact List.mem_cons_of_mem _ (ih h)
theorem nN {m:List (κ×ν)}{x:κ}{v:ν}(j:(m.map (·.1)).Nodup)(h:(x,v)∈m):dP m x=some v:=by
 induction m with
 | nil=>simp at h
 | cons p m ih =>
  simp only[List.map_cons,List.nodup_cons]at j;rcases List.mem_cons.1 h with rfl|h
  ·simp[dP]
  ·have u : ¬p.1=x:=by
    rintro rfl;exact j.1 (List.mem_map.2 ⟨_,h,rfl⟩)
   simp only[dP,u,if_false];exact ih j.2 h
theorem PV {m:List (κ×ν)}{x:κ}{v:ν}:(qd m x v).map (·.1)=if x∈m.map (·.1)then m.map (·.1)else m.map (·.1)++[x]:=by
 induction m with
 | nil=>simp[qd]
 | cons p m ih =>
  by_cases h:p.1=x
  ·simp[qd,h]
  ·have j : ¬x=p.1:=fun e=>h e.symm;simp only[qd,h,if_false,List.map_cons,ih,List.mem_cons,j,false_or];split<;>simp
theorem vz {m:List (κ×ν)}{x:κ}{v:ν}(h:(m.map (·.1)).Nodup):((qd m x v).map (·.1)).Nodup:=by
 rw[PV];split
 ·exact h
 ·rename_i C;rw[List.nodup_append];refine⟨h,by simp,fun a u b j=>?_⟩;simp at j;subst j;rintro rfl;exact C u
theorem DH {m:List (κ×ν)}{x y:κ}{v:ν}:dP (qd m x v) y=if y=x then some v else dP m y:=by
 induction m with
 | nil =>
  by_cases h:y=x
  ·subst h;simp[qd,dP]
  ·have : ¬x=y:=fun e=>h e.symm
   simp[qd,dP,h,this]
 | cons p m ih =>
  by_cases h:p.1=x
  ·by_cases u:y=x
   ·subst u;simp[qd,dP,h]
   ·have C : ¬x=y:=fun e=>u e.symm;have I : ¬p.1=y:=by rw[h];exact C
    simp[qd,dP,h,u,C]
  ·by_cases j:p.1=y
   ·have u : ¬y=x:=fun e=>h (j.trans e);simp[qd,dP,h,j,u]
   ·simp[qd,dP,h,j,ih]
theorem Mh {m:List (κ×ν)}{x:κ}{v I:ν}(u:(m.map (·.1)).Nodup)(h:m[j]? = some (x,I)):qd m x v=m.set j (x,v):=by
 induction m generalizing j with
 | nil=>simp at h
 | cons p m ih =>
  simp only[List.map_cons,List.nodup_cons]at u;cases j with
  | zero=>simp at h;subst h;simp[qd]
  | succ j =>
   simp at h;have C : ¬p.1=x:=by
    rintro rfl;exact u.1 (List.mem_map.2 ⟨_,List.mem_of_getElem? h,rfl⟩)
   simp[qd,C,ih u.2 h]
end
/-! ## A map in memory -/
section
variable {κ ν:Type}
structure MBs (kv:κ→Value) (vv:ν→Value) (w:World) (b:Nat) (m:List (κ×ν)) (es:Array MapEntry) (clock:Nat):Prop where
 heap:w.heap[b]? = some (.map es clock)
 keys:es.toList.map (·.key)=m.map fun p=>kv p.1
 vals:es.toList.map (·.val)=m.map fun p=>vv p.2
 nodup:(m.map (·.1)).Nodup
 born:(es.toList.map (·.born)).Pairwise (· < ·)
 old:∀e∈es.toList,e.born<clock
def MB (kv:κ→Value)(vv:ν→Value)(w:World)(b:Nat)(m:List (κ×ν)):Prop:=∃es clock,MBs kv vv w b m es clock
variable {kv:κ→Value}{vv:ν→Value}{w w':World}{b:Nat}{m:List (κ×ν)}{es:Array MapEntry}{clock:Nat}
theorem MBs.len (h:MBs kv vv w b m es clock):es.size=m.length:=by
 have:=congrArg List.length h.keys
 simpa using this
theorem MBs.get (h:MBs kv vv w b m es clock){e:MapEntry}(I:es.toList[i]? = some e):∃p,m[i]? = some p∧e.key=kv p.1∧e.val=vv p.2:=by
 have j:=congrArg (fun l=>l[i]?) h.keys;have u:=congrArg (fun l=>l[i]?) h.vals;simp only[List.getElem?_map,I,Option.map_some]at j u;cases C:m[i]? with
 | none=>rw[C]at j;simp at j
 | some p =>
  rw[C]at j u;simp at j u;exact⟨p,rfl,j,u⟩
theorem MBs.keyed (h:MBs kv vv w b m es clock):∀e∈es.toList,∃y,e.key=kv y:=by
 intro e u;obtain⟨i,hi,rfl⟩:=List.getElem_of_mem u;obtain⟨p,_,j,_⟩:=h.get (List.getElem?_eq_getElem hi);exact⟨p.1,j⟩
theorem MB.lt (h:MB kv vv w b m):b<w.heap.size:=by
 obtain⟨es,c,h⟩:=h;exact(Array.getElem?_eq_some_iff.1 h.heap).1
theorem MB.kept (h:MB kv vv w b m)(j:w'.heap[b]? = w.heap[b]?):MB kv vv w' b m:=by
 obtain⟨es,c,h⟩:=h;exact⟨es,c,j.trans h.heap,h.keys,h.vals,h.nodup,h.born,h.old⟩
theorem MB.below (h:MB kv vv w b m)(j:Below w.heap.size w w'):MB kv vv w' b m:=h.kept (j.block b h.lt)
theorem MB.oth (h:MB kv vv w b m)(u:Oth g w w')(j:b≠g):MB kv vv w' b m:=h.kept (u.other b j)
variable {P:Program}{K:KV}{t k e:TypeId}
theorem qZ {r:Option Value}(C:P.underlying t=some (.map k e))(u:r=none)(kv:κ→Value)(vv:ν→Value)(h:∀w',MB kv vv w' w.heap.size ([]:List (κ×ν))→Below w.heap.size w w'→w'.heap.size=w.heap.size+1→K (.map (some w.heap.size)) w'):dE P t r K w:=by
 subst u;unfold dE;refine gZ (w':=w.alloc (.map #[] 0)) (v:=.map (some w.heap.size)) (by simp[Instr.makeMap]) (h _ ⟨#[],0,heap_alloc_new w _,rfl,rfl,by simp,by simp,by simp⟩ (dW (World.grownBy_alloc _ _ none) (Nat.le_refl _) (fun k j=>by cases j)) (by simp))
theorem RC {ty : TypeId} {cs : Array Bool} (ht : P.underlying t = some (.map k e)) (hm : MB kv vv w b m) (h : K (.int .i64 (m.length : Int)) w) : blt P .len #[t] ty cs #[.map (some b)] K w := by
  obtain ⟨es, c, hm⟩ := hm
  have hl := hm.len
  refine qv (v := .int .i64 (m.length : Int)) (w' := w) ?_ h
  rw [BigFrame.builtin_len]
  simp [Builtin.len_, run_underlying ht, MapKept.run_getObj_map hm.heap, Result.andThen, hl, goInt]
theorem yg {o:Obj}(h:w.heap[b]? = some (.map es clock)):Oth b w (setBlock w b o) :=
 ⟨rfl,rfl,rfl,by simp[setBlock],fun i hi=>heap_setBlock_other h o hi⟩
end
section
variable {κ ν:Type}[DecidableEq κ]{kv:κ→Value}{vv:ν→Value}{w w':World}{b:Nat}{m:List (κ×ν)}{es:Array MapEntry}{clock:Nat}
variable {P:Program}{K:KV}{t k e:TypeId}
theorem MBs.find {P:Program}{k:TypeId}(h:MBs kv vv w b m es clock)(K:zH P k kv)(x:κ):(dP m x=none∧(Instr.findKey k (kv x) es.toList).run P w=.ok none w∧∀e∈es.toList,e.key≠kv x) ∨
  ∃j e v,dP m x=some v∧(Instr.findKey k (kv x) es.toList).run P w=.ok (some (j,vv v)) w∧es.toList[j]? = some e∧e.key=kv x∧e.val=vv v∧m[j]? = some (x,v):=by
 rcases K.find w x es.toList h.keyed with⟨I,u⟩|⟨j,e,I,u,O⟩
 ·refine .inl ⟨sQ.2 fun J=>?_,I,u⟩;obtain⟨p,C,rfl⟩:=List.mem_map.1 J
  have:kv p.1∈es.toList.map (·.key):=by rw[h.keys];exact List.mem_map.2 ⟨p,C,rfl⟩
  obtain⟨e,he,hk⟩:=List.mem_map.1 this;exact u e he hk
 ·obtain⟨p,C,U,M⟩:=h.get u;have J:p.1=x:=K.inj _ _ (U.symm.trans O);obtain⟨px,pv⟩:=p;cases J;exact .inr ⟨j,e,pv,nN h.nodup (List.mem_of_getElem? C),by rw[←M];exact I,u,O,M,C⟩
theorem LZ {z0:ν}(KK:zH P k kv)(J:P.underlying t=some (.map k e))(M:∀w,(zeroValue e).run P w=.ok (vv z0) w)(u:MB kv vv w b m){x:κ}(h:K (vv ((dP m x).getD z0)) w):lkp P t (.map (some b)) (kv x) false K w:=by
 obtain⟨es,c,u⟩:=u;unfold lkp;rcases u.find KK x with⟨C,I,_⟩|⟨j,O,v,C,I,_⟩
 ·rw[C]at h;exact gZ (w':=w) (v:=vv z0) (by simp[Instr.lookup,run_underlying J,MapKept.run_getObj_map u.heap,KK.chk,I,M,Result.andThen]) h
 ·rw[C]at h;exact gZ (w':=w) (v:=vv v) (by simp[Instr.lookup,run_underlying J,MapKept.run_getObj_map u.heap,KK.chk,I,Result.andThen]) h
theorem BB {z0:ν}(KK:zH P k kv)(J:P.underlying t=some (.map k e))(M:∀w,(zeroValue e).run P w=.ok (vv z0) w)(u:MB kv vv w b m){x:κ}(h:K (.tuple #[vv ((dP m x).getD z0),.bool (dP m x).isSome]) w):lkp P t (.map (some b)) (kv x) true K w:=by
 obtain⟨es,c,u⟩:=u;unfold lkp;rcases u.find KK x with⟨C,I,_⟩|⟨j,O,v,C,I,_⟩
 ·rw[C]at h;exact gZ (w':=w) (by simp[Instr.lookup,run_underlying J,MapKept.run_getObj_map u.heap,KK.chk,I,M,Result.andThen]) h
 ·rw[C]at h;exact gZ (w':=w) (by simp[Instr.lookup,run_underlying J,MapKept.run_getObj_map u.heap,KK.chk,I,Result.andThen]) h
theorem rL (KK:zH P k kv)(ht:P.underlying t=some (.map k e))(C:MB kv vv w b m){x:κ}{v:ν}(h:∀w',MB kv vv w' b (qd m x v)→Oth b w w'→K undef w'):dO P t (.map (some b)) (kv x) (vv v) K w:=by
 obtain⟨es,c,C⟩:=C;unfold dO;rcases C.find KK x with⟨h0,M,h2⟩|⟨j,e0,v0,h0,M,h2,h3,h4,h5⟩
 ·refine IS (u:=()) (w':=setBlock w b (.map (es.push ⟨kv x,vv v,c⟩) (c+1))) (by simp[Instr.mapUpdate,run_underlying ht,MapKept.run_getObj_map C.heap,KK.chk,M,MapKept.run_setObj_map _ C.heap,Result.andThen,setBlock]) (h _ ?_ (yg C.heap));have hx:=sQ.1 h0;have U:qd m x v=m++[(x,v)]:=by
   clear h M h2 h0 C
   induction m with
   | nil=>rfl
   | cons p m ih =>
    simp only[List.map_cons,List.mem_cons,not_or]at hx;have hp : ¬p.1=x:=fun e=>hx.1 e.symm;simp[qd,hp,ih hx.2]
  rw[U];refine⟨_,_,heap_setBlock_same C.heap _,by simp[C.keys],by simp[C.vals],?_,?_,?_⟩
  ·rw[←U];exact vz C.nodup
  ·rw[Array.toList_push,List.map_append,List.pairwise_append];refine⟨C.born,by simp,fun a ha c' aa=>?_⟩;obtain⟨e1,I,rfl⟩:=List.mem_map.1 ha;simp at aa;subst aa;exact C.old e1 I
  ·intro e1 I;simp only[Array.toList_push,List.mem_append,List.mem_singleton]at I;rcases I with I|rfl
   ·exact Nat.lt_succ_of_lt (C.old e1 I)
   ·exact Nat.lt_succ_self c
 ·have hj:es[j]? = some e0:=by rw[←Array.getElem?_toList];exact h2
  have ag:=KK.stays w x;refine IS (u:=()) (w':=setBlock w b (.map (es.modify j fun e=>{e with key:=kv x,val:=vv v}) c)) (by simp[Instr.mapUpdate,run_underlying ht,MapKept.run_getObj_map C.heap,KK.chk,M,hj,h3,ag,MapKept.run_setObj_map _ C.heap,Result.andThen,setBlock]) (h _ ?_ (yg C.heap));rw[Mh C.nodup h5]
  have O:((es.modify j fun e=>{e with key:=kv x,val:=vv v}).toList.map (·.born))=es.toList.map (·.born):=by
   rw[Array.toList_modify];apply List.ext_getElem?;intro i;simp only[List.getElem?_map,List.getElem?_modify];cases hi:es.toList[i]? with
   | none=>simp
   | some e1=>by_cases J:j=i<;>simp[J]
  refine⟨_,c,heap_setBlock_same C.heap _,?_,?_,?_,by rw[O];exact C.born,?_⟩
  ·rw[Array.toList_modify];apply List.ext_getElem?;intro i;have M:=congrArg (fun l=>l[i]?) C.keys;simp only[List.getElem?_map,List.getElem?_modify,List.getElem?_set]at M ⊢;by_cases J:j=i
   ·subst J;rw[h2]at M ⊢
    have:=(List.getElem?_eq_some_iff.1 h5).1
    simp[this]
   ·simpa[J]using M
  ·rw[Array.toList_modify];apply List.ext_getElem?;intro i;have M:=congrArg (fun l=>l[i]?) C.vals;simp only[List.getElem?_map,List.getElem?_modify,List.getElem?_set]at M ⊢;by_cases J:j=i
   ·subst J;rw[h2]at M ⊢
    have:=(List.getElem?_eq_some_iff.1 h5).1
    simp[this]
   ·simpa[J]using M
  ·rw[←Mh C.nodup h5];exact vz C.nodup
  ·intro e1 I
   have:e1.born∈es.toList.map (·.born):=by rw[←O];exact List.mem_map.2 ⟨e1,I,rfl⟩
   obtain⟨e2,af,ad⟩:=List.mem_map.1 this;rw[←ad];exact C.old e2 af
end
theorem pS {κ:Type}[DecidableEq κ]:∀{l l':List κ},l.Nodup→(∀x∈l,x∈l')→l.length≤l'.length
 | [],_,_,_=>by simp
 | x::l,l',hn,hs=>by
  have j:x∈l':=hs x (by simp);simp only[List.nodup_cons]at hn
  have:=pS (l:=l) (l':=l'.erase x) hn.2 fun y u=>by
   have h:y≠x:=by rintro rfl;exact hn.1 u
   exact(List.mem_erase_of_ne h).2 (hs y (by simp[u]))
  rw[List.length_erase_of_mem j]at this;have C:=List.length_pos_of_mem j;simp only[List.length_cons];omega
section
variable {κ ν:Type}
variable {kv:κ→Value}{vv:ν→Value}{w w':World}{b r:Nat}{m:List (κ×ν)}{x:κ}{s:Nat}
def IT (kv:κ→Value)(vv:ν→Value)(w:World)(r b:Nat)(m:List (κ×ν))(done:List κ):Prop :=
 ∃es clock since seen c0,MBs kv vv w b m es clock∧w.heap[r]? = some (.mapIter (some b) since seen c0)∧(∀e∈es.toList,e.born<since)∧since≤c0∧since≤clock ∧
  (∀(i:Nat) (e:MapEntry) (p:κ×ν),es.toList[i]? = some e→m[i]? = some p→(seen.contains e.born=true↔p.1∈done))∧done.Nodup∧∀x∈done,x∈m.map (·.1)
variable {done:List κ}
theorem IT.kept (h:IT kv vv w r b m done)(J:w'.heap[b]? = w.heap[b]?)(M:w'.heap[r]? = w.heap[r]?):IT kv vv w' r b m done:=by
 obtain⟨es,c,j,C,c0,u,I,rest⟩:=h;exact⟨es,c,j,C,c0,⟨J.trans u.heap,u.keys,u.vals,u.nodup,u.born,u.old⟩,M.trans I,rest⟩
theorem IT.lt (h:IT kv vv w r b m done):r<w.heap.size∧b<w.heap.size:=by
 obtain⟨es,c,j,u,c0,C,I,_⟩:=h;exact⟨(Array.getElem?_eq_some_iff.1 I).1,(Array.getElem?_eq_some_iff.1 C.heap).1⟩
theorem IT.below (h:IT kv vv w r b m done)(j:Below w.heap.size w w'):IT kv vv w' r b m done:=h.kept (j.block b h.lt.2) (j.block r h.lt.1)
theorem IT.nodup (h:IT kv vv w r b m done):done.Nodup∧(m.map (·.1)).Nodup∧∀x∈done,x∈m.map (·.1):=by
 obtain⟨es,c,j,u,c0,C,_,_,_,_,_,I,J⟩:=h;exact⟨I,C.nodup,J⟩
def EN (kv:κ→Value)(vv:ν→Value)(w:World)(r b:Nat)(x:κ)(v:ν):Prop :=
 ∃(es:Array MapEntry) (clock since:Nat) (seen:Array Nat) (e:MapEntry),w.heap[b]? = some (.map es clock)∧w.heap[r]? = some (.mapIter (some b) since (seen.push e.born) clock)∧e∈es.toList∧(es.toList.map (·.born)).Nodup∧e.key=kv x∧e.val=vv v
variable {P:Program}{K:KV}{t k e:TypeId}
theorem Iu {x:κ}{v:ν}(h:EN kv vv w r b x v)(C:K (.tuple #[kv x,vv v]) w):ent P (.pointer (some ⟨r,0,none⟩)) K w:=by
 obtain⟨es,c,j,u,e,J,U,M,O,I,ev⟩:=h;unfold ent;rw[←I, ←ev]at C;exact gZ (run_entry_at (P:=P) w r b j u es c e U J M O) C
theorem Fx (J:P.underlying t=some (.map k e))(j:MB kv vv w b m)(h:∀w',IT kv vv w' w.heap.size b m []→Below w.heap.size w w'→w'.heap.size=w.heap.size+1→K (.pointer (some ⟨w.heap.size,0,none⟩)) w'):rng P t (.map (some b)) K w:=by
 have u:=j.lt;obtain⟨es,c,j⟩:=j;unfold rng;have C:Below w.heap.size w (w.alloc (.mapIter (some b) c #[] c)):=dW (World.grownBy_alloc _ _ none) (Nat.le_refl _) (fun k I=>by cases I)
 refine gZ (run_range_map w t k e b es c J j.heap) (h _ ⟨es,c,c,#[],c,⟨?_,j.keys,j.vals,j.nodup,j.born,j.old⟩,heap_alloc_new w _,j.old,Nat.le_refl _,Nat.le_refl _,fun i e p M O=>by simp,by simp,by simp⟩ C (by simp));rw[C.block b u];exact j.heap
def lC (w:World)(b r:Nat):Nat :=
 match w.heap[b]?,w.heap[r]? with
 | some (.map es _),some (.mapIter _ _ seen _)=>(leftOf es seen).size
 | _,_=>0
theorem tw {r:Nat}(h:w'.heap[b]? = w.heap[b]?)(j:w'.heap[r]? = w.heap[r]?):lC w' b r=lC w b r:=by unfold lC;rw[h,j]
theorem GG (hi:IT kv vv w r b m done)(h:Below w.heap.size w w'):lC w' b r=lC w b r:=tw (h.block b hi.lt.2) (h.block r hi.lt.1)
theorem Iy {α:Type}{p q:α→Bool}:∀{l:List α} {e:α},e∈l→p e=true→q e=false→(∀x,q x=true→p x=true)→(l.filter q).length<(l.filter p).length
 | a::l,e,C,hp,hq,hs=>by
  have le:∀l:List α,(l.filter q).length≤(l.filter p).length:=by
   intro l
   induction l with
   | nil=>simp
   | cons x l u =>
    by_cases h:q x=true
    ·rw[List.filter_cons_of_pos h,List.filter_cons_of_pos (hs x h)];simpa using u
    ·rw[List.filter_cons_of_neg h];by_cases j:p x=true
     ·rw[List.filter_cons_of_pos j];simp only[List.length_cons];omega
     ·rw[List.filter_cons_of_neg j];exact u
  rcases List.mem_cons.1 C with rfl|C
  ·rw[List.filter_cons_of_neg (by simp[hq]),List.filter_cons_of_pos hp]
   have:=le l
   simp only[List.length_cons];omega
  ·have u:=Iy C hp hq hs;by_cases h:q a=true
   ·rw[List.filter_cons_of_pos h,List.filter_cons_of_pos (hs a h)];simpa using u
   ·rw[List.filter_cons_of_neg h];by_cases j:p a=true
    ·rw[List.filter_cons_of_pos j];simp only[List.length_cons];omega
    ·rw[List.filter_cons_of_neg j];exact u
theorem Fl (hi:IT kv vv w r b m done)(an:r≠b)(h0:(∀x∈m.map (·.1),x∈done)→K (.tuple #[.bool false]) w)(h1:∀(x:κ) (v:ν) (w':World),(x,v)∈m→x∉done→IT kv vv w' r b m (done++[x])→EN kv vv w' r b x v→Oth r w w'→lC w' b r<lC w b r→K (.tuple #[.bool true,kv x,vv v]) w'):nxt P (.pointer (some ⟨r,0,none⟩)) false E K w:=by
 obtain⟨es,c,u,C,c0,J,hr,al,a7,az,ad,a3,aE⟩:=hi;unfold nxt;rcases run_next_at (P:=P) w E r b u c0 C es c hr J.heap al a7 with⟨hz,M⟩|⟨e1,ag,w1,af,M⟩
 ·refine gZ M (h0 fun x hx=>?_);obtain⟨p,hp,rfl⟩:=List.mem_map.1 hx;obtain⟨i,hi,rfl⟩:=List.getElem_of_mem hp;have a8:=J.len;have a0:i<es.toList.length:=by simp;omega
  refine(ad i es.toList[i] m[i] (List.getElem?_eq_getElem a0) (List.getElem?_eq_getElem hi)).1 ?_;have O:leftOf es C=#[]:=Array.eq_empty_of_size_eq_zero hz;unfold leftOf at O;rw[Array.filter_eq_empty_iff]at O
  have:=O es.toList[i] (by simp)
  simpa using this
 ·have I:e1∈es.toList∧C.contains e1.born=false:=by
   unfold leftOf at ag;simp at ag;exact⟨by simpa using ag.1,by simpa using ag.2⟩
  obtain⟨i,hi,rfl⟩:=List.getElem_of_mem I.1;obtain⟨p,hp,ek,ev⟩:=J.get (List.getElem?_eq_getElem hi);obtain⟨x,v⟩:=p;have aS:x∉done:=fun hx=>by
   have:=(ad i _ _ (List.getElem?_eq_getElem hi) hp).2 hx
   rw[this]at I;exact absurd I.2 (by simp)
  have ap:w1.heap[r]? = some (.mapIter (some b) u C c0):=by rcases af with rfl|rfl<;>exact hr
  have ho:Oth r w1 (setBlock w1 r (.mapIter (some b) u (C.push es.toList[i].born) c)):=by
   refine⟨rfl,rfl,rfl,by simp[setBlock],fun j hj=>?_⟩;simp only[setBlock];rw[Array.getElem?_setIfInBounds_ne (fun h=>hj h.symm)]
  rw[ek,ev]at M;refine gZ M (h1 x v _ (List.mem_of_getElem? hp) aS ⟨es,c,u,C.push es.toList[i].born,c,⟨?_,J.keys,J.vals,J.nodup,J.born,J.old⟩,?_,al,az,az,?_,?_,?_⟩ ⟨es,c,u,C,es.toList[i],?_,?_,List.getElem_mem hi,J.born.imp (fun h=>Nat.ne_of_lt h),ek,ev⟩ ?_ ?_)
  ·rw[ho.other b (fun h=>an h.symm)];rcases af with rfl|rfl<;>exact J.heap
  ·simp only[setBlock];rw[Array.getElem?_setIfInBounds_self_of_lt (Array.getElem?_eq_some_iff.1 ap).1]
  ·intro j e2 p2 ar av;have hj:=(List.getElem?_eq_some_iff.1 ar)
   have aa:=(List.getElem?_eq_some_iff.1 av)
   have U:=(List.getElem?_eq_some_iff.1 hp)
   have hb:=List.pairwise_iff_getElem.1 J.born;have hk:=List.pairwise_iff_getElem.1 J.nodup;have am:(e2.born=es.toList[i].born↔j=i)∧(p2.1=x↔j=i):=by
    rcases Nat.lt_trichotomy j i with h|h|h
    ·have a1:=hb j i (by simpa using hj.1) (by simpa using hi) h;have a2:=hk j i (by simpa using aa.1) (by simpa using U.1) h;simp only[List.getElem_map,hj.2,aa.2,U.2]at a1 a2;exact⟨⟨fun e=>by omega,fun e=>by omega⟩,⟨fun e=>absurd e a2,fun e=>by omega⟩⟩
    ·subst h;rw[←hj.2]
     have:p2=(x,v):=by rw[←aa.2, ←U.2]
     rw[this];simp
    ·have a1:=hb i j (by simpa using hi) (by simpa using hj.1) h;have a2:=hk i j (by simpa using U.1) (by simpa using aa.1) h;simp only[List.getElem_map,hj.2,aa.2,U.2]at a1 a2;exact⟨⟨fun e=>by omega,fun e=>by omega⟩,⟨fun e=>absurd e.symm a2,fun e=>by omega⟩⟩
   have a4:=ad j e2 p2 ar av;rw[List.mem_append,List.mem_singleton,am.2, ←am.1, ←a4];simp only[Array.contains_iff_mem,Array.mem_push]
  ·rw[List.nodup_append];refine⟨a3,by simp,fun a ha b hb=>?_⟩;simp at hb;subst hb;rintro rfl;exact aS ha
  ·intro y hy;rcases List.mem_append.1 hy with h|h
   ·exact aE y h
   ·simp at h;subst h;exact List.mem_map.2 ⟨_,List.mem_of_getElem? hp,rfl⟩
  ·rw[ho.other b (fun h=>an h.symm)];rcases af with rfl|rfl<;>exact J.heap
  ·simp only[setBlock];rw[Array.getElem?_setIfInBounds_self_of_lt (Array.getElem?_eq_some_iff.1 ap).1]
  ·rcases af with rfl|rfl
   ·exact ho
   ·exact⟨ho.os,ho.tape,ho.output,ho.size,ho.other⟩
  ·have e1:(setBlock w1 r (.mapIter (some b) u (C.push es.toList[i].born) c)).heap[b]? = some (.map es c):=by
    rw[ho.other b (fun h=>an h.symm)];rcases af with rfl|rfl<;>exact J.heap
   have e2:(setBlock w1 r (.mapIter (some b) u (C.push es.toList[i].born) c)).heap[r]? = some (.mapIter (some b) u (C.push es.toList[i].born) c):=by
    simp only[setBlock];rw[Array.getElem?_setIfInBounds_self_of_lt (Array.getElem?_eq_some_iff.1 ap).1]
   unfold lC;rw[e1,e2,J.heap,hr];simp only[leftOf];have hs:∀p:MapEntry→Bool,(es.filter p).size=(es.toList.filter p).length:=fun p=>by rw[←Array.toList_filter,Array.length_toList]
   rw[hs,hs];refine Iy I.1 (by simpa using I.2) (by simp) (fun x hx=>?_);simp only[Array.contains_push,Bool.not_or,Bool.and_eq_true]at hx;exact hx.1
end
section
variable {κ ν:Type}[DecidableEq κ]{kv:κ→Value}{vv:ν→Value}{w w':World}{b:Nat}{m:List (κ×ν)}{P:Program}{K:KV}{t k e:TypeId}
theorem uS {m:List (κ×ν)}{x:κ}(h:dP m x=none)(v:ν):qd m x v=m++[(x,v)]:=by
 induction m with
 | nil=>rfl
 | cons p m ih =>
  by_cases j:p.1=x
  ·simp[dP,j]at h
  ·simp only[dP,j,if_false]at h;simp[qd,j,ih h]
end
end
section
abbrev MXA :Int:=1125899906842624
def okA (x:Int):Bool:=decide (0≤x)&&decide (x≤MXA)
def mB (l:List Int):Int×Bool:=match l.all okA with|true=>(l.sum,true)|false=>(0,false)
def nA (A:List Int)(i:Nat):Int:=A.getD i 0
def re (A:List Int)(k j:Nat):List Int:=nA A (6+k)::(List.range j).map fun j=>nA A (18+6*k+j)
def inL (A:List Int)(k j:Nat):List Int:=nA A k::nA A (12+k)::(List.range j).map fun j=>nA A (18+6*j+k)
def pk (A:List Int)(k:Nat):Int×Bool:=((mB (inL A k 6)).1-(mB (re A k 6)).1,(mB (re A k 6)).2&&(mB (inL A k 6)).2)
theorem nu :okA x=true↔0≤x∧x≤MXA:=by simp[okA]
theorem DV :∀{l:List Int},l.all okA=true→0≤l.sum∧l.sum≤MXA*l.length
 | [],_=>by simp
 | x::l,h=>by
  rw[List.all_cons,Bool.and_eq_true]at h;have j:=nu.1 h.1;have u:=DV h.2;simp only[List.sum_cons,List.length_cons];simp only[MXA]at *;omega
def gL (A:List Int):List Int:=(List.range 6).map fun k=>nA A k
def yD (A:List Int):Bool :=
 (List.range 6).all (fun k=>(pk A k).2&&decide (0≤(pk A k).1)&&decide (nA A (12+k)≤nA A (6+k))&&decide (nA A (18+6*k+k)=0))&&((mB (gL A)).2&&decide ((mB (gL A)).1≤MXA))
def gS (A:List Int)(k:Nat):Int:=nA A k-nA A (6+k)+nA A (12+k)+((List.range 6).map fun j=>nA A (18+6*j+k)-nA A (18+6*k+j)).sum
def uU (A:List Int)(i:Nat):Bool:=okA (nA A i)&&okA (nA A (6+i))&&okA (nA A (12+i))&&decide (nA A (12+i)≤nA A (6+i))&&decide (nA A (18+6*i+i)=0)&&(List.range 6).all fun j=>okA (nA A (18+6*i+j))
def jj (A:List Int):Bool:=(List.range 6).all (uU A)&&(List.range 6).all (fun k=>decide (0≤gS A k))&&decide ((gL A).sum≤MXA)
def bK (i:Int):Bool:=decide (1≤i)&&decide (i≤6)
structure ND where
 id:Int
 par:Int
 A:List Int
 deriving DecidableEq
def qf (A:List Int)(i x:Int):Int:=if jj A=false∨x<1∨MXA<x then 1 else if bK i=false then 10 else 0
def z54 :List Int:=List.replicate 54 0
def rY (A:List Int)(q:Nat)(x:Int):List Int×Int:=if MXA<nA A q+x then (z54,6)else (A.set q (nA A q+x),0)
def iO (A:List Int)(i x:Int):List Int×Int:=if qf A i x≠0 then (z54,qf A i x)else if gS A (i-1).toNat<x then (z54,11)else rY A (6+(i-1).toNat) x
def iH (A:List Int)(i x:Int):List Int×Int:=if qf A i x≠0 then (z54,qf A i x)else if nA A (6+(i-1).toNat)-nA A (12+(i-1).toNat)<x then (z54,12)else (A.set (12+(i-1).toNat) (nA A (12+(i-1).toNat)+x),0)
def kQ (A:List Int)(i j x:Int):List Int×Int :=
 if qf A i x≠0 then (z54,qf A i x)else if bK j=false then (z54,10)else if i=j then (z54,1)else if gS A (i-1).toNat<x then (z54,11)else rY A (18+6*(i-1).toNat+(j-1).toNat) x
structure EV where
 o:Int
 s:Int
 d0:Int
 d1:Int
 d2:Int
 d3:Int
 d4:Int
 d5:Int
 k:Int
 n:Int
 t:Int
 a:Int
 r:Int
 f:Int
 deriving DecidableEq
def EV.V (e:EV):List Int:=[e.d0,e.d1,e.d2,e.d3,e.d4,e.d5]
def pn (e:EV):EV:={e with
 n:=if e.k=1∨e.k=2∨e.k=3∨e.k=5 then e.n else 0
 t:=if e.k=5∨e.k=6 then e.t else 0
 a:=if e.k=1∨e.k=2∨e.k=3∨e.k=5 then e.a else 0
 r:=if e.k=3∨e.k=4 then e.r else 0
 f:=if e.k=4 then e.f else 0}
def smE (e:EV):Bool:=decide (1≤e.a)&&decide (e.a≤1125899906842624)
def otE (e:EV):Bool:=bK e.t&&decide (e.t≠e.o)
def fdE (e:EV):Bool :=
 if e.k=1 then decide (0≤e.a)&&decide (e.a≤1125899906842624)
 else if e.k=2 then smE e
 else if e.k=3 then smE e&&decide (1≤e.r)
 else if e.k=4 then decide (1≤e.r)&&(decide (1≤e.f)&&decide (e.r≠e.f))
 else if e.k=5 then smE e&&otE e
 else if e.k=6 then otE e
 else decide (e.k=7)
def dK (e:EV):Bool:=bK e.o&&(decide (1≤e.s)&&(decide (e.s<1099511627776)&&(decide (e.V.getD (e.o-1).toNat 0=e.s-1)&&((List.range 6).all (fun k=>decide (e.V.getD k 0<1099511627776))&&(decide (e=pn e)&&fdE e)))))
def nH (V:List Int)(e:EV):Bool:=dK e&&decide (e.s≤V.getD (e.o-1).toNat 0)
def ey (V:List Int)(e:EV):Bool:=dK e&&(decide (e.s=V.getD (e.o-1).toNat 0+1)&&(List.range 6).all (fun k=>decide (e.V.getD k 0≤V.getD k 0)))
theorem gC {e:EV}(h:dK e=true):1≤e.o∧e.o≤6∧1≤e.s∧e.s<1099511627776:=by
 unfold dK at h;simp only[Bool.and_eq_true,decide_eq_true_eq,bK]at h;exact⟨h.1.1,h.1.2,h.2.1,h.2.2.1⟩
structure GR where
 o:Int
 q:Int
 n:Int
 a:Int
 b:Int
 deriving DecidableEq
/-! ## A new one is put among others -/
def fl (L:List α)(i:Nat)(z:α):List α:=L.take i++z::L.drop i
theorem ou {L:List α}{z:α}:(fl L i z).length=L.length+1:=by
 unfold fl;rw[List.length_append,List.length_cons,List.length_take,List.length_drop];omega
theorem sH {L:List α}{z x:α}:x∈fl L i z↔x=z∨x∈L:=by
 unfold fl;rw[List.mem_append,List.mem_cons];constructor
 ·rintro(h|h|h)
  ·exact .inr (List.mem_of_mem_take h)
  ·exact .inl h
  ·exact .inr (List.mem_of_mem_drop h)
 ·rintro(h|h)
  ·exact .inr (.inl h)
  ·have:x∈L.take i++L.drop i:=by rw[List.take_append_drop];exact h
   rcases List.mem_append.1 this with h|h
   ·exact .inl h
   ·exact .inr (.inr h)
/-! ## A tree: nodes (what it is, what it is below) -/
structure TK (L:List (Int×Int)) (rk:Int→Nat):Prop where
 low:∀x∈L,rk x.1<L.length
 nz:∀x∈L,x.1≠0
 up:∀x∈L,x.2=0∨∃y∈L,y.1=x.2∧rk y.1<rk x.1
def cr (L:List (Int×Int))(id:Int):Bool:=L.any fun x=>x.1==id
theorem jE {L:List (Int×Int)}{id:Int}:cr L id=true↔∃x∈L,x.1=id:=by simp[cr]
def upT (L:List (Int×Int))(rk:Int→Nat)(id:Int):Nat:=match cr L id with|true=>rk id+1|false=>0
theorem TK.nil :TK [] fun _=>0:=⟨by simp,by simp,by simp⟩
theorem AM {L:List (Int×Int)}{rk:Int→Nat}(h:TK L rk)(id:Int):upT L rk id≤L.length:=by
 unfold upT;cases j:cr L id with
 | false=>exact Nat.zero_le _
 | true =>
  obtain⟨x,u,rfl⟩:=jE.1 j;exact h.low x u
theorem uZ {L:List (Int×Int)}{rk:Int→Nat}(h:TK L rk){x:Int×Int}(j:x∈L):upT L rk x.2<upT L rk x.1:=by
 have C:cr L x.1=true:=jE.2 ⟨x,j,rfl⟩;unfold upT;rw[C];cases I:cr L x.2 with
 | false=>exact Nat.succ_pos _
 | true =>
  rcases h.up x j with e|⟨y,O,e,M⟩
  ·obtain⟨z,J,u⟩:=jE.1 I;exact absurd (u.trans e) (h.nz z J)
  ·show rk x.2+1<rk x.1+1;rw[←e];omega
theorem TK.add {L:List (Int×Int)}{rk:Int→Nat}(h:TK L rk){id par:Int}(O:id≠0)(hn:cr L id=false)(I:par=0∨cr L par=true)(i:Nat):TK (fl L i (id,par)) (fun k=>if k=id then L.length else rk k):=by
 have j:∀x∈L,x.1≠id:=fun x u e=>by
  have:=jE.2 ⟨x,u,e⟩
  rw[hn]at this;cases this
 refine⟨fun x u=>?_,fun x u=>?_,fun x u=>?_⟩
 ·rw[ou];rcases sH.1 u with e|e
  ·subst e;simp
  ·rw[if_neg (j x e)];have:=h.low x e;omega
 ·rcases sH.1 u with e|e
  ·subst e;exact O
  ·exact h.nz x e
 ·rcases sH.1 u with e|e
  ·subst e;rcases I with I|I
   ·exact .inl I
   ·obtain⟨y,C,M⟩:=jE.1 I;refine .inr ⟨y,sH.2 (.inr C),M,?_⟩;rw[if_neg (j y C)];simp only[if_true];exact h.low y C
  ·rcases h.up x e with J|⟨y,C,J,U⟩
   ·exact .inl J
   ·refine .inr ⟨y,sH.2 (.inr C),J,?_⟩;rw[if_neg (j y C),if_neg (j x e)];exact U
def zZ (T:List (Int×Int))(id:Int):Nat:=T.findIdx fun x=>x.1==id
def eE (T:List (Int×Int))(id:Int):Int:=(T.getD (zZ T id) (0,0)).2
def cB (T:List (Int×Int)):Nat→Int→List Int
 | 0,_=>[]
 | f+1,id=>if cr T id=true then id::cB T f (eE T id)else []
def dh (T:List (Int×Int))(id:Int):List Int:=cB T (T.length+1) id
def oG {α:Type}(f:α→Bool)(L:List α):Nat→Nat
 | 0=>0
 | k+1=>match L[k]? with
  | some x=>if f x=true then oG f L k else k+1
  | none=>k+1
def iX (T:List (Int×Int))(id par:Int):List (Int×Int)×Int :=
 if id=0 then (T,1)else if cr T id=true then (T,14)else if par≠0∧cr T par=false then (T,9)else if 32≤T.length∨4≤(dh T par).length then (T,6)
 else (fl T (oG (fun x=>decide (id<x.1)) T T.length) (id,par),0)
def vp (I L:List Bool)(k:Nat):List Int:=((List.range k).filter fun k=>I.getD k false && !L.getD k false).map fun k=>((k:Nat):Int)+1
structure PL where
 I:List Bool
 L:List Bool
 V:List Int
 N:List ND
 G:List GR
 R:List (List Int)
 deriving DecidableEq
abbrev M40 :Int:=1099511627776
abbrev M47 :Int:=140737488355328
def EV.q (e:EV):Nat:=(e.o-1).toNat
def idE (e:EV):Int:=e.o*M40+e.s
def tr (N:List ND):List (Int×Int):=N.map fun x=>(x.id,x.par)
def bU (N:List ND)(id:Int):Bool:=N.any fun x=>x.id==id
def di (N:List ND)(id:Int):List Int:=dh (tr N) id
def gP (N:List ND)(o:Int):Nat:=(N.filter fun x=>decide (x.id / M40=o)).length
def aN (N:List ND)(id:Int):List Int:=match N.find? fun x=>x.id==id with|some x=>x.A|none=>z54
def iQ (G:List GR)(o q:Int):Option GR:=G.find? fun g=>g.o==o&&g.q==q
def jB (R:List (List Int))(k:Nat)(r:Int):Bool:=(R.getD k []).contains r
def dN (x:ND):List ND→List ND
 | []=>[x]
 | y::l=>if x.id<y.id then x::y::l else y::dN x l
def ltG (x y:GR):Prop:=x.o<y.o∨x.o=y.o∧x.q<y.q
instance (x y:GR):Decidable (ltG x y):=inferInstanceAs (Decidable (_∨_))
def iS (x:GR):List GR→List GR
 | []=>[x]
 | y::l=>if ltG x y then x::y::l else y::iS x l
def dR (ids:List Int)(c:Nat)(x:Int)(y:ND):ND:=if ids.contains y.id=true then {y with A:=y.A.set c (nA y.A c+x)} else y
inductive NOp
 | ins (x:ND)
 | bmp (ids:List Int) (c:Nat) (x:Int)
 | non
def NOp.ap :NOp→List ND→List ND
 | .ins x,N=>dN x N
 | .bmp ids c x,N=>N.map (dR ids c x)
 | .non,N=>N
inductive GOp
 | ins (x:GR)
 | upd (o q b:Int)
 | non
def nD (o q b:Int)(g:GR):GR:=if g.o=o∧g.q=q then {g with b:=b} else g
def GOp.ap :GOp→List GR→List GR
 | .ins x,G=>iS x G
 | .upd o q b,G=>G.map (nD o q b)
 | .non,G=>G
def gOf (s:PL)(e:EV):GR:=(iQ s.G e.o e.f).getD ⟨0,0,0,0,0⟩
def nop (e:EV)(s:PL):NOp :=
 if e.k=1 then .ins ⟨idE e,e.n,z54.set e.q e.a⟩
 else if e.k=2 then .bmp [e.n] e.q e.a
 else if e.k=3 then .bmp (di s.N e.n) (6+e.q) e.a
 else if e.k=4 then .bmp (di s.N (gOf s e).n) (12+e.q) (gOf s e).a
 else if e.k=5 then .bmp [e.n] (18+6*e.q+(e.t-1).toNat) e.a
 else .non
def gop (e:EV):GOp :=
 if e.k=3 then .ins ⟨e.o,e.r,e.n,e.a,0⟩
 else if e.k=4 then .upd e.o e.f e.r
 else .non
def nO (e:EV)(I:List Bool):List Bool:=if e.k=6 then I.set (e.t-1).toNat true else I
def nP (e:EV)(L:List Bool):List Bool:=if e.k=7 then L.set e.q true else L
def kZ (e:EV)(R:List (List Int)):List (List Int):=if e.k=3∨e.k=4 then R.set e.q (R.getD e.q []++[e.r])else R
def ED (e:EV)(V:List Int):List Int:=V.set e.q (V.getD e.q 0+1)
def eff (e:EV)(s:PL):PL:=⟨nO e s.I,nP e s.L,ED e s.V,(nop e s).ap s.N,(gop e).ap s.G,kZ e s.R⟩
structure OK (e:EV) (s:PL):Prop where
 may:dK e=true
 rdy:ey s.V e=true
 inI:s.I.getD e.q false=true
 notL:s.L.getD e.q false=false
 k1:e.k=1→gP s.N e.o<5∧e.a≤M47∧(e.n=0∨bU s.N e.n=true)∧(di s.N e.n).length<4
 k2:e.k=2→bU s.N e.n=true∧nA (aN s.N e.n) e.q+e.a≤M47
 k3:e.k=3→jB s.R e.q e.r=false∧bU s.N e.n=true∧∀id∈di s.N e.n,e.a≤gS (aN s.N id) e.q∧nA (aN s.N id) (6+e.q)+e.a≤MXA
 k4:e.k=4→jB s.R e.q e.r=false∧∃g,iQ s.G e.o e.f=some g∧g.b=0∧∀id∈di s.N g.n,nA (aN s.N id) (12+e.q)+g.a≤nA (aN s.N id) (6+e.q)
 k5:e.k=5→bU s.N e.n=true∧s.I.getD (e.t-1).toNat false=true∧e.a≤gS (aN s.N e.n) e.q∧nA (aN s.N e.n) (18+6*e.q+(e.t-1).toNat)+e.a≤MXA
structure PI (s:PL):Prop where
 i6:s.I.length=6
 l6:s.L.length=6
 v6:s.V.length=6
 r6:s.R.length=6
 vb:∀k,k<6→0≤s.V.getD k 0∧s.V.getD k 0<M40
 A54:∀x∈s.N,x.A.length=54
 may:∀x∈s.N,jj x.A=true∧∀k,k<6→nA x.A k≤M47
 srt:s.N.Pairwise (·.id < ·.id)
 ids:∀x∈s.N,∃o q:Int,1≤o∧o≤6∧1≤q∧q<M40∧x.id=o*M40+q∧q≤s.V.getD (o-1).toNat 0
 own:∀o,gP s.N o≤5
 tk:∃rk,TK (tr s.N) rk
 dep:∀x∈s.N,(di s.N x.id).length≤4
 gs:s.G.Pairwise ltG
 gk:∀g∈s.G,bU s.N g.n=true∧1≤g.a∧g.a≤MXA∧1≤g.o∧g.o≤6∧1≤g.q∧jB s.R (g.o-1).toNat g.q=true
def pl0 (n:Nat):PL:=⟨(List.range 6).map fun k=>decide (k<n),List.replicate 6 false,List.replicate 6 0,[],[],List.replicate 6 []⟩
/-! ## Rights -/
def dlt (c:Nat)(x:Int)(j:Nat):Int:=if j=c then x else 0
theorem iY (h:j≠c):dlt c x j=0:=by unfold dlt;rw[if_neg h]
theorem kD :dlt c x c=x:=by unfold dlt;rw[if_pos rfl]
theorem jM (h:0≤x):0≤dlt c x j:=by unfold dlt;split<;>omega
theorem nT {A:List Int}(C:c<A.length)(j:Nat):nA (A.set c (nA A c+x)) j=nA A j+dlt c x j:=by
 unfold nA dlt;by_cases h:j=c
 ·subst h;rw[if_pos rfl];simp[List.getD,C]
 ·have u : ¬c=j:=fun e=>h e.symm;rw[if_neg h];simp[List.getD,u]
theorem Ht {A:List Int}(h:c<A.length)(k:Nat):gS (A.set c (nA A c+x)) k=gS A k+(dlt c x k-dlt c x (6+k)+dlt c x (12+k)
 +((dlt c x (18+6*0+k)-dlt c x (18+6*k+0))+(dlt c x (18+6*1+k)-dlt c x (18+6*k+1))+(dlt c x (18+6*2+k)-dlt c x (18+6*k+2))+(dlt c x (18+6*3+k)-dlt c x (18+6*k+3))+(dlt c x (18+6*4+k)-dlt c x (18+6*k+4))+(dlt c x (18+6*5+k)-dlt c x (18+6*k+5)))):=by
 simp only[gS,show List.range 6=[0,1,2,3,4,5]from rfl,List.map_cons,List.map_nil,List.sum_cons,List.sum_nil,nT h];omega
theorem Hu {A:List Int}(I:c<A.length)(u:0≤x)(C:c≠6+k)(h:∀j,j<6→c≠18+6*k+j):gS A k≤gS (A.set c (nA A c+x)) k:=by
 rw[Ht I];rw[iY (j:=6+k) (fun e=>C e.symm),iY (j:=18+6*k+0) (fun e=>h 0 (by omega) e.symm),iY (j:=18+6*k+1) (fun e=>h 1 (by omega) e.symm),iY (j:=18+6*k+2) (fun e=>h 2 (by omega) e.symm),iY (j:=18+6*k+3) (fun e=>h 3 (by omega) e.symm),iY (j:=18+6*k+4) (fun e=>h 4 (by omega) e.symm),iY (j:=18+6*k+5) (fun e=>h 5 (by omega) e.symm)]
 have:=jM (c:=c) (j:=k) u
 have:=jM (c:=c) (j:=12+k) u
 have:=jM (c:=c) (j:=18+6*0+k) u
 have:=jM (c:=c) (j:=18+6*1+k) u
 have:=jM (c:=c) (j:=18+6*2+k) u
 have:=jM (c:=c) (j:=18+6*3+k) u
 have:=jM (c:=c) (j:=18+6*4+k) u
 have:=jM (c:=c) (j:=18+6*5+k) u
 omega
theorem RG {A : List Int} {c : Nat} {x : Int} {k : Nat} (hc : c < A.length) (hx : 0 ≤ x) : gS A k - x ≤ gS (A.set c (nA A c + x)) k := by
  by_cases h6 : c = 6 + k
  · rw [Ht hc]
    rw [iY (j := 18 + 6 * k + 0) (by omega), iY (j := 18 + 6 * k + 1) (by omega), iY (j := 18 + 6 * k + 2) (by omega), iY (j := 18 + 6 * k + 3) (by omega), iY (j := 18 + 6 * k + 4) (by omega), iY (j := 18 + 6 * k + 5) (by omega), show dlt c x (6 + k) = x by rw [h6]; exact kD]
    have := jM (c := c) (j := k) hx
    have := jM (c := c) (j := 12 + k) hx
    have := jM (c := c) (j := 18 + 6 * 0 + k) hx
    have := jM (c := c) (j := 18 + 6 * 1 + k) hx
    have := jM (c := c) (j := 18 + 6 * 2 + k) hx
    have := jM (c := c) (j := 18 + 6 * 3 + k) hx
    have := jM (c := c) (j := 18 + 6 * 4 + k) hx
    have := jM (c := c) (j := 18 + 6 * 5 + k) hx
    omega
  · by_cases h18 : ∃ j, j < 6 ∧ c = 18 + 6 * k + j
    · obtain ⟨j, hj, hcj⟩ := h18
      have hs : dlt c x (18 + 6 * k + 0) + dlt c x (18 + 6 * k + 1) + dlt c x (18 + 6 * k + 2) + dlt c x (18 + 6 * k + 3) + dlt c x (18 + 6 * k + 4) + dlt c x (18 + 6 * k + 5) = x := by
        subst hcj
        match j, hj with
        | 0, _ => rw [kD]; repeat rw [iY (by omega)]
                  omega
        | 1, _ => rw [kD]; repeat rw [iY (by omega)]
                  omega
        | 2, _ => rw [kD]; repeat rw [iY (by omega)]
                  omega
        | 3, _ => rw [kD]; repeat rw [iY (by omega)]
                  omega
        | 4, _ => rw [kD]; repeat rw [iY (by omega)]
                  omega
        | 5, _ => rw [kD]; repeat rw [iY (by omega)]
                  omega
      rw [Ht hc, iY (j := 6 + k) (by omega)]
      have := jM (c := c) (j := k) hx
      have := jM (c := c) (j := 12 + k) hx
      have := jM (c := c) (j := 18 + 6 * 0 + k) hx
      have := jM (c := c) (j := 18 + 6 * 1 + k) hx
      have := jM (c := c) (j := 18 + 6 * 2 + k) hx
      have := jM (c := c) (j := 18 + 6 * 3 + k) hx
      have := jM (c := c) (j := 18 + 6 * 4 + k) hx
      have := jM (c := c) (j := 18 + 6 * 5 + k) hx
      omega
    · have := Hu (k := k) hc hx h6 fun j hj e => h18 ⟨j, hj, e⟩
      omega
structure Lf (A:List Int):Prop where
 g:∀i,i<6→0≤nA A i∧nA A i≤MXA
 c:∀i,i<6→0≤nA A (6+i)∧nA A (6+i)≤MXA
 f:∀i,i<6→0≤nA A (12+i)∧nA A (12+i)≤nA A (6+i)
 d:∀i,i<6→nA A (18+6*i+i)=0
 r:∀i j,i<6→j<6→0≤nA A (18+6*i+j)∧nA A (18+6*i+j)≤MXA
 l:∀k,k<6→0≤gS A k
 s:(gL A).sum≤MXA
theorem uP {A:List Int}:jj A=true↔Lf A:=by
 unfold jj;rw[Bool.and_eq_true,Bool.and_eq_true,List.all_eq_true,List.all_eq_true,decide_eq_true_eq];constructor
 ·rintro⟨⟨J,M⟩,O⟩;have C:∀i,i<6→uU A i=true:=fun i hi=>J i (by simpa using hi);have n:∀i,i<6→((((okA (nA A i)=true∧okA (nA A (6+i))=true)∧okA (nA A (12+i))=true)∧nA A (12+i)≤nA A (6+i))∧nA A (18+6*i+i)=0)∧∀j,j<6→okA (nA A (18+6*i+j))=true:=fun i hi=>by
   have:=C i hi
   unfold uU at this;simp only[Bool.and_eq_true,decide_eq_true_eq,List.all_eq_true]at this;exact⟨this.1,fun j u=>this.2 j (by simpa using u)⟩
  exact⟨fun i hi=>nu.1 (n i hi).1.1.1.1.1,fun i hi=>nu.1 (n i hi).1.1.1.1.2,fun i hi=>⟨(nu.1 (n i hi).1.1.1.2).1,(n i hi).1.1.2⟩,fun i hi=>(n i hi).1.2,fun i j hi u=>nu.1 ((n i hi).2 j u),fun k I=>by simpa using M k (by simpa using I),O⟩
 ·intro h;refine⟨⟨fun i hi=>?_,fun k I=>by simpa using h.l k (by simpa using I)⟩,h.s⟩;have hi:i<6:=by simpa using hi
  unfold uU;simp only[Bool.and_eq_true,decide_eq_true_eq,List.all_eq_true];exact⟨⟨⟨⟨⟨nu.2 (h.g i hi),nu.2 (h.c i hi)⟩,nu.2 ⟨(h.f i hi).1,Int.le_trans (h.f i hi).2 (h.c i hi).2⟩⟩,(h.f i hi).2⟩,h.d i hi⟩,fun j u=>nu.2 (h.r i j hi (by simpa using u))⟩
theorem Pu (A:List Int):(gL A).sum=nA A 0+nA A 1+nA A 2+nA A 3+nA A 4+nA A 5:=by
 simp only[gL,show List.range 6=[0,1,2,3,4,5]from rfl,List.map_cons,List.map_nil,List.sum_cons,List.sum_nil];omega
theorem NO {A:List Int}(hA:A.length=54)(h:Lf A)(O:0≤x)(hc:c<54)(hm:nA A c+x≤MXA)(J:∀i,i<6→c=12+i→nA A (12+i)+x≤nA A (6+i))(hd:∀i,i<6→c≠18+6*i+i)(hl:∀k,k<6→(c=6+k∨∃j,j<6∧c=18+6*k+j)→x≤gS A k)(hg:c<6→nA A c+x≤M47∧∀i,i<6→nA A i≤M47):Lf (A.set c (nA A c+x)):=by
 have u:c<A.length:=by omega
 have I:∀j,nA A j≤nA (A.set c (nA A c+x)) j:=fun j=>by rw[nT u];have:=jM (c:=c) (j:=j) O;omega
 have U:∀j,nA A j≤MXA→nA (A.set c (nA A c+x)) j≤MXA:=fun j C=>by
  rw[nT u];by_cases e:j=c
  ·subst e;rw[kD];exact hm
  ·rw[iY e];omega
 refine⟨fun i hi=>⟨Int.le_trans (h.g i hi).1 (I _),U _ (h.g i hi).2⟩,fun i hi=>⟨Int.le_trans (h.c i hi).1 (I _),U _ (h.c i hi).2⟩,fun i hi=>⟨Int.le_trans (h.f i hi).1 (I _),?_⟩,fun i hi=>?_,fun i j hi C=>⟨Int.le_trans (h.r i j hi C).1 (I _),U _ (h.r i j hi C).2⟩,fun k hk=>?_,?_⟩
 ·have h2:=I (6+i);by_cases e:c=12+i
  ·have:=J i hi e
   rw[nT u (12+i),show dlt c x (12+i)=x by rw[e];exact kD];omega
  ·rw[nT u (12+i),iY (fun e' => e e'.symm)]
   have:=(h.f i hi).2;omega
 ·rw[nT u,iY (fun e=>hd i hi e.symm),h.d i hi];rfl
 ·by_cases M:c=6+k∨∃j,j<6∧c=18+6*k+j
  ·have:=hl k hk M
   have:=RG (k:=k) u O
   omega
  ·have:=Hu (k:=k) u O (fun e=>M (.inl e)) (fun j C e=>M (.inr ⟨j,C,e⟩))
   have:=h.l k hk;omega
 ·rw[Pu];have hs:=h.s;rw[Pu]at hs;by_cases e:c<6
  ·obtain⟨h1,h2⟩:=hg e;have b:∀i,i<6→nA (A.set c (nA A c+x)) i≤M47:=fun i hi=>by
    rw[nT u];by_cases ei:i=c
    ·subst ei;rw[kD];exact h1
    ·rw[iY ei];have:=h2 i hi;omega
   have:=b 0 (by omega)
   have:=b 1 (by omega)
   have:=b 2 (by omega)
   have:=b 3 (by omega)
   have:=b 4 (by omega)
   have:=b 5 (by omega)
   simp only[M47,MXA]at *;omega
  ·rw[nT u 0,nT u 1,nT u 2,nT u 3,nT u 4,nT u 5]
   repeat rw[iY (by omega)]
   omega
/-! ## Nodes -/
section
variable {N:List ND}{id:Int}
theorem mF :bU N id=true↔∃x∈N,x.id=id:=by simp[bU]
theorem kh :cr (tr N) id=bU N id:=by
 unfold cr tr bU;rw[List.any_map];rfl
theorem ow {x y:ND}:∀{N:List ND},y∈dN x N↔y=x∨y∈N
 | []=>by simp[dN]
 | z::N=>by
  unfold dN;split
  ·simp
  ·rw[List.mem_cons,ow (N:=N),List.mem_cons];constructor
   ·rintro(h|h|h)
    ·exact .inr (.inl h)
    ·exact .inl h
    ·exact .inr (.inr h)
   ·rintro(h|h|h)
    ·exact .inr (.inl h)
    ·exact .inl h
    ·exact .inr (.inr h)
theorem LR {x:ND}:∀{N:List ND},(dN x N).length=N.length+1
 | []=>rfl
 | z::N=>by
  unfold dN;split
  ·rfl
  ·simp[LR (N:=N)]
theorem Kp {x y:ND}(h:x.id≠y.id):∀{N:List ND},dN x (dN y N)=dN y (dN x N)
 | []=>by
  simp only[dN];by_cases j:x.id<y.id
  ·rw[if_pos j,if_neg (by omega)]
  ·rw[if_neg j,if_pos (by omega)]
 | z::N=>by
  by_cases u:x.id<z.id<;>by_cases C:y.id<z.id
  ·by_cases j:x.id<y.id
   ·simp[dN,u,C,j,show ¬y.id<x.id by omega]
   ·simp[dN,u,C,j,show y.id<x.id by omega]
  ·simp[dN,u,C,show x.id<y.id∨True from .inr trivial,show ¬y.id<x.id by omega]
  ·simp[dN,u,C,show ¬x.id<y.id by omega]
  ·simp[dN,u,C,Kp h (N:=N)]
theorem rK {x:ND}:∀{N:List ND},N.Pairwise (·.id < ·.id)→(∀y∈N,y.id≠x.id)→(dN x N).Pairwise (·.id < ·.id)
 | [],_,_=>by simp[dN]
 | z::N,h,hn=>by
  rw[List.pairwise_cons]at h;unfold dN;split
  ·rename_i u;rw[List.pairwise_cons,List.pairwise_cons];refine⟨fun y j=>?_,h⟩;rcases List.mem_cons.1 j with rfl|j
   ·exact u
   ·have:=h.1 y j;omega
  ·rename_i u;rw[List.pairwise_cons];refine⟨fun y j=>?_,rK h.2 fun y j=>hn y (by simp[j])⟩;rcases ow.1 j with rfl|j
   ·have:=hn z (by simp);omega
   ·exact h.1 y j
theorem Hl {x:ND}{g:ND→ND}(h:g x=x)(j:∀y,(g y).id=y.id):∀{N:List ND},dN x (N.map g)=(dN x N).map g
 | []=>by simp[dN,h]
 | z::N=>by
  simp only[List.map_cons,dN,j];split
  ·simp[h]
  ·simp[Hl h j (N:=N)]
theorem Hb {p:ND→Bool}{x:ND}(u:N.Pairwise (·.id < ·.id))(I:x∈N)(C:∀y,p y=true↔y.id=x.id):N.find? p=some x:=by
 induction N with
 | nil=>simp at I
 | cons z N ih =>
  rw[List.pairwise_cons]at u;by_cases J:z=x
  ·subst J;rw[List.find?_cons_of_pos ((C z).2 rfl)]
  ·have j:x∈N:=by rcases List.mem_cons.1 I with h|h;exact absurd h.symm J;exact h
   have : ¬p z=true:=fun h=>by
    have M:=(C z).1 h
    have:=u.1 x j;omega
   rw[List.find?_cons_of_neg this];exact ih u.2 j
theorem te {x:ND}(h:N.Pairwise (·.id < ·.id))(j:x∈N):aN N x.id=x.A:=by
 unfold aN;rw[Hb h j (fun y=>by simp)]
theorem pR (h:bU N id=true):∃x∈N,x.id=id:=mF.1 h
theorem UX {x y:ND}(u:N.Pairwise (·.id < ·.id))(I:x∈N)(J:y∈N)(h:x.id=y.id):x=y:=by
 have C:=Hb (p:=fun z=>z.id==x.id) u I (fun y=>by simp);have j:=Hb (p:=fun z=>z.id==x.id) u J (fun z=>by simp[h]);rw[C]at j;exact Option.some.inj j
theorem gV {ids:List Int}{v:Int}(y:ND):(dR ids c v y).id=y.id∧(dR ids c v y).par=y.par:=by unfold dR;split<;>exact⟨rfl,rfl⟩
theorem sr {ids:List Int}{v:Int}{y:ND}(h:y.id∈ids):dR ids c v y={y with A:=y.A.set c (nA y.A c+v)}:=by unfold dR;rw[if_pos (List.contains_iff_mem.2 h)]
theorem qw {ids:List Int}{v:Int}{y:ND}(h:y.id∉ids):dR ids c v y=y:=by unfold dR;rw[if_neg (fun j=>h (List.contains_iff_mem.1 j))]
theorem MI {A:List Int}{y:Int}(h:c≠d):(A.set c (nA A c+x)).set d (nA (A.set c (nA A c+x)) d+y)=(A.set d (nA A d+y)).set c (nA (A.set d (nA A d+y)) c+x):=by
 have j:nA (A.set c (nA A c+x)) d=nA A d:=by unfold nA;simp[List.getD,h]
 have u:nA (A.set d (nA A d+y)) c=nA A c:=by unfold nA;simp[List.getD,show ¬d=c from fun e=>h e.symm]
 rw[j,u,List.set_comm _ _ h]
theorem Pj {ids:List Int}{v:Int}(h:c≠d)(y:ND):dR ids c v (dR xs d r y)=dR xs d r (dR ids c v y):=by
 obtain⟨i,p,A⟩:=y;by_cases j:i∈ids<;>by_cases u:i∈xs<;>simp only[dR,List.contains_iff_mem,j,u,if_true,if_false];rw[MI (A:=A) (x:=v) (y:=r) h]
theorem FB {g:ND→ND}(h:∀y,(g y).id=y.id∧(g y).par=y.par):tr (N.map g)=tr N:=by
 unfold tr;rw[List.map_map];refine List.map_congr_left fun y _=>?_;show ((g y).id,(g y).par)=_;rw[(h y).1,(h y).2]
theorem Hf {g:ND→ND}(h:∀y,(g y).id=y.id):bU (N.map g) id=bU N id:=by
 unfold bU;rw[List.any_map]
 congr 1
 funext y;show ((g y).id==id)=_;rw[h]
theorem Di {x:ND}:bU (dN x N) id=(decide (x.id=id) || bU N id):=by
 rw[Bool.eq_iff_iff,mF,Bool.or_eq_true,mF,decide_eq_true_eq];constructor
 ·rintro⟨y,j,h⟩;rcases ow.1 j with rfl|j
  ·exact .inl h
  ·exact .inr ⟨y,j,h⟩
 ·rintro(h|⟨y,j,h⟩)
  ·exact⟨x,ow.2 (.inl rfl),h⟩
  ·exact⟨y,ow.2 (.inr j),h⟩
theorem DN {g:ND→ND}(h:∀y,(g y).id=y.id){o:Int}:gP (N.map g) o=gP N o:=by
 unfold gP;rw[List.filter_map,List.length_map]
 congr 2
 funext y;show decide ((g y).id / M40=o)=_;rw[h]
theorem DM {x:ND}{o:Int}:gP (dN x N) o=gP N o+if x.id / M40=o then 1 else 0:=by
 unfold gP
 induction N with
 | nil=>simp only[dN];by_cases h:x.id / M40=o<;>simp[h]
 | cons z N ih =>
  unfold dN;split
  ·by_cases h:x.id / M40=o<;>simp[h]
  ·by_cases j:z.id / M40=o
   ·rw[List.filter_cons_of_pos (by simpa using j),List.filter_cons_of_pos (by simpa using j),List.length_cons,List.length_cons,ih];omega
   ·rw[List.filter_cons_of_neg (by simpa using j),List.filter_cons_of_neg (by simpa using j),ih]
theorem ti {o s:Int}(h:0≤s)(j:s<M40):(o*M40+s) / M40=o:=by
 have:(o*M40+s) / M40=o+s / M40:=by rw[Int.add_comm,Int.add_mul_ediv_right _ _ (by decide),Int.add_comm]
 rw[this,Int.ediv_eq_zero_of_lt h j];omega
theorem JE (h:∀x∈N,∃o q:Int,1≤o∧o≤6∧1≤q∧q<M40∧x.id=o*M40+q):N.length=gP N 1+gP N 2+gP N 3+gP N 4+gP N 5+gP N 6:=by
 induction N with
 | nil=>rfl
 | cons x N I =>
  have I:=I fun y O=>h y (by simp[O]);obtain⟨o,q,U,h2,h3,J,M⟩:=h x (by simp);have C:x.id / M40=o:=by rw[M];exact ti (by omega) J
  have j:∀p:Int,gP (x::N) p=gP N p+if o=p then 1 else 0:=fun p=>by
   unfold gP;by_cases u:o=p
   ·rw[List.filter_cons_of_pos (by simp[C,u]),if_pos u];rfl
   ·rw[List.filter_cons_of_neg (by simp[C,u]),if_neg u];rfl
  rw[List.length_cons,j,j,j,j,j,j]
  have:o=1∨o=2∨o=3∨o=4∨o=5∨o=6:=by omega
  rcases this with rfl|rfl|rfl|rfl|rfl|rfl<;>simp<;>omega
end
/-! ## Paths -/
section
variable {T T':List (Int×Int)}{rk:Int→Nat}
theorem TS {id:Int}(h:cr T id=true):zZ T id<T.length∧((T.getD (zZ T id) (0,0)).1=id):=by
 obtain⟨x,C,u⟩:=jE.1 h;have j:zZ T id<T.length:=List.findIdx_lt_length_of_exists ⟨x,C,by simp[u]⟩;refine⟨j,?_⟩
 have:=List.findIdx_getElem (w:=j) (p:=fun x:Int×Int=>x.1==id)
 rw[List.getD_eq_getElem?_getD,List.getElem?_eq_getElem j,Option.getD_some];exact beq_iff_eq.1 this
theorem ny {id:Int}(h:cr T id=true):(id,eE T id)∈T:=by
 obtain⟨j,u⟩:=TS h
 have:T.getD (zZ T id) (0,0)∈T:=by
  rw[List.getD_eq_getElem?_getD,List.getElem?_eq_getElem j];exact List.getElem_mem _
 have e:T.getD (zZ T id) (0,0)=(id,eE T id):=Prod.ext u rfl;rw[←e];exact this
theorem CG {id p:Int}(u:∀x∈T,∀y∈T,x.1=y.1→x=y)(h:(id,p)∈T):eE T id=p:=by
 have j:cr T id=true:=jE.2 ⟨_,h,rfl⟩
 have:=u _ (ny j) _ h rfl
 exact congrArg Prod.snd this
theorem Fo (j:TK T rk):∀(f g:Nat) (id:Int),upT T rk id≤f→upT T rk id≤g→cB T f id=cB T g id
 | 0,0,_,_,_=>rfl
 | f+1,g,id,h1,h2=>by
  cases h:cr T id with
  | false =>
   cases g with
   | zero=>simp[cB,h]
   | succ g=>simp[cB,h]
  | true =>
   have O:upT T rk id=rk id+1:=by unfold upT;rw[h]
   obtain⟨g,rfl⟩:∃I,g=I+1:=⟨g-1,by omega⟩
   have hp:upT T rk (eE T id)≤rk id:=by
    have M:=ny h;unfold upT;cases C:cr T (eE T id)with
    | false=>exact Nat.zero_le _
    | true =>
     rcases j.up _ M with J|⟨y,hy,e,u⟩
     ·exfalso;obtain⟨z,U,e⟩:=jE.1 C;exact j.nz z U (e.trans J)
     ·show rk (eE T id)+1≤rk id;have e:y.1=eE T id:=e;rw[←e];exact u
   simp only[cB,h,if_true];rw[Fo j f g (eE T id) (by omega) (by omega)]
 | 0,g+1,id,h1,h2=>by
  cases h:cr T id with
  | false=>simp[cB,h]
  | true =>
   have O:upT T rk id=rk id+1:=by unfold upT;rw[h]
   omega
theorem Mr (j:TK T rk)(C:cr T' 0=false)(u:∀id,cr T id=true→cr T' id=true∧eE T' id=eE T id):∀(f:Nat) (id:Int),cr T id=true∨id=0→cB T' f id=cB T f id
 | 0,_,_=>rfl
 | f+1,id,h=>by
  rcases h with h|rfl
  ·obtain⟨J,M⟩:=u id h;simp only[cB,h,J,if_true,M];rw[Mr j C u f];rcases j.up _ (ny h)with I|⟨y,hy,e,_⟩
   ·exact .inr I
   ·exact .inl (jE.2 ⟨y,hy,e⟩)
  ·have:cr T 0=false:=by
    cases O:cr T 0 with
    | false=>rfl
    | true =>
     obtain⟨x,U,e⟩:=jE.1 O;exact absurd e (j.nz x U)
   simp[cB,C,this]
theorem Ms :∀(f:Nat) (id:Int),∀x∈cB T f id,cr T x=true
 | 0,_,_,h=>by simp[cB]at h
 | f+1,id,x,h=>by
  unfold cB at h;split at h
  ·rename_i j;rcases List.mem_cons.1 h with rfl|h
   ·exact j
   ·exact Ms f _ x h
  ·simp at h
end
section
variable {N:List ND}{id:Int}
theorem mR (h:x∈di N id):bU N x=true:=by rw[←kh];exact Ms _ _ x h
theorem Kc (J:N.Pairwise (·.id < ·.id)):∀x∈tr N,∀y∈tr N,x.1=y.1→x=y:=by
 intro x j y u h;unfold tr at j u;obtain⟨a,C,rfl⟩:=List.mem_map.1 j;obtain⟨b,I,rfl⟩:=List.mem_map.1 u
 have:=UX J C I h
 rw[this]
theorem Qc {x:ND}(hs:N.Pairwise (·.id < ·.id))(j:∃rk,TK (tr N) rk)(J:bU N x.id=false)(M:x.id≠0)(h:bU N id=true∨id=0):di (dN x N) id=di N id:=by
 obtain⟨rk,j⟩:=j;have O:∀y∈N,y.id≠x.id:=fun y C e=>by rw[mF.2 ⟨y,C,e⟩]at J;cases J
 have I:=rK hs O;have hz:cr (tr (dN x N)) 0=false:=by
  rw[kh,Di,decide_eq_false M,Bool.false_or, ←kh];cases U:cr (tr N) 0 with
  | false=>rfl
  | true =>
   obtain⟨y,C,e⟩:=jE.1 U;exact absurd e (j.nz y C)
 have u:∀id,cr (tr N) id=true→cr (tr (dN x N)) id=true∧eE (tr (dN x N)) id=eE (tr N) id:=by
  intro i hi;refine⟨?_,?_⟩
  ·rw[kh,Di];rw[kh]at hi;rw[hi,Bool.or_true]
  ·refine CG (Kc I) ?_
   have:=ny hi
   unfold tr at this ⊢;obtain⟨y,C,e⟩:=List.mem_map.1 this;exact List.mem_map.2 ⟨y,ow.2 (.inr C),e⟩
 unfold di dh;rw[Mr j hz u _ _ (by rw[kh];exact h)];exact Fo j _ _ _ (by have:=AM j id;unfold tr at *; simp[LR]at *; omega) (by have:=AM j id;omega)
theorem Qd {g:ND→ND}(h:∀y,(g y).id=y.id∧(g y).par=y.par):di (N.map g) id=di N id:=by unfold di;rw[FB h]
end
/-! ## Grants -/
section
variable {G:List GR}
theorem Tz {x:GR}:¬ltG x x:=by unfold ltG;omega
theorem Mc {x y z:GR}(h:ltG x y)(k:ltG y z):ltG x z:=by unfold ltG at *; omega
theorem Hk {x y:GR}:∀{G:List GR},y∈iS x G↔y=x∨y∈G
 | []=>by simp[iS]
 | z::G=>by
  unfold iS;split
  ·simp
  ·rw[List.mem_cons,Hk (G:=G),List.mem_cons];constructor
   ·rintro(h|h|h)
    ·exact .inr (.inl h)
    ·exact .inl h
    ·exact .inr (.inr h)
   ·rintro(h|h|h)
    ·exact .inr (.inl h)
    ·exact .inl h
    ·exact .inr (.inr h)
theorem Ko {x y:GR}(h:x.o≠y.o):∀{G:List GR},iS x (iS y G)=iS y (iS x G)
 | []=>by
  simp only[iS];by_cases j:ltG x y
  ·rw[if_pos j,if_neg (by unfold ltG at *; omega)]
  ·rw[if_neg j,if_pos (by unfold ltG at *; omega)]
 | z::G=>by
  by_cases u:ltG x z<;>by_cases C:ltG y z
  ·by_cases j:ltG x y
   ·simp[iS,u,C,j,show ¬ltG y x by unfold ltG at *; omega]
   ·simp[iS,u,C,j,show ltG y x by unfold ltG at *; omega]
  ·simp[iS,u,C,show ¬ltG y x by unfold ltG at *; omega]
  ·simp[iS,u,C,show ¬ltG x y by unfold ltG at *; omega]
  ·simp[iS,u,C,Ko h (G:=G)]
theorem BI {x:GR}:∀{G:List GR},G.Pairwise ltG→(∀y∈G,¬(y.o=x.o∧y.q=x.q))→(iS x G).Pairwise ltG
 | [],_,_=>by simp[iS]
 | z::G,h,hn=>by
  rw[List.pairwise_cons]at h;unfold iS;split
  ·rename_i u;rw[List.pairwise_cons,List.pairwise_cons];refine⟨fun y j=>?_,h⟩;rcases List.mem_cons.1 j with rfl|j
   ·exact u
   ·exact Mc u (h.1 y j)
  ·rename_i u;rw[List.pairwise_cons];refine⟨fun y j=>?_,BI h.2 fun y j=>hn y (by simp[j])⟩;rcases Hk.1 j with rfl|j
   ·have:=hn z (by simp);unfold ltG at *; omega
   ·exact h.1 y j
theorem Hj {x:GR}{g:GR→GR}(u:g x=x)(j:∀y,(g y).o=y.o∧(g y).q=y.q):∀{G:List GR},iS x (G.map g)=(iS x G).map g
 | []=>by simp[iS,u]
 | z::G=>by
  have e:ltG x (g z)↔ltG x z:=by unfold ltG;rw[(j z).1,(j z).2]
  simp only[List.map_cons,iS];by_cases h:ltG x z
  ·rw[if_pos (e.2 h),if_pos h];simp[u]
  ·rw[if_neg (fun C=>h (e.1 C)),if_neg h,List.map_cons,Hj u j (G:=G)]
theorem LJ {x:GR}{o q:Int}(h : ¬(x.o=o∧x.q=q)):∀{G:List GR},iQ (iS x G) o q=iQ G o q
 | []=>by
  have:(x.o==o&&x.q==q)=false:=by
   cases j:(x.o==o&&x.q==q)with
   | false=>rfl
   | true=>rw[Bool.and_eq_true,beq_iff_eq,beq_iff_eq]at j;exact absurd j h
  simp[iQ,iS,List.find?,this]
 | z::G=>by
  have j:(x.o==o&&x.q==q)=false:=by
   cases j:(x.o==o&&x.q==q)with
   | false=>rfl
   | true=>rw[Bool.and_eq_true,beq_iff_eq,beq_iff_eq]at j;exact absurd j h
  unfold iS;split
  ·simp[iQ,List.find?,j]
  ·have u:=LJ h (G:=G);unfold iQ at u ⊢;simp only[List.find?_cons];split
   ·rfl
   ·exact u
theorem Hd {g:GR→GR}{o q:Int}(j:∀y,(g y).o=y.o∧(g y).q=y.q)(u:∀y,y.o=o→y.q=q→g y=y):∀{G:List GR},iQ (G.map g) o q=iQ G o q
 | []=>rfl
 | z::G=>by
  have C:=Hd j u (G:=G);unfold iQ at C ⊢;simp only[List.map_cons,List.find?_cons,(j z).1,(j z).2];cases h:(z.o==o&&z.q==q)with
  | false=>exact C
  | true =>
   rw[Bool.and_eq_true,beq_iff_eq,beq_iff_eq]at h;show some (g z)=some z;rw[u z h.1 h.2]
theorem sC {o q:Int}{g:GR}(h:iQ G o q=some g):g∈G∧g.o=o∧g.q=q:=by
 unfold iQ at h;have u:=List.mem_of_find?_eq_some h;have j:=List.find?_some h;rw[Bool.and_eq_true,beq_iff_eq,beq_iff_eq]at j;exact⟨u,j⟩
end
section
variable {S E:Type}(eff:E→S→S)(ok:E→S→Prop)
def lQ (s:S)(l:List E):S:=l.foldl (fun s e=>eff e s) s
def okL :S→List E→Prop
 | _,[]=>True
 | s,e::l=>ok e s∧okL (eff e s) l
variable {eff ok}
theorem tq {s:S}{l l':List E}:lQ eff s (l++l')=lQ eff (lQ eff s l) l':=by unfold lQ;rw[List.foldl_append]
theorem CA {l':List E}:∀{l:List E} {s:S},okL eff ok s (l++l')↔okL eff ok s l∧okL eff ok (lQ eff s l) l'
 | [],s=>by simp[okL,lQ]
 | e::l,s=>by
  have:=CA (l':=l') (l:=l) (s:=eff e s)
  simp only[List.cons_append,okL,this,and_assoc];rfl
structure Sys (eff:E→S→S) (ok:E→S→Prop) (org:E→Nat) (Inv:S→Prop):Prop where
 inv:∀e s,Inv s→ok e s→Inv (eff e s)
 dia:∀e f s,Inv s→org f≠org e→ok e s→ok f s→ok f (eff e s)∧eff f (eff e s)=eff e (eff f s)
variable {org:E→Nat}{Inv:S→Prop}(H:Sys eff ok org Inv)
include H
theorem Sys.invs :∀{l:List E} {s:S},Inv s→okL eff ok s l→Inv (lQ eff s l)
 | [],_,h,_=>h
 | e::_,s,h,k=>Sys.invs (s:=eff e s) (H.inv e s h k.1) k.2
theorem Sys.push {e:E}:∀{l:List E} {s:S},Inv s→ok e s→okL eff ok s l→(∀f∈l,org f≠org e)→ok e (lQ eff s l)∧okL eff ok (eff e s) l∧lQ eff (eff e s) l=eff e (lQ eff s l)
 | [],_,_,h,_,_=>⟨h,trivial,rfl⟩
 | f::l,s,hi,he,hl,ho=>by
  have C:org f≠org e:=ho f (by simp);have j:=H.dia e f s hi C he hl.1;have I:=H.dia f e s hi (fun h=>C h.symm) hl.1 he;have u:=Sys.push (l:=l) (s:=eff f s) (H.inv f s hi hl.1) I.1 hl.2 fun g J=>ho g (by simp[J]);refine⟨u.1,⟨j.1,?_⟩,?_⟩
  ·rw[j.2];exact u.2.1
  ·show lQ eff (eff f (eff e s)) l=_;rw[j.2];exact u.2.2
end
section
variable {S E:Type}{eff:E→S→S}{ok:E→S→Prop}{org:E→Nat}{seq:E→Int}{dep:E→Nat→Int}{Inv:S→Prop}{s0:S}
def kn (org:E→Nat)(seq:E→Int)(D:Nat→Int)(e:E):Bool:=decide (seq e≤D (org e))
def Closed (org:E→Nat)(seq:E→Int)(dep:E→Nat→Int)(l:List E)(D:Nat→Int):Prop:=∀f∈l,seq f≤D (org f)→∀k,dep f k≤D k
inductive Hist (eff:E→S→S) (ok:E→S→Prop) (org:E→Nat) (seq:E→Int) (dep:E→Nat→Int) (s0:S):List E→Prop
 | nil:Hist eff ok org seq dep s0 []
 | snoc {l:List E} {e:E}:Hist eff ok org seq dep s0 l→(∀f∈l,org f=org e→seq f<seq e)→dep e (org e)=seq e-1→Closed org seq dep l (dep e)→ok e (lQ eff s0 (l.filter (kn org seq (dep e))))→Hist eff ok org seq dep s0 (l++[e])
def stD (eff:E→S→S)(org:E→Nat)(seq:E→Int)(s0:S)(l:List E)(D:Nat→Int):S:=lQ eff s0 (l.filter (kn org seq D))
theorem Closed.sub {l l':List E}{D:Nat→Int}(h:Closed org seq dep (l++l') D):Closed org seq dep l D:=fun f j=>h f (List.mem_append_left _ j)
theorem oy {D:Nat→Int}{e:E}:kn org seq D e=true↔seq e≤D (org e):=by simp[kn]
theorem xk {p:E→Bool}{l:List E}{e:E}:(l++[e]).filter p=if p e=true then l.filter p++[e]else l.filter p:=by
 rw[List.filter_append];split
 ·rename_i h;rw[List.filter_cons_of_pos h];rfl
 ·rename_i h;rw[List.filter_cons_of_neg h];simp
def knd (org:E→Nat)(seq:E→Int)(D D':Nat→Int)(e:E):Bool:=kn org seq D' e && !kn org seq D e
theorem Hist.main (H:Sys eff ok org Inv)(h0:Inv s0){l:List E}(hh:Hist eff ok org seq dep s0 l):∀D D':Nat→Int,(∀k,D k≤D' k)→Closed org seq dep l D→Closed org seq dep l D' →
  okL eff ok s0 (l.filter (kn org seq D))∧okL eff ok s0 (l.filter (kn org seq D'))∧okL eff ok (lQ eff s0 (l.filter (kn org seq D))) (l.filter (knd org seq D D')) ∧
  lQ eff (lQ eff s0 (l.filter (kn org seq D))) (l.filter (knd org seq D D'))=lQ eff s0 (l.filter (kn org seq D')):=by
 induction hh with
 | nil=>intro D D' _ _ _;simp[okL,lQ]
 | @snoc l e hl hs hd hc hok ih =>
  intro D D' hD cD C;have j:=ih D D' hD cD.sub C.sub
  -- what may be done by those that know what it needs may be done by those that know more
  have up:∀D',Closed org seq dep (l++[e]) D'→seq e≤D' (org e)→ok e (lQ eff s0 (l.filter (kn org seq D'))):=by
   intro D' C he;have ad:=C e (by simp) he;obtain⟨a1,a2,a3,a4⟩:=ih (dep e) D' ad hc C.sub
   have:=(H.push (H.invs h0 a1) hok a3 (fun f J=>?_)).1
   ·rw[a4]at this;exact this
   ·rw[List.mem_filter]at J;obtain⟨J,u⟩:=J;intro M;unfold knd at u;rw[Bool.and_eq_true,Bool.not_eq_true']at u;have h1:=hs f J M;have h2:kn org seq (dep e) f=true:=oy.2 (by rw[M,hd];omega);rw[h2]at u;exact absurd u.2 (by simp)
  rw[xk,xk,xk];by_cases h':seq e≤D' (org e)
  ·have O:kn org seq D' e=true:=oy.2 h';rw[if_pos O];have I:=up D' C h';by_cases h:seq e≤D (org e)
   ·have k:kn org seq D e=true:=oy.2 h;have U : ¬knd org seq D D' e=true:=by simp[knd,k]
    rw[if_pos k,if_neg U];have aa:=up D cD h;obtain⟨p1,p2,p3⟩:=H.push (H.invs h0 j.1) aa j.2.2.1 (fun f J=>by
     rw[List.mem_filter]at J;obtain⟨J,u⟩:=J;intro M;unfold knd at u;rw[Bool.and_eq_true,Bool.not_eq_true']at u;have h1:=hs f J M;have h2:kn org seq D f=true:=oy.2 (by rw[M];omega);rw[h2]at u;exact absurd u.2 (by simp))
    refine⟨CA.2 ⟨j.1,aa,trivial⟩,CA.2 ⟨j.2.1,I,trivial⟩,?_,?_⟩
    ·rw[tq];exact p2
    ·rw[tq,tq];show lQ eff (eff e _) _=eff e _;rw[p3,j.2.2.2]
   ·have k : ¬kn org seq D e=true:=fun u=>h (oy.1 u);have U:knd org seq D D' e=true:=by simp[knd,k,O]
    rw[if_neg k,if_pos U];refine⟨j.1,CA.2 ⟨j.2.1,I,trivial⟩,CA.2 ⟨j.2.2.1,?_,trivial⟩,?_⟩
    ·rw[j.2.2.2];exact I
    ·rw[tq,tq,j.2.2.2]
  ·have O:¬kn org seq D' e=true:=fun u=>h' (oy.1 u);have k : ¬kn org seq D e=true:=fun u=>h' (by have:=hD (org e);have:=oy.1 u;omega);have U : ¬knd org seq D D' e=true:=by simp[knd,O]
   rw[if_neg k,if_neg O,if_neg U];exact j
theorem Hist.oks (H:Sys eff ok org Inv)(j:Inv s0){l:List E}(u:Hist eff ok org seq dep s0 l){D:Nat→Int}(h:Closed org seq dep l D):okL eff ok s0 (l.filter (kn org seq D)):=(u.main H j D D (fun _=>Int.le_refl _) h h).1
theorem Hist.inv (H:Sys eff ok org Inv)(h:Inv s0){l:List E}(u:Hist eff ok org seq dep s0 l){D:Nat→Int}(j:Closed org seq dep l D):Inv (stD eff org seq s0 l D):=H.invs h (u.oks H h j)
theorem Hist.uniq {l:List E}(M:Hist eff ok org seq dep s0 l):l.Nodup∧∀e∈l,∀f∈l,org e=org f→seq e=seq f→e=f:=by
 induction M with
 | nil=>simp
 | @snoc l e hl hs hd hc hok ih =>
  refine⟨?_,?_⟩
  ·rw[List.nodup_append];refine⟨ih.1,by simp,fun a I b C=>?_⟩;simp only[List.mem_singleton]at C;subst C;rintro rfl
   have:=hs a I rfl
   omega
  ·intro a I b C u J;rcases List.mem_append.1 I with h|h<;>rcases List.mem_append.1 C with j|j
   ·exact ih.2 a h b j u J
   ·rw[List.mem_singleton.1 j]at u J
    have:=hs a h u;omega
   ·rw[List.mem_singleton.1 h]at u J
    have:=hs b j u.symm;omega
   ·rw[List.mem_singleton.1 h,List.mem_singleton.1 j]
theorem Iz {p:E→Bool}{e:E}:∀{l:List E},l.Nodup→e∈l→(∀f∈l,p f=true↔f=e)→l.filter p=[e]
 | a::l,hn,he,hp=>by
  rw[List.nodup_cons]at hn;by_cases u:a=e
  ·subst u;rw[List.filter_cons_of_pos ((hp a (by simp)).2 rfl)]
   congr 1
   rw[List.filter_eq_nil_iff];intro f j I
   have:=(hp f (by simp[j])).1 I
   subst this;exact hn.1 j
  ·have : ¬p a=true:=fun h=>u ((hp a (by simp)).1 h)
   rw[List.filter_cons_of_neg this];have C:e∈l:=by rcases List.mem_cons.1 he with h|h;exact absurd h.symm u;exact h
   exact Iz hn.2 C fun f j=>hp f (by simp[j])
def upD (D:Nat→Int)(k:Nat)(x:Int):Nat→Int:=fun j=>if j=k then x else D j
theorem Hist.next (H:Sys eff ok org Inv)(h0:Inv s0){l:List E}(hh:Hist eff ok org seq dep s0 l){D:Nat→Int}(hD:Closed org seq dep l D){e:E}(he:e∈l)(hq:D (org e)=seq e-1)(hd:∀k,dep e k≤D k):ok e (stD eff org seq s0 l D)∧eff e (stD eff org seq s0 l D)=stD eff org seq s0 l (upD D (org e) (seq e))∧Closed org seq dep l (upD D (org e) (seq e)):=by
 have C:∀k,D k≤upD D (org e) (seq e) k:=fun k=>by unfold upD;split;subst_vars;omega;omega
 have hu:=hh.uniq;have J:∀f∈l,seq f≤upD D (org e) (seq e) (org f)→¬seq f≤D (org f)→f=e:=fun f I u j=>by
  unfold upD at u;split at u
  ·rename_i ho;rw[ho,hq]at j;exact hu.2 f I e he ho (by omega)
  ·exact absurd u j
 have cl:Closed org seq dep l (upD D (org e) (seq e)):=fun f I u k=>by
  by_cases j:seq f≤D (org f)
  ·exact Int.le_trans (hD f I j k) (C k)
  ·rw[J f I u j];exact Int.le_trans (hd k) (C k)
 obtain⟨a1,a2,O,U⟩:=hh.main H h0 D _ C hD cl;have M:l.filter (knd org seq D (upD D (org e) (seq e)))=[e]:=by
  refine Iz hu.1 he fun f I=>⟨fun h=>?_,fun h=>?_⟩
  ·unfold knd at h;rw[Bool.and_eq_true,Bool.not_eq_true']at h;refine J f I (oy.1 h.1) fun j=>?_;rw[oy.2 j]at h;exact absurd h.2 (by simp)
  ·subst h;have u:kn org seq (upD D (org f) (seq f)) f=true:=oy.2 (by simp[upD]);have j:kn org seq D f=false:=by
    cases hb:kn org seq D f with
    | false=>rfl
    | true=>have:=oy.1 hb;omega
   simp[knd,u,j]
 rw[M]at O U;exact⟨O.1,U,cl⟩
end
section
variable {e f:EV}{s:PL}
theorem qC (h:dK e=true):e.k=1∧0≤e.a∧e.a≤MXA∨e.k=2∧1≤e.a∧e.a≤MXA∨e.k=3∧1≤e.a∧e.a≤MXA∧1≤e.r∨e.k=4∧1≤e.r∧1≤e.f∧e.r≠e.f∨e.k=5∧1≤e.a∧e.a≤MXA∧1≤e.t∧e.t≤6∧e.t≠e.o∨e.k=6∧1≤e.t∧e.t≤6∧e.t≠e.o∨e.k=7:=by
 unfold dK at h;simp only[Bool.and_eq_true]at h;have h:=h.2.2.2.2.2.2;unfold fdE smE otE bK at h;by_cases j:e.k=1
 ·rw[if_pos j]at h;simp only[Bool.and_eq_true,decide_eq_true_eq]at h;exact .inl ⟨j,h⟩
 rw[if_neg j]at h;by_cases u:e.k=2
 ·rw[if_pos u]at h;simp only[Bool.and_eq_true,decide_eq_true_eq]at h;exact .inr (.inl ⟨u,h⟩)
 rw[if_neg u]at h;by_cases C:e.k=3
 ·rw[if_pos C]at h;simp only[Bool.and_eq_true,decide_eq_true_eq]at h;exact .inr (.inr (.inl ⟨C,h.1.1,h.1.2,h.2⟩))
 rw[if_neg C]at h;by_cases I:e.k=4
 ·rw[if_pos I]at h;simp only[Bool.and_eq_true,decide_eq_true_eq]at h;exact .inr (.inr (.inr (.inl ⟨I,h⟩)))
 rw[if_neg I]at h;by_cases J:e.k=5
 ·rw[if_pos J]at h;simp only[Bool.and_eq_true,decide_eq_true_eq]at h;exact .inr (.inr (.inr (.inr (.inl ⟨J,h.1.1,h.1.2,h.2.1.1,h.2.1.2,h.2.2⟩))))
 rw[if_neg J]at h;by_cases M:e.k=6
 ·rw[if_pos M]at h;simp only[Bool.and_eq_true,decide_eq_true_eq]at h;exact .inr (.inr (.inr (.inr (.inr (.inl ⟨M,h.1.1,h.1.2,h.2⟩)))))
 rw[if_neg M]at h;exact .inr (.inr (.inr (.inr (.inr (.inr (by simpa using h))))))
theorem nB {V:List Int}(h:ey V e=true):e.s=V.getD e.q 0+1∧∀k,k<6→e.V.getD k 0≤V.getD k 0:=by
 unfold ey at h;simp only[Bool.and_eq_true,decide_eq_true_eq,List.all_eq_true,List.mem_range]at h;exact h.2
theorem KB {V:List Int}(u:dK e=true)(h:e.s=V.getD e.q 0+1)(j:∀k,k<6→e.V.getD k 0≤V.getD k 0):ey V e=true:=by
 unfold ey;simp only[Bool.and_eq_true,decide_eq_true_eq,List.all_eq_true,List.mem_range];exact⟨u,h,j⟩
theorem qe (h:dK e=true):e.q<6∧e.o=(e.q:Int)+1:=by
 obtain⟨j,u,_⟩:=gC h;unfold EV.q;omega
theorem UW (h:dK e=true)(k:dK f=true)(u:e.o≠f.o):idE e≠idE f:=by
 obtain⟨_,_,I,j⟩:=gC h;obtain⟨_,_,J,C⟩:=gC k;intro h;have a:=ti (o:=e.o) (s:=e.s) (by omega) j;have b:=ti (o:=f.o) (s:=f.s) (by omega) C;unfold idE at h;rw[h]at a;exact u (a.symm.trans b)
theorem FT (h:dK e=true):0<idE e:=by
 obtain⟨j,_,u,C⟩:=gC h;unfold idE;simp only[M40];omega
theorem PI.new (hi:PI s)(J:dK e=true)(U:ey s.V e=true):bU s.N (idE e)=false:=by
 cases O:bU s.N (idE e)with
 | false=>rfl
 | true =>
  obtain⟨x,hx,h⟩:=mF.1 O;obtain⟨o,q,a1,a2,a3,u,a5,a6⟩:=hi.ids x hx;obtain⟨_,_,h1,I⟩:=gC J;have j:=ti (o:=o) (s:=q) (by omega) u;have C:=ti (o:=e.o) (s:=e.s) (by omega) I;rw[a5]at h;unfold idE at h;rw[h]at j;have M:e.o=o:=C.symm.trans j;subst M
  have:=(nB U).1
  unfold EV.q at this;omega
def Ln (p c:Nat):Prop:=c=p∨c=6+p∨c=12+p∨∃j,j<6∧j≠p∧c=18+6*p+j
theorem Jq {q:Nat}(J:p<6)(M:q<6)(h:p≠q)(u:Ln p c)(C:Ln q d):c≠d:=by
 rcases u with rfl|rfl|rfl|⟨j,I,_,rfl⟩<;>rcases C with rfl|rfl|rfl|⟨i,hi,_,rfl⟩<;>omega
theorem ln (hi:PI s)(h:OK e s):(∃x,nop e s=.ins x∧x.id=idE e∧x.par=e.n∧x.A=z54.set e.q e.a∧e.k=1)∨(∃ids c v,nop e s=.bmp ids c v∧e.k≠1∧(∀i∈ids,bU s.N i=true)∧Ln e.q c∧1≤v∧v≤MXA ∧
  ∀i∈ids,nA (aN s.N i) c+v≤MXA∧(c<6→nA (aN s.N i) c+v≤M47)∧(c=12+e.q→nA (aN s.N i) c+v≤nA (aN s.N i) (6+e.q))∧((c=6+e.q∨18≤c)→v≤gS (aN s.N i) e.q))∨nop e s=.non∧e.k≠1:=by
 obtain⟨hq,ho⟩:=qe h.may;have I:∀i,bU s.N i=true→Lf (aN s.N i):=fun i hh=>by
  obtain⟨x,hx,rfl⟩:=pR hh;rw[te hi.srt hx];exact uP.1 (hi.may x hx).1
 rcases qC h.may with⟨k,j,u⟩|⟨k,j,u⟩|⟨k,j,u,h3⟩|⟨k,j⟩|⟨k,j,u,h3,O,h5⟩|⟨k,_⟩|k<;>unfold nop<;>rw[k]<;>simp only[if_true,if_false,Int.reduceEq]
 ·exact .inl ⟨_,rfl,rfl,rfl,rfl,trivial⟩
 ·refine .inr (.inl ⟨_,_,_,rfl,by decide,?_,.inl rfl,j,u,?_⟩)
  ·intro i hi;rw[List.mem_singleton.1 hi];exact(h.k2 k).1
  ·intro i hi;rw[List.mem_singleton.1 hi]
   have:=(h.k2 k).2
   refine⟨by simp only[MXA,M47]at *; omega,fun _=>this,fun e=>by omega,fun e=>by omega⟩
 ·refine .inr (.inl ⟨_,_,_,rfl,by decide,fun i hi=>mR hi,.inr (.inl rfl),j,u,?_⟩);intro i hi
  have:=(h.k3 k).2.2 i hi
  exact⟨this.2,fun e=>by omega,fun e=>by omega,fun _=>this.1⟩
 ·obtain⟨_,g,U,hb,O⟩:=h.k4 k;have J:gOf s e=g:=by unfold gOf;rw[U];rfl
  obtain⟨gm,_,_⟩:=sC U;have M:=hi.gk g gm;rw[J];refine .inr (.inl ⟨_,_,_,rfl,by decide,fun i hi=>mR hi,.inr (.inr (.inl rfl)),M.2.1,M.2.2.1,?_⟩);intro i C;have a:=O i C;have b:=(I i (mR C)).c e.q hq;exact⟨Int.le_trans a b.2,fun e=>by omega,fun _=>a,fun e=>by omega⟩
 ·obtain⟨a1,a2,a3,a4⟩:=h.k5 k;refine .inr (.inl ⟨_,_,_,rfl,by decide,?_,.inr (.inr (.inr ⟨(e.t-1).toNat,by omega,by omega,rfl⟩)),j,u,?_⟩)
  ·intro i hi;rw[List.mem_singleton.1 hi];exact a1
  ·intro i hi;rw[List.mem_singleton.1 hi];exact⟨a4,fun e=>by omega,fun e=>by omega,fun _=>a3⟩
 ·exact .inr (.inr ⟨trivial,by decide⟩)
 ·exact .inr (.inr ⟨trivial,by decide⟩)
theorem je {o q b:Int}(y:GR):(nD o q b y).o=y.o∧(nD o q b y).q=y.q:=by unfold nD;split<;>exact⟨rfl,rfl⟩
theorem sA {l:List α}{x d:α}(h:i<l.length):(l.set i x).getD j d=if j=i then x else l.getD j d:=by
 by_cases e:j=i
 ·subst e;simp[List.getD,h]
 ·have : ¬i=j:=fun h=>e h.symm
  simp[List.getD,this,e]
structure Aft (e:EV) (s s':PL):Prop where
 I:∀k,s.I.getD k false=true→s'.I.getD k false=true
 L:∀k,k≠e.q→s'.L.getD k false=s.L.getD k false
 V:∀k,k≠e.q→s'.V.getD k 0=s.V.getD k 0
 Ve:s'.V.getD e.q 0=s.V.getD e.q 0+1
 R:∀k,k≠e.q→s'.R.getD k []=s.R.getD k []
 G:∀o r,o≠e.o→iQ s'.G o r=iQ s.G o r
 has:∀id,bU s.N id=true→bU s'.N id=true
 path:∀id,bU s.N id=true∨id=0→di s'.N id=di s.N id
 own:∀o,o≠e.o→gP s'.N o=gP s.N o
 loc:∀id,bU s.N id=true→∀k,k<6→k≠e.q→gS (aN s.N id) k≤gS (aN s'.N id) k
 cel:∀id,bU s.N id=true→∀k c,k<6→k≠e.q→Ln k c→nA (aN s'.N id) c=nA (aN s.N id) c
theorem JC (hi:PI s)(h:OK e s){x:ND}(u:x.id=idE e):∀y∈s.N,y.id≠x.id:=fun y C j => by
 have:=hi.new h.may h.rdy
 rw[mF.2 ⟨y,C,j.trans u⟩]at this;cases this
theorem Pe (hi:PI s)(h:OK e s){x:ND}(C:x.id=idE e){id:Int}(j:bU s.N id=true):aN (dN x s.N) id=aN s.N id:=by
 obtain⟨y,u,rfl⟩:=pR j;rw[te hi.srt u,te (rK hi.srt (JC hi h C)) (ow.2 (.inr u))]
theorem Dz {N:List ND}{g:ND→ND}(j:∀y,(g y).id=y.id)(u:N.Pairwise (·.id < ·.id)):(N.map g).Pairwise (·.id < ·.id):=by
 rw[List.pairwise_map];refine u.imp fun {a b} h=>?_;rw[j,j];exact h
theorem No (hi:PI s){ids:List Int}{v:Int}{id:Int}(j:bU s.N id=true):aN (s.N.map (dR ids c v)) id=if id∈ids then (aN s.N id).set c (nA (aN s.N id) c+v)else aN s.N id:=by
 obtain⟨y,u,rfl⟩:=pR j
 have:=te (Dz (fun y=>(gV (ids:=ids) (c:=c) (v:=v) y).1) hi.srt) (List.mem_map.2 ⟨y,u,rfl⟩)
 rw[(gV y).1]at this;rw[this,te hi.srt u];split
 ·rename_i h;rw[sr h]
 ·rename_i h;rw[qw h]
theorem Lh (hi:PI s){id:Int}(h:bU s.N id=true):(aN s.N id).length=54:=by
 obtain⟨x,j,rfl⟩:=pR h;rw[te hi.srt j];exact hi.A54 x j
theorem Io (C:p<6)(h:Ln p c):c<54:=by
 rcases h with rfl|rfl|rfl|⟨j,u,_,rfl⟩<;>omega
theorem after (hi:PI s)(h:OK e s):Aft e s (eff e s):=by
 obtain⟨U,ho⟩:=qe h.may;have vq:e.q<s.V.length:=by rw[hi.v6];exact U
 have lq:e.q<s.L.length:=by rw[hi.l6];exact U
 have rq:e.q<s.R.length:=by rw[hi.r6];exact U
 have e1:(eff e s).N=(nop e s).ap s.N:=rfl;refine⟨fun k J=>?_,fun k J=>?_,fun k J=>?_,?_,fun k J=>?_,fun o r hr=>?_,fun id u=>?_,fun id u=>?_,fun o hr=>?_,fun id u k J O=>?_,fun id u k c J O hc=>?_⟩
 ·show (nO e s.I).getD k false=true;unfold nO;split
  ·by_cases hl:(e.t-1).toNat<s.I.length
   ·rw[sA hl];split
    ·rfl
    ·exact J
   ·rw[List.set_eq_of_length_le (by omega)];exact J
  ·exact J
 ·show (nP e s.L).getD k false=_;unfold nP;split
  ·rw[sA lq,if_neg J]
  ·rfl
 ·show (ED e s.V).getD k 0=_;unfold ED;rw[sA vq,if_neg J]
 ·show (ED e s.V).getD e.q 0=_;unfold ED;rw[sA vq,if_pos rfl]
 ·show (kZ e s.R).getD k []=_;unfold kZ;split
  ·rw[sA rq,if_neg J]
  ·rfl
 ·show iQ ((gop e).ap s.G) o r=_;unfold gop;split
  ·exact LJ (fun hh=>hr hh.1.symm)
  ·split
   ·exact Hd je (fun y h1 h2=>by unfold nD;rw[if_neg (fun hh=>hr (h1.symm.trans hh.1))])
   ·rfl
 ·rw[e1];rcases ln hi h with⟨x,C,M,_⟩|⟨ids,c,v,C,_⟩|⟨C,_⟩<;>rw[C]
  ·show bU (dN x s.N) id=true;rw[Di,u,Bool.or_true]
  ·exact(Hf fun y=>(gV y).1).trans u
  ·exact u
 ·rw[e1];rcases ln hi h with⟨x,C,M,_⟩|⟨ids,c,v,C,_⟩|⟨C,_⟩<;>rw[C]
  ·exact Qc hi.srt hi.tk (by rw[M];exact hi.new h.may h.rdy) (by rw[M];have:=FT h.may;omega) u
  ·exact Qd fun y=>gV y
  ·rfl
 ·rw[e1];rcases ln hi h with⟨x,C,M,_⟩|⟨ids,c,v,C,_⟩|⟨C,_⟩<;>rw[C]
  ·show gP (dN x s.N) o=_;obtain⟨_,_,h1,h2⟩:=gC h.may;rw[DM,M,show idE e / M40=e.o from ti (by omega) h2,if_neg (fun e=>hr e.symm),Nat.add_zero]
  ·exact DN fun y=>(gV y).1
  ·rfl
 ·rw[e1];rcases ln hi h with⟨x,C,M,_⟩|⟨ids,c,v,C,_,_,hc,h1,_⟩|⟨C,_⟩<;>rw[C]
  ·show _≤gS (aN (dN x s.N) id) k;rw[Pe hi h M u];exact Int.le_refl _
  ·show _≤gS (aN (s.N.map (dR ids c v)) id) k;rw[No hi u];split
   ·have hl:=Lh hi u;refine Hu (by rw[hl];exact Io U hc) (by omega) (fun e=>Jq U J (fun e=>O e.symm) hc (.inr (.inl rfl)) e) fun j hj e=>?_;rcases hc with rfl|rfl|rfl|⟨i,aa,_,rfl⟩<;>omega
   ·exact Int.le_refl _
  ·exact Int.le_refl _
 ·rw[e1];rcases ln hi h with⟨x,C,M,_⟩|⟨ids,d,v,C,_,_,hd,h1,_⟩|⟨C,_⟩<;>rw[C]
  ·show nA (aN (dN x s.N) id) c=_;rw[Pe hi h M u]
  ·show nA (aN (s.N.map (dR ids d v)) id) c=_;rw[No hi u];split
   ·have hl:=Lh hi u;rw[nT (by rw[hl];exact Io U hd),iY (Jq J U O hc hd)];omega
   ·rfl
  ·rfl
theorem OK.kept (hi:PI s)(h:OK e s)(J:OK f s)(ho:f.o≠e.o):OK f (eff e s):=by
 have a:=after hi h;obtain⟨hq,eo⟩:=qe h.may;obtain⟨U,fo⟩:=qe J.may;have j:f.q≠e.q:=fun e=>ho (by omega);obtain⟨r1,r2⟩:=nB J.rdy;have ad:∀{id},id∈di s.N f.n→bU s.N id=true:=fun h=>mR h;refine⟨J.may,KB J.may (by rw[a.V _ j];exact r1) (fun k hk=>?_),a.I _ J.inI,(a.L _ j).trans J.notL,fun k=>?_,fun k=>?_,fun k=>?_,fun k=>?_,fun k=>?_⟩
 ·have:=r2 k hk
  by_cases e:k=e.q
  ·subst e;rw[a.Ve];omega
  ·rw[a.V _ e];exact this
 ·obtain⟨C,M,O,h4⟩:=J.k1 k;have aa:bU s.N f.n=true∨f.n=0:=O.symm;exact⟨by rw[a.own _ ho];exact C,M,O.imp id (a.has _),by rw[a.path _ aa];exact h4⟩
 ·obtain⟨C,M⟩:=J.k2 k;exact⟨a.has _ C,by rw[a.cel _ C _ _ U j (.inl rfl)];exact M⟩
 ·obtain⟨C,M,O⟩:=J.k3 k;refine⟨by unfold jB at C ⊢; rw[a.R _ j];exact C,a.has _ M,fun id u=>?_⟩;rw[a.path _ (.inl M)]at u;obtain⟨h4,h5⟩:=O id u;have hh:=ad u;exact⟨Int.le_trans h4 (a.loc _ hh _ U j),by rw[a.cel _ hh _ _ U j (.inr (.inl rfl))];exact h5⟩
 ·obtain⟨C,g,M,O,h4⟩:=J.k4 k;refine⟨by unfold jB at C ⊢; rw[a.R _ j];exact C,g,by rw[a.G _ _ ho];exact M,O,fun id u=>?_⟩;have af:=(hi.gk g (sC M).1).1;rw[a.path _ (.inl af)]at u;have hh:=mR u
  have:=h4 id u
  rw[a.cel _ hh _ _ U j (.inr (.inr (.inl rfl))),a.cel _ hh _ _ U j (.inr (.inl rfl))];exact this
 ·obtain⟨C,M,O,h4⟩:=J.k5 k;refine⟨a.has _ C,a.I _ M,Int.le_trans O (a.loc _ C _ U j),?_⟩;rcases qC J.may with⟨k',_⟩|⟨k',_⟩|⟨k',_⟩|⟨k',_⟩|⟨_,_,_,t1,t2,t3⟩|⟨k',_⟩|k'<;>try omega
  rw[a.cel _ C _ _ U j (.inr (.inr (.inr ⟨(f.t-1).toNat,by omega,by omega,rfl⟩)))];exact h4
theorem Mj (hi:PI s)(h:OK e s)(J:OK f s)(O:f.o≠e.o):nop f (eff e s)=nop f s:=by
 have a:=after hi h;have M:gOf (eff e s) f=gOf s f:=by unfold gOf;rw[a.G _ _ O]
 unfold nop;rw[M];by_cases u:f.k=3
 ·rw[a.path _ (.inl (J.k3 u).2.1)];simp[u]
 ·by_cases C:f.k=4
  ·obtain⟨_,g,I,_⟩:=J.k4 C;have j:gOf s f=g:=by unfold gOf;rw[I];rfl
   rw[j,a.path _ (.inl (hi.gk g (sC I).1).1)];simp[C]
  ·simp[u,C]
theorem RO (hi:PI s)(h:OK e s)(u:OK f s)(U:f.o≠e.o):(nop f s).ap ((nop e s).ap s.N)=(nop e s).ap ((nop f s).ap s.N):=by
 obtain⟨hq,eo⟩:=qe h.may;obtain⟨fq,fo⟩:=qe u.may;have O:f.q≠e.q:=fun e=>U (by omega);have nw:∀{e:EV} {x:ND} {ids:List Int} {c:Nat} {v:Int},OK e s→x.id=idE e→(∀i∈ids,bU s.N i=true)→dR ids c v x=x:=fun {e x ids c v} h C I=>qw fun j=>by
  have:=hi.new h.may h.rdy
  rw[←C,I _ j]at this;cases this
 rcases ln hi h with⟨x,M,C,_⟩|⟨ids,c,v,M,_,I,hc,_⟩|⟨M,_⟩<;>rcases ln hi u with⟨y,j,hy,_⟩|⟨aa,d,v',j,_,J,hd,_⟩|⟨j,_⟩<;>rw[M,j]<;>simp only[NOp.ap]
 ·exact Kp (by rw[C,hy];exact UW u.may h.may U)
 ·exact(Hl (nw h C J) (fun y=>(gV y).1)).symm
 ·exact Hl (nw u hy I) (fun y=>(gV y).1)
 ·rw[List.map_map,List.map_map];refine List.map_congr_left fun y _=>?_;exact Pj (Jq fq hq O hd hc) y
theorem Rk (j:f.o≠e.o):∀G,(gop f).ap ((gop e).ap G)=(gop e).ap ((gop f).ap G):=by
 intro G;have I:∀{x:GR} {o q b:Int},x.o≠o→nD o q b x=x:=fun h=>by
  unfold nD;rw[if_neg (fun hh=>h hh.1)]
 unfold gop;by_cases J:e.k=3<;>by_cases M:e.k=4<;>by_cases O:f.k=3<;>by_cases U:f.k=4<;>simp only[J,M,O,U,if_true,if_false,GOp.ap,Int.reduceEq]<;>try omega
 ·exact Ko j
 ·exact(Hj (I (fun e=>j e.symm)) je).symm
 ·exact Hj (I j) je
 ·rw[List.map_map,List.map_map];refine List.map_congr_left fun y _=>?_;show nD _ _ _ (nD _ _ _ y)=nD _ _ _ (nD _ _ _ y);unfold nD;by_cases u:y.o=e.o∧y.q=e.f
  ·have C : ¬(y.o=f.o∧y.q=f.f):=fun h=>j (h.1.symm.trans u.1);simp[u,show ¬e.o=f.o from fun e=>j e.symm]
  ·by_cases C:y.o=f.o∧y.q=f.f
   ·simp[C,show ¬f.o=e.o from j]
   ·simp[u,C]
theorem QS (hi:PI s)(h:OK e s)(u:OK f s)(C:f.o≠e.o):eff f (eff e s)=eff e (eff f s):=by
 obtain⟨hq,eo⟩:=qe h.may;obtain⟨fq,fo⟩:=qe u.may;have j:f.q≠e.q:=fun e=>C (by omega);have a:=after hi h;have b:=after hi u;have hN:(eff f (eff e s)).N=(eff e (eff f s)).N:=by
  show (nop f (eff e s)).ap ((nop e s).ap s.N)=(nop e (eff f s)).ap ((nop f s).ap s.N);rw[Mj hi h u C,Mj hi u h (fun e=>C e.symm)];exact RO hi h u C
 have hG:(eff f (eff e s)).G=(eff e (eff f s)).G:=Rk C s.G;have hV:(eff f (eff e s)).V=(eff e (eff f s)).V:=by
  show ((eff e s).V.set f.q ((eff e s).V.getD f.q 0+1))=((eff f s).V.set e.q ((eff f s).V.getD e.q 0+1))
  rw[a.V _ j,b.V _ (fun e=>j e.symm)];show (s.V.set e.q _).set f.q _=(s.V.set f.q _).set e.q _;rw[List.set_comm _ _ (fun e=>j e.symm)]
 have hI:(eff f (eff e s)).I=(eff e (eff f s)).I:=by
  show nO f (nO e s.I)=nO e (nO f s.I);unfold nO;split<;>split<;>try rfl
  by_cases J:(e.t-1).toNat=(f.t-1).toNat
  ·rw[J]
  ·rw[List.set_comm _ _ J]
 have hL:(eff f (eff e s)).L=(eff e (eff f s)).L:=by
  show nP f (nP e s.L)=nP e (nP f s.L);unfold nP;split<;>split<;>try rfl
  rw[List.set_comm _ _ (fun e=>j e.symm)]
 have hR:(eff f (eff e s)).R=(eff e (eff f s)).R:=by
  have O:=a.R _ j;have U:=b.R _ (fun e=>j e.symm);show kZ f (eff e s).R=kZ e (eff f s).R;unfold kZ;rw[O,U];show (if _ then (kZ e s.R).set _ _ else kZ e s.R)=(if _ then (kZ f s.R).set _ _ else kZ f s.R)
  unfold kZ;by_cases M:f.k=3∨f.k=4<;>by_cases c2:e.k=3∨e.k=4<;>simp only[M,c2,if_true,if_false];rw[List.set_comm _ _ (fun e=>j e.symm)]
 generalize eff f (eff e s)=x at *;generalize eff e (eff f s)=y at *;cases x;cases y
 simp_all
end
end
end Go.Proofs.YtkbhfjljieopoaaGreatDoor
