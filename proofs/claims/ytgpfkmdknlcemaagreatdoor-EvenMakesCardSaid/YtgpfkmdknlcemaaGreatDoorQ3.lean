import Derived.Test.YtgpfkmdknlcemaaGreatDoorSh
import Derived.WalkKit
import Derived.WalkSpells
import Derived.WalkLawsBesides
import Derived.KernelRfl
import Derived.Lib.Hide
import Derived.Lib.SlBytesConst
import Derived.Deep.MidRow
import Derived.Great.BuildSlice
import Derived.Maps.RangeRun
import Derived.MapKept
import Derived.Laws.StructEq
import Derived.Maps.AppendAt
import Derived.OrdersIn
import Derived.TacticsIn
import Derived.RangeFuncIn
import Derived.RangeFuncRecord
import Derived.RangeFuncCalls
import Derived.RangeFuncOwn
import Derived.RangeFuncLeaves
import Derived.Test.YtgpfkmdknlcemaaGreatDoorChecked
namespace Go.Proofs.YtgpfkmdknlcemaaGreatDoor
set_option maxRecDepth 100000
open Tryz
section
open Go.RowKit
def Ea (a:Option Addr)(i:Nat):Addr:=match a with|some ⟨b,o,_⟩=>⟨b,o+i,none⟩|none=>default
theorem Nk (b o i:Nat)(s:Option Nat):Ea (some ⟨b,o,s⟩) i=⟨b,o+i,none⟩:=rfl
structure RV (w:World) (a:Option Addr) (n c:Nat) (xs:List Value):Prop where
 len:xs.length=n
 cap:n≤c
 some_:0<n→∃b o,a=some ⟨b,o,none⟩
 nil_:a=none→n=0∧c=0
 cell:∀i v,xs[i]? = some v→w.cell? (Ea a i)=some v
theorem RV.nil (w:World):RV w none 0 0 []:=⟨rfl,Nat.le_refl _,fun h=>absurd h (by omega),fun _=>⟨rfl,rfl⟩,fun i v h=>by simp at h⟩
def u8v (c:UInt8):Value:=.int .u8 (c.toNat:Int)
def RB (w:World)(a:Option Addr)(n c:Nat)(l:List UInt8):Prop:=RV w a n c (l.map u8v)
def OV (w:World)(B:Nat)(E:TypeId)(a:Option Addr)(n c:Nat)(xs:List Value):Prop:=w.ownsRow B E 1 (.slice a n c) n xs
theorem OV.rv {w:World}{B:Nat}{E:TypeId}{a:Option Addr}{n c:Nat}{xs:List Value}(h:OV w B E a n c xs):RV w a n c xs:=by
 have C:xs.length=n:=by simpa using h.1
 rcases h.2 with⟨d,M⟩|⟨g,cap,j,d,V,hh,u,U,R,I⟩
 ·simp only[Value.slice.injEq]at d;obtain⟨rfl,_,rfl⟩:=d;subst M
  have:xs=[]:=List.eq_nil_of_length_eq_zero C
  subst this;exact RV.nil w
 ·simp only[Value.slice.injEq]at d;obtain⟨rfl,_,rfl⟩:=d;refine⟨C,u,fun _=>⟨g,0,rfl⟩,fun e=>by simp at e,fun i v hi=>?_⟩;have J:i<xs.length:=(List.getElem?_eq_some_iff.1 hi).1;rw[Nk,Nat.zero_add,cell_of_row w g i j E (0,0) hh];rw[←I]at hi;rw[List.getElem?_take]at hi;split at hi
  ·simpa using hi
  ·cases hi
theorem OV.block {w:World}{B:Nat}{E:TypeId}{a:Option Addr}{n c:Nat}{xs:List Value}(h:OV w B E a n c xs):∀k,(Value.slice a n c).ownBlock=some k→B≤k∧k<w.heap.size:=World.ownsRow.lt h
theorem OV.nil (w:World)(B:Nat)(E:TypeId):OV w B E none 0 0 []:=World.ownsRow_nil w B E 1
theorem fJ {w w':World}{B:Nat}{d:Option Nat}(h:w.grownBy w' d)(u:B≤w.heap.size)(j:∀k,d=some k→B≤k):Below B w w' :=
 (Below.refl B w).grown h u j
section
variable {P:Program}(w:World)
variable {ops:Array Oper}{rest:List Oper}{a:Act}{Q:Exit→Act→World→Prop}{dst:Option Tmp}{ty:TypeId}{pos:String}{after:Array Edge}
end
theorem qD (l:List UInt8):(re l).toList=l:=by
 simp[re]
@[go_sem ↓] theorem binOp_bstr_eql (t:TypeId) (l m:List UInt8):binOp .eql t (.string (re l)) (.string (re m))=pure (.bool (l==m)):=by
 rw[binOp_string_eql,qD,qD]
@[go_sem ↓] theorem binOp_bstr_neq (t:TypeId) (l m:List UInt8):binOp .neq t (.string (re l)) (.string (re m))=pure (.bool (!(l==m))):=by
 rw[binOp_string_neq,qD,qD]
@[go_sem ↓] theorem binOp_bstr_lss (t:TypeId) (l m:List UInt8):binOp .lss t (.string (re l)) (.string (re m))=pure (.bool (Op.bytesLess l m)):=by
 rw[binOp_string_lss,qD,qD]
section
variable {P:Program}(w:World)
variable {ops:Array Oper}{rest:List Oper}{a:Act}{Q:Exit→Act→World→Prop}{dst:Option Tmp}{ty:TypeId}{pos:String}{after:Array Edge}
end
end
section
open Go.RowKit
theorem dP {n:Int}(d : -9223372036854775808≤n)(h:n≤9223372036854775807):IntKind.i64.wrap n=n:=IntWalk.i64_in n ⟨d,h⟩
theorem hZ (n:Int):IntKind.u64.wrap n=n%18446744073709551616:=by simp[IntKind.wrap,IntKind.signed,IntKind.bits]
theorem Me (n:Int):IntKind.u8.wrap n=n%256:=by simp[IntKind.wrap,IntKind.signed,IntKind.bits]
section
variable {P:Program}{K:KV}{w:World}{t:TypeId}{cx cy:Bool}
theorem lW {d:BinOp}{x y v:Value}(j:(eqG d t cx cy x y).run P w=.ok () w)(u:(binOp d t x y).run P w=.ok v w)(h:K v w):bin P d t cx cy x y K w:=by
 unfold bin;refine gW (w':=w) (v:=v) ?_ h;simp only[Sem.run_bind,j,Result.andThen_ok,u]
theorem ml (d:BinOp)(k h:IntKind)(a b:Int):(eqG d t cx cy (.int k a) (.int h b)).run P w=.ok () w:=by
 unfold eqG eqGuard;cases d<;>simp[Sem.run_pure]
variable {k:IntKind}{a b:Int}
theorem bm (h:K (.bool (decide (a=b))) w):bin P .eql t cx cy (.int k a) (.int k b) K w:=by
 refine lW (ml ..) ?_ h
 have:(a==b)=decide (a=b):=by by_cases hh:a=b<;>simp[hh]
 simp[binOp,Op.intCmp,Sem.run_pure,this]
theorem cW (h:K (.bool (decide (a≠b))) w):bin P .neq t cx cy (.int k a) (.int k b) K w:=by
 refine lW (ml ..) ?_ h
 have:(a != b)=decide (a≠b):=by by_cases hh:a=b<;>simp[hh]
 simp only[binOp,Op.intCmp,ne_eq,not_true_eq_false,if_false,Sem.run_pure,this]
theorem aV (h:K (.bool (decide (a<b))) w):bin P .lss t cx cy (.int k a) (.int k b) K w:=by
 refine lW (ml ..) ?_ h;simp[binOp,Op.intCmp,Sem.run_pure]
theorem ir (h:K (.bool (decide (a≤b))) w):bin P .leq t cx cy (.int k a) (.int k b) K w:=by
 refine lW (ml ..) ?_ h;simp[binOp,Op.intCmp,Sem.run_pure]
theorem cB (h:K (.bool (decide (b<a))) w):bin P .gtr t cx cy (.int k a) (.int k b) K w:=by
 refine lW (ml ..) ?_ h;simp[binOp,Op.intCmp,Sem.run_pure]
theorem cH (h:K (.bool (decide (b≤a))) w):bin P .geq t cx cy (.int k a) (.int k b) K w:=by
 refine lW (ml ..) ?_ h;simp[binOp,Op.intCmp,Sem.run_pure]
theorem kf (h:K (.int k (k.wrap (a+b))) w):bin P .add t cx cy (.int k a) (.int k b) K w:=by
 refine lW (ml ..) ?_ h;simp[binOp,Op.intArith,Sem.run_pure]
theorem kg (h:K (.int k (k.wrap (a-b))) w):bin P .sub t cx cy (.int k a) (.int k b) K w:=by
 refine lW (ml ..) ?_ h;simp[binOp,Op.intArith,Sem.run_pure]
theorem Mf (h:K (.int k (k.wrap (a*b))) w):bin P .mul t cx cy (.int k a) (.int k b) K w:=by
 refine lW (ml ..) ?_ h;simp[binOp,Op.intArith,Sem.run_pure]
theorem aR (d : -9223372036854775808≤a+b)(j:a+b≤9223372036854775807)(h:K (.int .i64 (a+b)) w):bin P .add t cx cy (.int .i64 a) (.int .i64 b) K w :=
 kf (by rw[dP d j];exact h)
theorem aP (h:K (.int .i64 (a+b)) w)(d : -9223372036854775808≤a+b:=by omega)(j:a+b≤9223372036854775807:=by omega):bin P .add t cx cy (.int .i64 a) (.int .i64 b) K w:=aR d j h
theorem bg (d : -9223372036854775808≤a-b)(j:a-b≤9223372036854775807)(h:K (.int .i64 (a-b)) w):bin P .sub t cx cy (.int .i64 a) (.int .i64 b) K w :=
 kg (by rw[dP d j];exact h)
theorem sP (h:K (.int .i64 (a-b)) w)(d : -9223372036854775808≤a-b:=by omega)(j:a-b≤9223372036854775807:=by omega):bin P .sub t cx cy (.int .i64 a) (.int .i64 b) K w:=bg d j h
theorem Eb (d : -9223372036854775808≤a*b)(j:a*b≤9223372036854775807)(h:K (.int .i64 (a*b)) w):bin P .mul t cx cy (.int .i64 a) (.int .i64 b) K w :=
 Mf (by rw[dP d j];exact h)
theorem xT (d:b≠0)(h:K (.int k (a.tmod b)) w):bin P .rem t cx cy (.int k a) (.int k b) K w:=by
 refine lW (ml ..) ?_ h;simp[binOp,Op.intDiv,Sem.run_pure,d]
theorem Mg (d:b≠0)(h:K (.int k (k.wrap (a.tdiv b))) w):bin P .quo t cx cy (.int k a) (.int k b) K w:=by
 refine lW (ml ..) ?_ h;simp[binOp,Op.intDiv,Sem.run_pure,d]
theorem yc (d:0≤a)(j:0<b)(h:K (.int k (a%b)) w):bin P .rem t cx cy (.int k a) (.int k b) K w :=
 xT (by omega) (by rw[Int.tmod_eq_emod_of_nonneg d];exact h)
theorem Gu (d:0≤a)(j:a≤9223372036854775807)(u:0<b)(h:K (.int .i64 (a / b)) w):bin P .quo t cx cy (.int .i64 a) (.int .i64 b) K w :=
 Mg (by omega) (by
  rw[Int.tdiv_eq_ediv_of_nonneg d,dP (Int.le_trans (by omega) (Int.ediv_nonneg d (by omega))) (Int.le_trans (Int.ediv_le_self b d) j)];exact h)
theorem AA {d:IntKind}(j:0≤b)(h:K (.int k (k.wrap (a*2 ^ (min b.toNat k.bits)))) w):bin P .shl t cx cy (.int k a) (.int d b) K w:=by
 refine lW (ml ..) ?_ h
 have : ¬b<0:=by omega
 simp[binOp,Op.shift,Sem.run_pure,this]
theorem Mh {d:IntKind}(j:0≤b)(h:K (.int k (a.fdiv (2 ^ (min b.toNat k.bits)))) w):bin P .shr t cx cy (.int k a) (.int d b) K w:=by
 refine lW (ml ..) ?_ h
 have : ¬b<0:=by omega
 simp[binOp,Op.shift,Sem.run_pure,this]
def sH (op:BinOp)(k:IntKind)(x y:Int):Int :=
 let a:=BitVec.ofInt k.bits x
 let b:=BitVec.ofInt k.bits y
 match op with
 | .and=>k.wrap (a &&& b).toNat
 | .or=>k.wrap (a ||| b).toNat
 | .xor=>k.wrap (a ^^^ b).toNat
 | _=>k.wrap (a &&& ~~~b).toNat
theorem SU (h:K (.int k (sH .and k a b)) w):bin P .and t cx cy (.int k a) (.int k b) K w:=by
 refine lW (ml ..) ?_ h;simp[binOp,Op.intBits,Sem.run_pure,sH]
theorem Uc (h:K (.int k (sH .or k a b)) w):bin P .or t cx cy (.int k a) (.int k b) K w:=by
 refine lW (ml ..) ?_ h;simp[binOp,Op.intBits,Sem.run_pure,sH]
theorem HE (h:K (.int k (sH .xor k a b)) w):bin P .xor t cx cy (.int k a) (.int k b) K w:=by
 refine lW (ml ..) ?_ h;simp[binOp,Op.intBits,Sem.run_pure,sH]
theorem eh {x:Bool}(h:K (.bool (!x)) w):un P .not (.bool x) K w:=by
 unfold un;exact gW (by simp[Op.unary,Sem.run_pure]) h
theorem rT {p:Prop}[Decidable p](h:K (.bool (decide (¬p))) w):un P .not (.bool (decide p)) K w :=
 eh (by rw[←decide_not];exact h)
theorem eK {s d:TypeId}{j:IntKind}{u:TypeDesc}(I:P.underlying s=some u)(C:P.underlying d=some (.int j))(h:K (.int j (j.wrap a)) w):conv P s d (.int k a) K w:=by
 unfold conv
 refine gW (w':=w) ?_ h;cases u<;>simp[convert,run_underlying I,run_underlying C,Conv.intToInt,Sem.run_pure]
theorem vP {vs:Array Value}{i:Nat}{v:Value}(d:vs[i]? = some v)(h:K v w):ext P (.tuple vs) i K w:=by
 unfold ext;exact gW (by simp[Instr.extract,d,Sem.run_pure]) h
theorem eB {a b:Value}(h:K a w):ext P (.tuple #[a,b]) 0 K w:=vP rfl h
theorem eC {a b:Value}(h:K b w):ext P (.tuple #[a,b]) 1 K w:=vP rfl h
theorem bR {x y:Value}{p:Prop}[Decidable p](d:p)(h:K x w):pick (.bool (decide p)) x y K w:=⟨_,rfl,by simp[d,h]⟩
theorem bE {x y:Value}{p:Prop}[Decidable p](d : ¬p)(h:K y w):pick (.bool (decide p)) x y K w:=⟨_,rfl,by simp[d,h]⟩
theorem db {x y:Value}(h:K x w):pick (.bool true) x y K w:=⟨_,rfl,h⟩
theorem fm {x y:Value}(h:K y w):pick (.bool false) x y K w:=⟨_,rfl,h⟩
theorem CR {p:Prop}[Decidable p]{A B:Prop}(d:p→A)(j : ¬p→B):cond (.bool (decide p)) A B:=⟨_,rfl,fun h=>d (by simpa using h),fun h=>j (by simpa using h)⟩
theorem ay {p:Prop}[Decidable p]{A B:Prop}(d:p)(h:A):cond (.bool (decide p)) A B:=⟨_,rfl,fun _=>h,fun hh=>absurd d (by simpa using hh)⟩
theorem au {p:Prop}[Decidable p]{A B:Prop}(d : ¬p)(h:B):cond (.bool (decide p)) A B:=⟨_,rfl,fun hh=>absurd (by simpa using hh) d,fun _=>h⟩
theorem cOt {p:Prop}[Decidable p]{A B:Prop}(h:A)(d:p:=by omega):cond (.bool (decide p)) A B:=ay d h
theorem cOf {p:Prop}[Decidable p]{A B:Prop}(h:B)(d : ¬p:=by omega):cond (.bool (decide p)) A B:=au d h
theorem bu {A B:Prop}(h:A):cond (.bool true) A B:=⟨_,rfl,fun _=>h,(fun hh=>by cases hh)⟩
theorem bw {A B:Prop}(h:B):cond (.bool false) A B:=⟨_,rfl,(fun hh=>by cases hh),fun _=>h⟩
theorem ui {c:Bool}{A B:Prop}(d:c=true→A)(h:c=false→B):cond (.bool c) A B:=⟨c,rfl,d,h⟩
theorem aa {s:KV→World→Prop}{k:KV}{v:Value}(h:∀K:KV,K v w→s K w)(d:k v w):sti s k w:=⟨v,h _ ⟨rfl,rfl⟩,d⟩
variable {A B:(List Value→World→Prop)→Prop}{KL:List Value→World→Prop}
theorem Gv {v:Value}{d:Bool}(j:v=.bool d)(h:A KL):aJ v d A B KL:=⟨fun _=>h,fun hh=>absurd (by rw[j];rfl) hh⟩
theorem CS {v:Value}{d:Bool}(j:asB v≠some d)(h:B KL):aJ v d A B KL:=⟨fun hh=>absurd hh j,fun _=>h⟩
theorem dE {p:Prop}[Decidable p](h:p)(d:A KL):aJ (.bool (decide p)) true A B KL:=Gv (by simp[h]) d
theorem eF {p:Prop}[Decidable p](h : ¬p)(d:B KL):aJ (.bool (decide p)) true A B KL:=CS (by simp[asB,h]) d
theorem iZ {p:Prop}[Decidable p](h:p)(d:B KL):aJ (.bool (decide p)) false A B KL:=CS (by simp[asB,h]) d
theorem dZ {p:Prop}[Decidable p](h : ¬p)(d:A KL):aJ (.bool (decide p)) false A B KL:=Gv (by simp[h]) d
theorem nH (d:A KL):aJ (.bool true) true A B KL:=Gv rfl d
theorem fK (d:B KL):aJ (.bool true) false A B KL:=CS (by simp[asB]) d
theorem nR (d:A KL):aJ (.bool false) false A B KL:=Gv rfl d
theorem Gw {d:Bool}(j:B KL):aJ undef d A B KL:=CS (fun h=>by cases h) j
theorem mK (d:B KL):aJ (.bool false) true A B KL:=CS (by simp[asB]) d
theorem aB {f:FuncId}{args:Array Value}(d:Da P f)(h:Gives P f args w K):call P f args K w:=⟨d,h⟩
theorem uj {j:Builtin}{d:Array TypeId}{ty:TypeId}{cs:Array Bool}{args:Array Value}{v:Value}{w':World}(u:(builtin j d ty cs args).run P w=.ok (.value v) w')(h:K v w'):blt P j d ty cs args K w:=by
 unfold blt;rw[u];exact h
theorem bx {e ty : TypeId} {cs : Array Bool} {av : Option Addr} {n c : Nat} (ht : P.underlying t = some (.slice e)) (h : K (.int .i64 (n : Int)) w) : blt P .len #[t] ty cs #[.slice av n c] K w :=
  uj (by rw [BigFrame.builtin_len]; simp [Builtin.len_, run_underlying ht, Sem.run_pure, goInt]) h
theorem AB {e:TypeId}(j:P.underlying t=some (.slice e))(u:∀w,(sizeOf e).run P w=.ok 1 w){av:Option Addr}{n c:Nat}{iv:Int}(h0:0≤iv)(I:iv<n)(d:0<n→∃b o,av=some ⟨b,o,none⟩)(h:K (.pointer (some (Ea av iv.toNat))) w):aU P t (.slice av n c) (.int k iv) K w:=by
 obtain⟨b,o,rfl⟩:=d (by omega);have C:((⟨b,o,none⟩:Addr).add iv.toNat)=⟨b,o+iv.toNat,none⟩:=by unfold Addr.add;split<;>simp_all
 unfold aU;refine gW (w':=w) ?_ h;simp only[Instr.indexAt,asIntOf,Sem.run_bind,Sem.run_pure,Result.andThen_ok,run_underlying j,u,h0,I,and_self,if_true,Nat.mul_one,C];rfl
theorem Gx {d:Addr}{v:Value}(j:(loadVar t d).run P w=.ok v w)(h:K v w):ld P t (.pointer (some d)) K w:=by
 unfold ld;exact gW (by simp only[Instr.loadAt,Instr.sureAddr,Sem.run_bind,Sem.run_pure,Result.andThen_ok,j]) h
theorem vk {d:Addr}{v:Value}(j:∀w,(isAgg t).run P w=.ok false w)(u:w.cell? d=some v)(h:K v w):ld P t (.pointer (some d)) K w:=by
 refine Gx ?_ h;simp[loadVar,Sem.run_bind,j,load,u,Sem.run]
theorem QB {ad:Addr}{v u:Value}(C:∀w,(sizeOf t).run P w=.ok 1 w)(R:v.oneCell'=true)(d:v.cells=#[v])(M:w.cell? ad=some u)(I:w.frozen? ad=false)(j:ad.spot=none)(h:K undef (w.setCell ad v)):sto P t (.pointer (some ad)) v K w:=by
 unfold sto;have J:ad.add 0=ad:=rfl;refine GD (w':=w.setCell ad v) (u:=()) ?_ h;simp[Instr.storeAt,Instr.sureAddr,storeVar,Sem.run_bind,C,d,storeCells,store,J,M,I];cases v<;>simp_all [Value.oneCell',Sem.run]
end
end
section
open Go.RowKit
def blk (w:World)(b:Nat)(E:TypeId)(cs:List Value):Prop:=w.heap[b]? = some (.cells cs.toArray E (0,0))
theorem blk.lt {w:World}{b:Nat}{E:TypeId}{cs:List Value}(h:blk w b E cs):b<w.heap.size:=(Array.getElem?_eq_some_iff.1 h).1
theorem blk.ne {w:World}{b b':Nat}{E E':TypeId}{cs d:List Value}(h:blk w b E cs)(j:blk w b' E' d)(u:E≠E'):b≠b':=by
 rintro rfl;unfold blk at *;rw[h]at j;simp only[Option.some.injEq,Obj.cells.injEq]at j;exact u j.2.1
theorem blk.cell {w:World}{b:Nat}{E:TypeId}{cs:List Value}(h:blk w b E cs)(o:Nat):w.cell? ⟨b,o,none⟩=cs[o]? := by
 unfold World.cell?;rw[h];simp
theorem blk.frozen {w:World}{b:Nat}{E:TypeId}{cs:List Value}(h:blk w b E cs)(o:Nat):w.frozen? ⟨b,o,none⟩=false:=by
 unfold World.frozen?;rw[h];simp
structure Keep (T:List TypeId) (B:Nat) (w w':World):Prop where
 os:w'.os=w.os
 tape:w'.tape=w.tape
 output:w'.output=w.output
 size:w.heap.size≤w'.heap.size
 block:∀(k:Nat) (o:Obj),w.heap[k]? = some o→(k<B∨∀cs E z,o=.cells cs E z→E∉T)→w'.heap[k]? = some o
theorem Keep.refl (T:List TypeId)(B:Nat)(w:World):Keep T B w w:=⟨rfl,rfl,rfl,Nat.le_refl _,fun _ _ h _=>h⟩
theorem Keep.trans {T:List TypeId}{B:Nat}{a b c:World}(h:Keep T B a b)(k:Keep T B b c):Keep T B a c :=
 ⟨k.os.trans h.os,k.tape.trans h.tape,k.output.trans h.output,Nat.le_trans h.size k.size,fun i o j d=>k.block i o (h.block i o j d) d⟩
theorem Keep.of {T:List TypeId}{B:Nat}{w w':World}(h:Below w.heap.size w w'):Keep T B w w' :=
 ⟨h.os,h.tape,h.output,h.size,fun k o d _=>by rw[h.block k (Array.getElem?_eq_some_iff.1 d).1];exact d⟩
theorem Keep.below {T:List TypeId}{B:Nat}{w w':World}(h:Keep T B w w')(u:B≤w.heap.size):Below B w w' :=
 ⟨h.os,h.tape,h.output,h.size,fun k j=>by
  have d:k<w.heap.size:=by omega
  rw[h.block k _ (Array.getElem?_eq_getElem d) (.inl j),Array.getElem?_eq_getElem d]⟩
theorem Keep.drew {T:List TypeId}{B:Nat}{a w:World}(h:Keep T B a w):Keep T B a w.drew:=⟨h.os,h.tape,h.output,h.size,h.block⟩
theorem Keep.undrew {T:List TypeId}{B:Nat}{a w:World}(h:Keep T B a.drew w):Keep T B a w:=⟨h.os,h.tape,h.output,h.size,h.block⟩
theorem Keep.blk {T:List TypeId}{B:Nat}{w w':World}{b:Nat}{E:TypeId}{cs:List Value}(h:Keep T B w w')(d:blk w b E cs)(j:b<B∨E∉T):blk w' b E cs :=
 h.block _ _ d (j.imp id fun h cs E z e=>by cases e;exact h)
theorem af {B:Nat}{w w':World}{b:Nat}{E:TypeId}{cs:List Value}(h:Below B w w')(d:blk w b E cs)(j:b<B):blk w' b E cs:=by
 unfold Go.Proofs.YtgpfkmdknlcemaaGreatDoor.blk;rw[h.block b j];exact d
theorem blk.drew {w:World}{b:Nat}{E:TypeId}{cs:List Value}(h:blk w b E cs):blk w.drew b E cs:=h
structure Oth (b:Nat) (w w':World):Prop where
 os:w'.os=w.os
 tape:w'.tape=w.tape
 output:w'.output=w.output
 size:w'.heap.size=w.heap.size
 other:∀k,k≠b→w'.heap[k]? = w.heap[k]?
theorem Oth.blk {b k:Nat}{w w':World}{E:TypeId}{cs:List Value}(h:Oth b w w')(j:blk w k E cs)(d:k≠b):blk w' k E cs:=by
 unfold Go.Proofs.YtgpfkmdknlcemaaGreatDoor.blk;rw[h.other k d];exact j
theorem Oth.keep {T:List TypeId}{B b:Nat}{w w':World}{E:TypeId}{cs:List Value}(h:Oth b w w')(u:Go.Proofs.YtgpfkmdknlcemaaGreatDoor.blk w b E cs)(C:E∈T)(I:B≤b):Keep T B w w' :=
 ⟨h.os,h.tape,h.output,by rw[h.size];exact Nat.le_refl _,fun k o j d=>by
  have:k≠b:=by
   rintro rfl;rcases d with d|d
   ·omega
   ·unfold Go.Proofs.YtgpfkmdknlcemaaGreatDoor.blk at u;rw[u]at j;cases j;exact d _ _ _ rfl C
  rw[h.other k this];exact j⟩
theorem Oth.below {b:Nat}{w w':World}(h:Oth b w w'):Below b w w' :=
 ⟨h.os,h.tape,h.output,by rw[h.size];exact Nat.le_refl _,fun k d=>h.other k (by omega)⟩
theorem Keep.grown {T:List TypeId}{B B2:Nat}{w w':World}{E:TypeId}{a:Option Addr}{n c:Nat}{xs:List Value}{s:Nat}(d:w.grownBy w' (Value.slice a n c).ownBlock)(I:w.ownsRow B2 E s (.slice a n c) n xs)(M:E∈T)(U:B≤B2):Keep T B w w' :=
 ⟨d.os,d.tape,d.output,d.size,fun k o j h=>by
  have u:k<w.heap.size:=(Array.getElem?_eq_some_iff.1 j).1;rw[d.block k u ?_];exact j;rcases I.2 with⟨C,_⟩|⟨g,cap,J,C,R,hh,_⟩
  ·cases C;simp[Value.ownBlock]
  ·cases C;simp only[Value.ownBlock,ne_eq,Option.some.injEq];rintro rfl;rcases h with h|h
   ·omega
   ·rw[hh]at j;cases j;exact h _ _ _ rfl M⟩
section
variable {P:Program}{K:KV}{w:World}{t:TypeId}{b o:Nat}{E:TypeId}{cs:List Value}
theorem zX (b o j:Nat):(⟨b,o,none⟩:Addr).add j=⟨b,o+j,none⟩:=Addr.add_mid b o j
theorem aw {a:Addr}(h:K (.pointer (some a)) w):bo (.pointer (some a)) K w:=h
theorem ld1 {v:Value}(j:∀w,(isAgg t).run P w=.ok false w)(u:blk w b E cs)(d:cs[o]? = some v)(h:K v w):ld P t (.pointer (some ⟨b,o,none⟩)) K w :=
 vk j (by rw[u.cell,d]) h
theorem ivS {k : Nat} : Value.int .i64 ((k : Int) + 1) = .int .i64 ((k + 1 : Nat) : Int) := congrArg (Value.int .i64) (by push_cast; rfl)
theorem lK {v:Value}(u:blk w b E cs)(d:cs[o]? = some v)(h:K v w)(j:∀w,(isAgg t).run P w=.ok false w:=by intro _;kernel_rfl):ld P t (.pointer (some ⟨b,o,none⟩)) K w:=ld1 j u d h
theorem ldA {n:Nat}{vs:List Value}{d:TypeDesc}(C:P.underlying t=some d)(I:d.isRow=true)(hi:(P.info? t).map (·.size)=some n)(R:blk w b E cs)(U:(cs.drop o).take n=vs)(M:vs.length=n)(h:K (.agg vs.toArray) w):ld P t (.pointer (some ⟨b,o,none⟩)) K w:=by
 refine Gx (run_loadVar_mid w b o t vs d ?_ C I (by rw[M];exact hi)) h;intro j v u;rw[R.cell];subst U;have J:=(List.getElem?_eq_some_iff.1 u).1;rw[List.getElem?_take]at u;split at u
 ·rw[List.getElem?_drop]at u;exact u
 ·cases u
theorem dY {v:Value}(J:∀w,(sizeOf t).run P w=.ok 1 w)(j:blk w b E cs)(I:o<cs.length)(u:v.oneCell'=true)(h:∀w',blk w' b E (cs.set o v)→Oth b w w'→K undef w'):sto P t (.pointer (some ⟨b,o,none⟩)) v K w:=by
 have M:w.cell? ⟨b,o,none⟩=some cs[o]:=by rw[j.cell,List.getElem?_eq_getElem I]
 have d:v.cells=#[v]:=by cases v<;>first|rfl|simp[Value.oneCell']at u
 refine QB J u d M (j.frozen o) rfl (h _ ?_ ⟨rfl,rfl,rfl,by simp[World.setCell],fun k C=>Below.heap_setCell _ _ _ _ C⟩);unfold blk at *;simp only[World.setCell,Array.getElem?_modify];rw[if_pos trivial,j];simp
theorem HF (b:Nat):∀(vs:List Value) (o:Nat) (w:World),Oth b w (w.setCells b o vs):=by
 intro vs
 induction vs with
 | nil=>intro o w;exact⟨rfl,rfl,rfl,rfl,fun _ _=>rfl⟩
 | cons v vs ih =>
  intro o w;have h:=ih (o+1) (w.setCell ⟨b,o,none⟩ v);rw[World.setCells];exact⟨h.os,h.tape,h.output,by rw[h.size];simp[World.setCell],fun k d=>(h.other k d).trans (Below.heap_setCell _ _ _ _ d)⟩
theorem Ke {b:Nat}{E:TypeId}:∀(vs:List Value) (o:Nat) (w:World) (cs:List Value),blk w b E cs→o+vs.length≤cs.length→blk (w.setCells b o vs) b E (cs.take o++vs++cs.drop (o+vs.length)):=by
 intro vs
 induction vs with
 | nil=>intro o w cs h j;rw[World.setCells];simpa using h
 | cons v vs ih =>
  intro o w cs h j;rw[World.setCells];simp only[List.length_cons]at j;have u:blk (w.setCell ⟨b,o,none⟩ v) b E (cs.set o v):=by
   unfold blk at *;simp only[World.setCell,Array.getElem?_modify];rw[if_pos trivial,h];simp
  have d:=ih (o+1) _ _ u (by simp;omega)
  have:(cs.set o v).take (o+1)++vs++(cs.set o v).drop (o+1+vs.length)=cs.take o++(v::vs)++cs.drop (o+(vs.length+1)):=by
   have e:cs.set o v=cs.take o++v::cs.drop (o+1):=by rw[List.set_eq_take_append_cons_drop,if_pos (by omega)]
   have e2:(cs.take o).length=o:=by rw[List.length_take];omega
   rw[e,List.take_append,List.drop_append,e2,List.take_take,List.drop_take];simp only[show min (o+1) o=o by omega,show o+1-o=1 by omega,List.take_succ_cons,List.take_zero,show o-(o+1+vs.length)=0 by omega,List.nil_append,show o+1+vs.length-o=vs.length+1 by omega,List.drop_succ_cons,List.drop_drop,
    show o+1+vs.length=o+(vs.length+1)by omega,List.append_assoc,List.cons_append,List.take_zero,show o-(o+(vs.length+1))=0 by omega,show o+(vs.length+1)-o=vs.length+1 by omega,List.nil_append,List.drop_succ_cons,List.drop_drop,
    show o+1+vs.length=o+(vs.length+1)by omega]
  rw[this]at d;exact d
theorem iz {vs:List Value}{n:Nat}(hi:(P.info? t).map (·.size)=some n)(J:vs.length=n)(d:blk w b E cs)(u:o+n≤cs.length)(I:∀v∈vs,v.oneCell'=true)(h:∀w',blk w' b E (cs.take o++vs++cs.drop (o+n))→Oth b w w'→K undef w'):sto P t (.pointer (some ⟨b,o,none⟩)) (.agg vs.toArray) K w:=by
 subst J;have M:=run_storeAt_mid (P:=P) w b o t vs.toArray (fun j C=>⟨by
  rw[d.cell,List.getElem?_eq_getElem (by simp at C;omega)];rfl,d.frozen _⟩) (by simpa using hi) (by simpa using I)
 unfold sto;exact GD M (h _ (by simpa using Ke vs o w cs d u) (by simpa using HF b vs o w))
theorem dc {v:Value}(h:∀w',blk w' w.heap.size t v.cells.toList→Below w.heap.size w w'→w'.heap.size=w.heap.size+1→K (.pointer (some ⟨w.heap.size,0,none⟩)) w'):box P t v K w:=by
 unfold box;refine gW (w':=w.alloc (.cells v.cells t)) (v:=.pointer (some ⟨w.heap.size,0,none⟩)) ?_ (h _ ?_ (fJ (World.grownBy_alloc _ _ none) (Nat.le_refl _) (fun k d=>by cases d)) (by simp))
 ·simp[Instr.box,newVar,newRow]
 ·unfold blk;rw[heap_alloc_new]
theorem dH {z:Value}(d:(P.info? t).bind (·.zero)=some z)(h:∀w',blk w' w.heap.size t z.cells.toList→Below w.heap.size w w'→w'.heap.size=w.heap.size+1→K (.pointer (some ⟨w.heap.size,0,none⟩)) w'):alc P t K w:=by
 obtain⟨i,hi,d⟩:=Option.bind_eq_some_iff.1 d;unfold alc;refine gW (w':=w.alloc (.cells z.cells t)) (v:=.pointer (some ⟨w.heap.size,0,none⟩)) ?_ (h _ ?_ (fJ (World.grownBy_alloc _ _ none) (Nat.le_refl _) (fun k j=>by cases j)) (by simp))
 ·simp[Instr.alloc,zeroValue,typeInfo,hi,d,newVar,newRow]
 ·unfold blk;rw[heap_alloc_new]
theorem fS {ps:Array (Nat×Value)}{vs:List Value}(d:P.built t ps.toList=some vs.toArray)(h:K (.agg vs.toArray) w):bld P t ps K w:=by
 unfold bld;exact gW (run_build w t ps _ d) h
def QC (P:Program)(s:TypeId)(f:Nat):Option Nat :=
 match P.underlying s with
 | some (.struct fs) =>
  match fs[f]? with
  | some fd=>match P.info? fd.type with
   | some i=>match Nat.beq i.size 0 with|true=>none|false=>some fd.offset
   | none=>none
  | none=>none
 | _=>none
theorem aM {f off:Nat}(d:QC P t f=some off)(h:K (.pointer (some ⟨b,o+off,none⟩)) w):ai P t (.pointer (some ⟨b,o,none⟩)) f K w:=by
 unfold QC at d;split at d
 ·rename_i fs C;split at d
  ·rename_i J u;split at d
   ·rename_i i hi;split at d
    ·cases d
    ·rename_i h0;cases d;have I:(sizeOf J.type).run P w=.ok i.size w:=by simp[sizeOf,typeInfo,hi]
     have j:¬i.size=0:=fun e=>by rw[e]at h0;exact absurd h0 (by decide)
     unfold ai;refine gW (w':=w) ?_ h;simp only[Instr.fieldAt,Sem.run_bind,run_underlying C,Result.andThen_ok,u,Instr.sureAddr,Sem.run_pure,fieldPlace,I,j,if_false,zX]
   ·cases d
  ·cases d
 ·cases d
theorem dB {e:TypeId}{n s:Nat}{k:IntKind}{i:Int}(d:P.underlying t=some (.array n e))(j:∀w,(sizeOf e).run P w=.ok s w)(h0:0≤i)(u:i<n)(h:K (.pointer (some ⟨b,o+i.toNat*s,none⟩)) w):aU P t (.pointer (some ⟨b,o,none⟩)) (.int k i) K w:=by
 unfold aU;refine gW (w':=w) ?_ h;simp only[Instr.indexAt,asIntOf,Instr.sureAddr,Sem.run_bind,Sem.run_pure,Result.andThen_ok,run_underlying d,j,h0,u,and_self,if_true,zX]
theorem eu {e:TypeId}{n c s:Nat}{k:IntKind}{i:Int}(d:P.underlying t=some (.slice e))(j:∀w,(sizeOf e).run P w=.ok s w)(h0:0≤i)(u:i<n)(h:K (.pointer (some ⟨b,o+i.toNat*s,none⟩)) w):aU P t (.slice (some ⟨b,o,none⟩) n c) (.int k i) K w:=by
 unfold aU;refine gW (w':=w) ?_ h;simp only[Instr.indexAt,asIntOf,Instr.sureAddr,Sem.run_bind,Sem.run_pure,Result.andThen_ok,run_underlying d,j,h0,u,and_self,if_true,zX]
theorem iR {e:TypeId}{n c s:Nat}{k:IntKind}{i:Int}(d:P.underlying t=some (.slice e))(h:K (.pointer (some ⟨b,o+i.toNat*s,none⟩)) w)(j:∀w,(sizeOf e).run P w=.ok s w:=by intro _;kernel_rfl)(h0:0≤i:=by omega)(u:i<n:=by omega):aU P t (.slice (some ⟨b,o,none⟩) n c) (.int k i) K w:=eu d j h0 u h
theorem oe {e:TypeId}{n s:Nat}{ps:Array (Nat×Value)}(vs:List Value)(M:P.underlying t=some (.slice e))(hi:(P.info? e).map (·.size)=some s)(R:((P.info? e).bind (·.zero)).isSome=true)(U:0<s)(X:n=vs.length)(h0:vs.length≠0)(V:n*s≤16777216)(I:ps.toList=(vs.zipIdx 0).map fun x=>(x.2,x.1))(Z:∀v∈vs,v.cells.size=s)(h:∀w',blk w' w.heap.size e (vs.flatMap fun v=>v.cells.toList)→Below w.heap.size w w'→w'.heap.size=w.heap.size+1→K (.slice (some ⟨w.heap.size,0,none⟩) n n) w'):dl P t n ps K w:=by
 subst X;obtain⟨j,u,C⟩:∃j,P.info? e=some j∧j.size=s:=by
  cases J:P.info? e with
  | none=>rw[J]at hi;cases hi
  | some j=>rw[J]at hi;exact⟨j,rfl,by simpa using hi⟩
 obtain⟨z,d⟩:=Option.isSome_iff_exists.1 R;rw[u]at d;have d:j.zero=some z:=d;subst C;have hf:=Go.Great.fill_whole U vs ((Array.range (vs.length*j.size)).map (z.cells[· % z.cells.size]!)) Z (by simp);unfold dl
 refine gW (run_buildSlice (P:=P) w t e vs.length ps _ j z M u d (by omega) (by intro h;rcases Nat.mul_eq_zero.1 h with h|h<;>omega) (by rw[I];exact hf)) (h _ ?_ (fJ (World.grownBy_alloc _ _ none) (Nat.le_refl _) (fun k hk=>by cases hk)) (by simp));unfold blk;rw[heap_alloc_new]
theorem ia {f:FuncId}{d args cap j:Array Value}(u:d++args++cap=j)(h:call P f j K w):dC P (.func (.func f) d cap) args K w:=⟨f,d,cap,rfl,by rw[u];exact h⟩
theorem SV {e ty:TypeId}{cs:Array Bool}{base:Nat}{i:TypeInfo}{z:Value}{d s:Nat}(ht:P.underlying t=some (.slice e))(hi:P.info? e=some i)(hz:i.zero=some z)(J:i.size=s)(V:i.bytes=d)(ag:z.cells.size=s)(Z:0<s){av:Option Addr}{n c:Nat}{xs:List Value}(R:w.ownsRow base e s (.slice av n c) n xs){g q:Nat}{m c2:Nat}{ys zs:List Value}(hy:blk w g E zs)(ad:ys.length=m*s)(al:(zs.drop q).take (m*s)=ys)(h1:∀u∈ys,u.oneCell'=true)(C:(n+m)*d≤140737488355328)(am:n+m≤9223372036854775807)(I:base≤w.heap.size)(h:∀M c' w',w'.ownsRow base e s (.slice M (n+m) c') (n+m) (xs++ys)→w.grownBy w' (Value.slice av n c).ownBlock→K (.slice M (n+m) c') w'):blt P .append #[t,t] ty cs #[.slice av n c,.slice (some ⟨g,q,none⟩) m c2] K w:=by
 have hn:∀j u,ys[j]? = some u→w.cell? ((⟨g,q,none⟩:Addr).add j)=some u:=by
  intro j u U;rw[zX,hy.cell];subst al;rw[List.getElem?_take]at U;split at U
  ·rw[List.getElem?_drop]at U;exact U
  ·cases U
 obtain⟨v',w',hr,h2,h3,_⟩:=run_append_own (P:=P) w base t ty e i z s d ht hi hz J V ag Z _ n xs R ⟨g,q,none⟩ m c2 ys ad hn h1 (by simp only[maxLen];omega) C I;obtain⟨M,c',rfl⟩:∃M c',v'=.slice M (n+m) c':=by
  rcases h2.2 with⟨X,hn⟩|⟨g,cap,an,X,_⟩
  ·exact⟨none,0,by rw[X,hn]⟩
  ·exact⟨_,cap,X⟩
 exact uj (by rw[BigFrame.builtin_append];simp only[Sem.run_bind,hr,Result.andThen_ok,Sem.run_pure]) (h M c' w' h2 h3)
/-! ## In a region that draws -/
theorem ab {S:World→Prop}{s:KV→World→Prop}{k:Value→Prop}{v:Value}(h:∀w,S w→∀K:KV,K v w→s K w)(d:k v):hld S s k:=⟨v,fun w j=>h w j _ ⟨rfl,rfl⟩,d⟩
theorem aE {b:(World→Prop)→World→Prop}(S:World→Prop)(d:S w)(h:b S w):aK b w:=⟨S,d,h⟩
end
theorem fD {v:Value}{d:Bool}{S:World→Prop}{s:KV→World→Prop}{k:Value→Prop}{x:Value}(u:asB v=some d)(h:∀w,S w→∀K:KV,K x w→s K w)(j:k x):hG v d S s k :=
 ⟨x,fun _ w C=>h w C _ ⟨rfl,rfl⟩,fun hh=>absurd u hh,j⟩
theorem Fe {v:Value}{d:Bool}{s:KV→World→Prop}{K:KV}{w:World}(j:asB v=some d)(h:s K w):xG v d s K w:=⟨fun _=>h,fun hh=>absurd j hh⟩
theorem Ec {p:Prop}[Decidable p](d:p):asB (.bool (decide p))=some true:=by show some (decide p)=some true;rw[decide_eq_true d]
theorem vF {p:Prop}[Decidable p](d : ¬p):asB (.bool (decide p))=some false:=by show some (decide p)=some false;rw[decide_eq_false d]
end
section
open Go.RowKit
section
variable {P:Program}{K:KV}{w:World}{t:TypeId}
theorem RK {ats : Array TypeId} {ty : TypeId} {cs : Array Bool} {k k' : IntKind} {x y : Int} (h : K (.int k (if x < y then y else x)) w) : blt P .max ats ty cs #[.int k x, .int k' y] K w :=
  uj (v := .int k (if x < y then y else x)) (w' := w) (by rw [BigFrame.builtin_max]; simp [Builtin.max_, Builtin.max2, Sem.run_pure]) h
theorem Vc {ats : Array TypeId} {ty : TypeId} {cs : Array Bool} {k k' : IntKind} {x y : Int} (h : K (.int k (if y < x then y else x)) w) : blt P .min ats ty cs #[.int k x, .int k' y] K w :=
  uj (v := .int k (if y < x then y else x)) (w' := w) (by rw [BigFrame.builtin_min]; simp [Builtin.min_, Builtin.min2, Sem.run_pure]) h

end
section
variable {P:Program}{t:TypeId}{w:World}{K:KV}{cx cy:Bool}
end
end
section
open Go.RowKit Go.ChangeMaps Go.MapKept
structure CT (P:Program) (k:TypeId) {κ:Type} (kv:κ→Value):Prop where
 inj:∀x y,kv x=kv y→x=y
 chk:∀w em x,(Instr.checkKey em 10000 k (kv x)).run P w=.ok () w
 find:∀(w:World) x (es:List MapEntry),(∀e∈es,∃y,e.key=kv y) →
  ((Instr.findKey k (kv x) es).run P w=.ok none w∧∀e∈es,e.key≠kv x)∨∃j e,(Instr.findKey k (kv x) es).run P w=.ok (some (j,e.val)) w∧es[j]? = some e∧e.key=kv x
 stays:∀(w:World) x,(Instr.keyThatStays (kv x) (kv x)).run P w=.ok (kv x) w
section
variable {P:Program}{k:TypeId}
theorem QD {q:IntKind}(U:P.underlying k=some (.int q)):CT P k (Value.int q) where
 inj x y h:=by simpa using h
 chk w em x:=by
  show (Instr.checkKey em (9999+1) k _).run P w=_;rw[Instr.checkKey];simp[run_underlying U]
 stays w x:=by
  have:Instr.sameBits 10000 (.int q x) (.int q x)=true:=by unfold Instr.sameBits;simp
  unfold Instr.keyThatStays;rw[if_pos this,Sem.run_pure]
 find w x es hes:=by
  have R:∀(es:List MapEntry) (i:Nat),(∀e∈es,∃y,e.key=Value.int q y)→(Instr.findNow (.int q) (.int q x) es i=some none∧∀e∈es,e.key≠.int q x)∨∃j e,Instr.findNow (.int q) (.int q x) es i=some (some (i+j,e.val))∧es[j]? = some e∧e.key=.int q x:=by
   intro es
   induction es with
   | nil=>intro i _;exact .inl ⟨rfl,by simp⟩
   | cons e es ih =>
    intro i hes;obtain⟨y,J⟩:=hes e (by simp);by_cases C:x=y
    ·subst C;exact .inr ⟨0,e,by simp[Instr.findNow,Instr.sameNow,J],rfl,J⟩
    ·have V:e.key≠.int q x:=by rw[J];simpa using fun h=>C h.symm
     have X:(x==y)=false:=by simpa using C
     rcases ih (i+1) (fun e' d => hes e' (by simp[d]))with⟨I,u⟩|⟨j,e',I,u,M⟩
     ·refine .inl ⟨by simp[Instr.findNow,Instr.sameNow,J,X,I],fun e' d=>?_⟩;rcases List.mem_cons.1 d with rfl|d
      ·exact V
      ·exact u e' d
     ·exact .inr ⟨j+1,e',by simp[Instr.findNow,Instr.sameNow,J,X,I];omega,by simpa using u,M⟩
  rcases R es 0 hes with⟨I,u⟩|⟨j,e,I,u,M⟩
  ·exact .inl ⟨by simp[Instr.findKey,run_underlying U,I],u⟩
  ·exact .inr ⟨j,e,by simp[Instr.findKey,run_underlying U,I],u,M⟩
theorem QE {κ:Type}{kv:κ→Value}(fs:Array Field)(hk:P.underlying k=some (.struct fs))(R:∀x,∃cs,kv x=.agg cs)(inj:∀x y,kv x=kv y→x=y)(chk:∀w em x,(Instr.checkKey em 10000 k (kv x)).run P w=.ok () w)(eq:∀(w:World) x y,∃b:Bool,(Op.equal k (kv x) (kv y)).run P w=.ok b w∧(b=true↔kv x=kv y))(M:∀x,Instr.sameBits 10000 (kv x) (kv x)=true):CT P k kv where
 inj:=inj
 chk:=chk
 stays w x:=by unfold Instr.keyThatStays;rw[if_pos (M x),Sem.run_pure]
 find w x es hes:=by
  have V:∀(es:List MapEntry) (i:Nat),(∀e∈es,∃y,e.key=kv y)→((Instr.findAsking k (kv x) es i).run P w=.ok none w∧∀e∈es,e.key≠kv x)∨∃j e,(Instr.findAsking k (kv x) es i).run P w=.ok (some (i+j,e.val)) w∧es[j]? = some e∧e.key=kv x:=by
   intro es
   induction es with
   | nil=>intro i _;exact .inl ⟨by simp[Instr.findAsking],by simp⟩
   | cons e es ih =>
    intro i hes;obtain⟨y,I⟩:=hes e (by simp);obtain⟨b,hb,J⟩:=eq w x y;cases b with
    | true =>
     have:=J.1 rfl
     exact .inr ⟨0,e,by simp[Instr.findAsking,I,hb],rfl,by rw[I,this]⟩
    | false =>
     have Z:e.key≠kv x:=by rw[I];intro h;exact absurd (J.2 h.symm) (by simp)
     rcases ih (i+1) (fun e' d => hes e' (by simp[d]))with⟨C,u⟩|⟨j,e',C,u,U⟩
     ·refine .inl ⟨by simp[Instr.findAsking,I,hb,C],fun e' d=>?_⟩;rcases List.mem_cons.1 d with rfl|d
      ·exact Z
      ·exact u e' d
     ·exact .inr ⟨j+1,e',by simp[Instr.findAsking,I,hb,C];omega,by simpa using u,U⟩
  have X:(Instr.findKey k (kv x) es).run P w=(Instr.findAsking k (kv x) es).run P w:=by
   obtain⟨cs,ad⟩:=R x;cases es with
   | nil=>simp[Instr.findKey,run_underlying hk,Instr.findNow,Instr.findAsking]
   | cons e es=>simp[Instr.findKey,run_underlying hk,Instr.findNow,Instr.sameNow]
  rw[X];rcases V es 0 hes with⟨C,u⟩|⟨j,e,C,u,U⟩
  ·exact .inl ⟨C,u⟩
  ·exact .inr ⟨j,e,by simpa using C,u,U⟩
end
/-! ## Plain maps -/
section
variable {κ ν:Type}[DecidableEq κ]
def gA :List (κ×ν)→κ→Option ν
 | [],_=>none
 | p::m,x=>if p.1=x then some p.2 else gA m x
def pe :List (κ×ν)→κ→ν→List (κ×ν)
 | [],x,v=>[(x,v)]
 | p::m,x,v=>if p.1=x then (x,v)::m else p::pe m x v
theorem vQ {m:List (κ×ν)}{x:κ}:gA m x=none↔x∉m.map (·.1):=by
 induction m with
 | nil=>simp[gA]
 | cons p m ih =>
  by_cases h:p.1=x
  ·simp[gA,h]
  ·have : ¬x=p.1:=fun e=>h e.symm
   simp only[gA,h,if_false,ih,List.map_cons,List.mem_cons,this,false_or]
theorem Ff {m:List (κ×ν)}{x:κ}{v:ν}(h:gA m x=some v):(x,v)∈m:=by
 induction m with
 | nil=>simp[gA]at h
 | cons p m ih =>
  by_cases d:p.1=x
  ·simp only[gA,d,if_true,Option.some.injEq]at h;subst h;subst d;simp
  ·simp only[gA,d,if_false]at h;exact List.mem_cons_of_mem _ (ih h)
theorem pf {m:List (κ×ν)}{x:κ}{v:ν}(d:(m.map (·.1)).Nodup)(h:(x,v)∈m):gA m x=some v:=by
 induction m with
 | nil=>simp at h
 | cons p m ih =>
  simp only[List.map_cons,List.nodup_cons]at d;rcases List.mem_cons.1 h with rfl|h
  ·simp[gA]
  ·have j : ¬p.1=x:=by
    rintro rfl;exact d.1 (List.mem_map.2 ⟨_,h,rfl⟩)
   simp only[gA,j,if_false];exact ih d.2 h
theorem Ov {m:List (κ×ν)}{x:κ}{v:ν}:(pe m x v).map (·.1)=if x∈m.map (·.1)then m.map (·.1)else m.map (·.1)++[x]:=by
 induction m with
 | nil=>simp[pe]
 | cons p m ih =>
  by_cases h:p.1=x
  ·simp[pe,h]
  ·have d : ¬x=p.1:=fun e=>h e.symm;simp only[pe,h,if_false,List.map_cons,ih,List.mem_cons,d,false_or];split<;>simp
theorem uk {m:List (κ×ν)}{x:κ}{v:ν}(h:(m.map (·.1)).Nodup):((pe m x v).map (·.1)).Nodup:=by
 rw[Ov];split
 ·exact h
 ·rename_i j;rw[List.nodup_append];refine⟨h,by simp,fun a u b d=>?_⟩;simp at d;subst d;rintro rfl;exact j u
theorem Bs {m:List (κ×ν)}{x y:κ}{v:ν}:gA (pe m x v) y=if y=x then some v else gA m y:=by
 induction m with
 | nil =>
  by_cases h:y=x
  ·subst h;simp[pe,gA]
  ·have : ¬x=y:=fun e=>h e.symm
   simp[pe,gA,h,this]
 | cons p m ih =>
  by_cases h:p.1=x
  ·by_cases j:y=x
   ·subst j;simp[pe,gA,h]
   ·have u : ¬x=y:=fun e=>j e.symm;have C : ¬p.1=y:=by rw[h];exact u
    simp[pe,gA,h,j,u]
  ·by_cases d:p.1=y
   ·have j : ¬y=x:=fun e=>h (d.trans e);simp[pe,gA,h,d,j]
   ·simp[pe,gA,h,d,ih]
theorem Kf {m:List (κ×ν)}{x:κ}{v u:ν}{j:Nat}(d:(m.map (·.1)).Nodup)(h:m[j]? = some (x,u)):pe m x v=m.set j (x,v):=by
 induction m generalizing j with
 | nil=>simp at h
 | cons p m ih =>
  simp only[List.map_cons,List.nodup_cons]at d;cases j with
  | zero=>simp at h;subst h;simp[pe]
  | succ j =>
   simp at h;have C : ¬p.1=x:=by
    rintro rfl;exact d.1 (List.mem_map.2 ⟨_,List.mem_of_getElem? h,rfl⟩)
   simp[pe,C,ih d.2 h]
end
/-! ## A map in memory -/
section
variable {κ ν:Type}
structure MBs (kv:κ→Value) (vv:ν→Value) (w:World) (b:Nat) (m:List (κ×ν)) (es:Array MapEntry) (clock:Nat):Prop where
 heap:w.heap[b]? = some (.map es clock)
 keys:es.toList.map (·.key)=m.map fun p=>kv p.1
 vals:es.toList.map (·.val)=m.map fun p=>vv p.2
 nodup:(m.map (·.1)).Nodup
 born:(es.toList.map (·.born)).Pairwise (· < ·)
 old:∀e∈es.toList,e.born<clock
def MB (kv:κ→Value)(vv:ν→Value)(w:World)(b:Nat)(m:List (κ×ν)):Prop:=∃es clock,MBs kv vv w b m es clock
variable {kv:κ→Value}{vv:ν→Value}{w w':World}{b:Nat}{m:List (κ×ν)}{es:Array MapEntry}{clock:Nat}
theorem MBs.len (h:MBs kv vv w b m es clock):es.size=m.length:=by
 have:=congrArg List.length h.keys
 simpa using this
theorem MBs.get (h:MBs kv vv w b m es clock){i:Nat}{e:MapEntry}(C:es.toList[i]? = some e):∃p,m[i]? = some p∧e.key=kv p.1∧e.val=vv p.2:=by
 have d:=congrArg (fun l=>l[i]?) h.keys;have j:=congrArg (fun l=>l[i]?) h.vals;simp only[List.getElem?_map,C,Option.map_some]at d j;cases u:m[i]? with
 | none=>rw[u]at d;simp at d
 | some p =>
  rw[u]at d j;simp at d j;exact⟨p,rfl,d,j⟩
theorem MBs.keyed (h:MBs kv vv w b m es clock):∀e∈es.toList,∃y,e.key=kv y:=by
 intro e d;obtain⟨i,hi,rfl⟩:=List.getElem_of_mem d;obtain⟨p,_,j,_⟩:=h.get (List.getElem?_eq_getElem hi);exact⟨p.1,j⟩
theorem MB.lt (h:MB kv vv w b m):b<w.heap.size:=by
 obtain⟨es,c,h⟩:=h;exact(Array.getElem?_eq_some_iff.1 h.heap).1
theorem MB.kept (h:MB kv vv w b m)(d:w'.heap[b]? = w.heap[b]?):MB kv vv w' b m:=by
 obtain⟨es,c,h⟩:=h;exact⟨es,c,d.trans h.heap,h.keys,h.vals,h.nodup,h.born,h.old⟩
theorem MB.below (h:MB kv vv w b m)(d:Below w.heap.size w w'):MB kv vv w' b m:=h.kept (d.block b h.lt)
theorem MB.oth {g:Nat}(h:MB kv vv w b m)(j:Oth g w w')(d:b≠g):MB kv vv w' b m:=h.kept (j.other b d)
variable {P:Program}{K:KV}{t k e:TypeId}
theorem vl {r:Option Value}(u:P.underlying t=some (.map k e))(j:r=none)(kv:κ→Value)(vv:ν→Value)(h:∀w',MB kv vv w' w.heap.size ([]:List (κ×ν))→Below w.heap.size w w'→w'.heap.size=w.heap.size+1→K (.map (some w.heap.size)) w'):eS P t r K w:=by
 subst j;unfold eS;refine gW (w':=w.alloc (.map #[] 0)) (v:=.map (some w.heap.size)) (by simp[Instr.makeMap]) (h _ ⟨#[],0,heap_alloc_new w _,rfl,rfl,by simp,by simp,by simp⟩ (fJ (World.grownBy_alloc _ _ none) (Nat.le_refl _) (fun k d=>by cases d)) (by simp))
theorem Ud {ty : TypeId} {cs : Array Bool} (ht : P.underlying t = some (.map k e)) (hm : MB kv vv w b m) (h : K (.int .i64 (m.length : Int)) w) : blt P .len #[t] ty cs #[.map (some b)] K w := by
  obtain ⟨es, c, hm⟩ := hm
  have hl := hm.len
  refine uj (v := .int .i64 (m.length : Int)) (w' := w) ?_ h
  rw [BigFrame.builtin_len]
  simp [Builtin.len_, run_underlying ht, MapKept.run_getObj_map hm.heap, Result.andThen, hl, goInt]
theorem Mi {o:Obj}(d:w.heap[b]? = some (.map es clock)):Oth b w (setBlock w b o) :=
 ⟨rfl,rfl,rfl,by simp[setBlock],fun i hi=>heap_setBlock_other d o hi⟩
end
section
variable {κ ν:Type}[DecidableEq κ]{kv:κ→Value}{vv:ν→Value}{w w':World}{b:Nat}{m:List (κ×ν)}{es:Array MapEntry}{clock:Nat}
variable {P:Program}{K:KV}{t k e:TypeId}
theorem MBs.find {P:Program}{k:TypeId}(h:MBs kv vv w b m es clock)(K:CT P k kv)(x:κ):(gA m x=none∧(Instr.findKey k (kv x) es.toList).run P w=.ok none w∧∀e∈es.toList,e.key≠kv x) ∨
  ∃j e v,gA m x=some v∧(Instr.findKey k (kv x) es.toList).run P w=.ok (some (j,vv v)) w∧es.toList[j]? = some e∧e.key=kv x∧e.val=vv v∧m[j]? = some (x,v):=by
 rcases K.find w x es.toList h.keyed with⟨I,d⟩|⟨j,e,I,d,J⟩
 ·refine .inl ⟨vQ.2 fun C=>?_,I,d⟩;obtain⟨p,u,rfl⟩:=List.mem_map.1 C
  have:kv p.1∈es.toList.map (·.key):=by rw[h.keys];exact List.mem_map.2 ⟨p,u,rfl⟩
  obtain⟨e,M,U⟩:=List.mem_map.1 this;exact d e M U
 ·obtain⟨p,u,e1,e2⟩:=h.get d;have C:p.1=x:=K.inj _ _ (e1.symm.trans J);obtain⟨V,R⟩:=p;cases C;exact .inr ⟨j,e,R,pf h.nodup (List.mem_of_getElem? u),by rw[←e2];exact I,d,J,e2,u⟩
theorem Nl {z0:ν}(KK:CT P k kv)(C:P.underlying t=some (.map k e))(I:∀w,(zeroValue e).run P w=.ok (vv z0) w)(d:MB kv vv w b m){x:κ}(h:K (vv ((gA m x).getD z0)) w):lkp P t (.map (some b)) (kv x) false K w:=by
 obtain⟨es,c,d⟩:=d;unfold lkp;rcases d.find KK x with⟨h0,u,_⟩|⟨j,J,v,h0,u,_⟩
 ·rw[h0]at h;exact gW (w':=w) (v:=vv z0) (by simp[Instr.lookup,run_underlying C,MapKept.run_getObj_map d.heap,KK.chk,u,I,Result.andThen]) h
 ·rw[h0]at h;exact gW (w':=w) (v:=vv v) (by simp[Instr.lookup,run_underlying C,MapKept.run_getObj_map d.heap,KK.chk,u,Result.andThen]) h
theorem QF {z0:ν}(KK:CT P k kv)(C:P.underlying t=some (.map k e))(I:∀w,(zeroValue e).run P w=.ok (vv z0) w)(d:MB kv vv w b m){x:κ}(h:K (.tuple #[vv ((gA m x).getD z0),.bool (gA m x).isSome]) w):lkp P t (.map (some b)) (kv x) true K w:=by
 obtain⟨es,c,d⟩:=d;unfold lkp;rcases d.find KK x with⟨h0,u,_⟩|⟨j,J,v,h0,u,_⟩
 ·rw[h0]at h;exact gW (w':=w) (by simp[Instr.lookup,run_underlying C,MapKept.run_getObj_map d.heap,KK.chk,u,I,Result.andThen]) h
 ·rw[h0]at h;exact gW (w':=w) (by simp[Instr.lookup,run_underlying C,MapKept.run_getObj_map d.heap,KK.chk,u,Result.andThen]) h
theorem vm (KK:CT P k kv)(ht:P.underlying t=some (.map k e))(d:MB kv vv w b m){x:κ}{v:ν}(h:∀w',MB kv vv w' b (pe m x v)→Oth b w w'→K undef w'):eX P t (.map (some b)) (kv x) (vv v) K w:=by
 obtain⟨es,c,d⟩:=d;unfold eX;rcases d.find KK x with⟨h0,J,U⟩|⟨j,e0,v0,h0,J,U,h3,h4,X⟩
 ·refine GD (u:=()) (w':=setBlock w b (.map (es.push ⟨kv x,vv v,c⟩) (c+1))) (by simp[Instr.mapUpdate,run_underlying ht,MapKept.run_getObj_map d.heap,KK.chk,J,MapKept.run_setObj_map _ d.heap,Result.andThen,setBlock]) (h _ ?_ (Mi d.heap));have hx:=vQ.1 h0;have R:pe m x v=m++[(x,v)]:=by
   clear h J U h0 d
   induction m with
   | nil=>rfl
   | cons p m ih =>
    simp only[List.map_cons,List.mem_cons,not_or]at hx;have hp : ¬p.1=x:=fun e=>hx.1 e.symm;simp[pe,hp,ih hx.2]
  rw[R];refine⟨_,_,heap_setBlock_same d.heap _,by simp[d.keys],by simp[d.vals],?_,?_,?_⟩
  ·rw[←R];exact uk d.nodup
  ·rw[Array.toList_push,List.map_append,List.pairwise_append];refine⟨d.born,by simp,fun a ha c' V=>?_⟩;obtain⟨e1,C,rfl⟩:=List.mem_map.1 ha;simp at V;subst V;exact d.old e1 C
  ·intro e1 C;simp only[Array.toList_push,List.mem_append,List.mem_singleton]at C;rcases C with C|rfl
   ·exact Nat.lt_succ_of_lt (d.old e1 C)
   ·exact Nat.lt_succ_self c
 ·have hj:es[j]? = some e0:=by rw[←Array.getElem?_toList];exact U
  have ad:=KK.stays w x;refine GD (u:=()) (w':=setBlock w b (.map (es.modify j fun e=>{e with key:=kv x,val:=vv v}) c)) (by simp[Instr.mapUpdate,run_underlying ht,MapKept.run_getObj_map d.heap,KK.chk,J,hj,h3,ad,MapKept.run_setObj_map _ d.heap,Result.andThen,setBlock]) (h _ ?_ (Mi d.heap));rw[Kf d.nodup X]
  have M:((es.modify j fun e=>{e with key:=kv x,val:=vv v}).toList.map (·.born))=es.toList.map (·.born):=by
   rw[Array.toList_modify];apply List.ext_getElem?;intro i;simp only[List.getElem?_map,List.getElem?_modify];cases hi:es.toList[i]? with
   | none=>simp
   | some e1=>by_cases I:j=i<;>simp[I]
  refine⟨_,c,heap_setBlock_same d.heap _,?_,?_,?_,by rw[M];exact d.born,?_⟩
  ·rw[Array.toList_modify];apply List.ext_getElem?;intro i;have J:=congrArg (fun l=>l[i]?) d.keys;simp only[List.getElem?_map,List.getElem?_modify,List.getElem?_set]at J ⊢;by_cases I:j=i
   ·subst I;rw[U]at J ⊢
    have:=(List.getElem?_eq_some_iff.1 X).1
    simp[this]
   ·simpa[I]using J
  ·rw[Array.toList_modify];apply List.ext_getElem?;intro i;have J:=congrArg (fun l=>l[i]?) d.vals;simp only[List.getElem?_map,List.getElem?_modify,List.getElem?_set]at J ⊢;by_cases I:j=i
   ·subst I;rw[U]at J ⊢
    have:=(List.getElem?_eq_some_iff.1 X).1
    simp[this]
   ·simpa[I]using J
  ·rw[←Kf d.nodup X];exact uk d.nodup
  ·intro e1 C
   have:e1.born∈es.toList.map (·.born):=by rw[←M];exact List.mem_map.2 ⟨e1,C,rfl⟩
   obtain⟨e2,ag,Z⟩:=List.mem_map.1 this;rw[←Z];exact d.old e2 ag
end
end
section
open Go.RowKit Go.ChangeMaps Go.MapKept
theorem vR {κ:Type}[DecidableEq κ]:∀{l l':List κ},l.Nodup→(∀x∈l,x∈l')→l.length≤l'.length
 | [],_,_,_=>by simp
 | x::l,l',hn,hs=>by
  have h:x∈l':=hs x (by simp);simp only[List.nodup_cons]at hn
  have:=vR (l:=l) (l':=l'.erase x) hn.2 fun y j=>by
   have d:y≠x:=by rintro rfl;exact hn.1 j
   exact(List.mem_erase_of_ne d).2 (hs y (by simp[j]))
  rw[List.length_erase_of_mem h]at this;have u:=List.length_pos_of_mem h;simp only[List.length_cons];omega
section
variable {κ ν:Type}
variable {kv:κ→Value}{vv:ν→Value}{w w':World}{b r:Nat}{m:List (κ×ν)}{x:κ}{s:Nat}
def IT (kv:κ→Value)(vv:ν→Value)(w:World)(r b:Nat)(m:List (κ×ν))(done:List κ):Prop :=
 ∃es clock since seen c0,MBs kv vv w b m es clock∧w.heap[r]? = some (.mapIter (some b) since seen c0)∧(∀e∈es.toList,e.born<since)∧since≤c0∧since≤clock ∧
  (∀(i:Nat) (e:MapEntry) (p:κ×ν),es.toList[i]? = some e→m[i]? = some p→(seen.contains e.born=true↔p.1∈done))∧done.Nodup∧∀x∈done,x∈m.map (·.1)
variable {done:List κ}
theorem IT.kept (h:IT kv vv w r b m done)(J:w'.heap[b]? = w.heap[b]?)(I:w'.heap[r]? = w.heap[r]?):IT kv vv w' r b m done:=by
 obtain⟨es,c,d,u,c0,j,C,rest⟩:=h;exact⟨es,c,d,u,c0,⟨J.trans j.heap,j.keys,j.vals,j.nodup,j.born,j.old⟩,I.trans C,rest⟩
theorem IT.lt (h:IT kv vv w r b m done):r<w.heap.size∧b<w.heap.size:=by
 obtain⟨es,c,d,j,c0,C,u,_⟩:=h;exact⟨(Array.getElem?_eq_some_iff.1 u).1,(Array.getElem?_eq_some_iff.1 C.heap).1⟩
theorem IT.below (h:IT kv vv w r b m done)(d:Below w.heap.size w w'):IT kv vv w' r b m done:=h.kept (d.block b h.lt.2) (d.block r h.lt.1)
theorem IT.nodup (h:IT kv vv w r b m done):done.Nodup∧(m.map (·.1)).Nodup∧∀x∈done,x∈m.map (·.1):=by
 obtain⟨es,c,d,j,c0,I,_,_,_,_,_,C,u⟩:=h;exact⟨C,I.nodup,u⟩
def EN (kv:κ→Value)(vv:ν→Value)(w:World)(r b:Nat)(x:κ)(v:ν):Prop :=
 ∃(es:Array MapEntry) (clock since:Nat) (seen:Array Nat) (e:MapEntry),w.heap[b]? = some (.map es clock)∧w.heap[r]? = some (.mapIter (some b) since (seen.push e.born) clock)∧e∈es.toList∧(es.toList.map (·.born)).Nodup∧e.key=kv x∧e.val=vv v
variable {P:Program}{K:KV}{t k e:TypeId}
theorem Kg {x:κ}{v:ν}(h:EN kv vv w r b x v)(hK:K (.tuple #[kv x,vv v]) w):ent P (.pointer (some ⟨r,0,none⟩)) K w:=by
 obtain⟨es,c,d,j,e,J,C,u,I,M,ev⟩:=h;unfold ent;rw[←M, ←ev]at hK;exact gW (run_entry_at (P:=P) w r b d j es c e C J u I) hK
theorem Kh (C:P.underlying t=some (.map k e))(d:MB kv vv w b m)(h:∀w',IT kv vv w' w.heap.size b m []→Below w.heap.size w w'→w'.heap.size=w.heap.size+1→K (.pointer (some ⟨w.heap.size,0,none⟩)) w'):rng P t (.map (some b)) K w:=by
 have j:=d.lt;obtain⟨es,c,d⟩:=d;unfold rng;have u:Below w.heap.size w (w.alloc (.mapIter (some b) c #[] c)):=fJ (World.grownBy_alloc _ _ none) (Nat.le_refl _) (fun k I=>by cases I)
 refine gW (run_range_map w t k e b es c C d.heap) (h _ ⟨es,c,c,#[],c,⟨?_,d.keys,d.vals,d.nodup,d.born,d.old⟩,heap_alloc_new w _,d.old,Nat.le_refl _,Nat.le_refl _,fun i e p J M=>by simp,by simp,by simp⟩ u (by simp));rw[u.block b j];exact d.heap
def lX (w:World)(b r:Nat):Nat :=
 match w.heap[b]?,w.heap[r]? with
 | some (.map es _),some (.mapIter _ _ seen _)=>(leftOf es seen).size
 | _,_=>0
theorem ul {w w':World}{b r:Nat}(d:w'.heap[b]? = w.heap[b]?)(h:w'.heap[r]? = w.heap[r]?):lX w' b r=lX w b r:=by unfold lX;rw[d,h]
theorem EG {w w':World}(hi:IT kv vv w r b m done)(d:Below w.heap.size w w'):lX w' b r=lX w b r:=ul (d.block b hi.lt.2) (d.block r hi.lt.1)
theorem Gy {α:Type}{p q:α→Bool}:∀{l:List α} {e:α},e∈l→p e=true→q e=false→(∀x,q x=true→p x=true)→(l.filter q).length<(l.filter p).length
 | a::l,e,u,hp,hq,hs=>by
  have le:∀l:List α,(l.filter q).length≤(l.filter p).length:=by
   intro l
   induction l with
   | nil=>simp
   | cons x l h =>
    by_cases d:q x=true
    ·rw[List.filter_cons_of_pos d,List.filter_cons_of_pos (hs x d)];simpa using h
    ·rw[List.filter_cons_of_neg d];by_cases j:p x=true
     ·rw[List.filter_cons_of_pos j];simp only[List.length_cons];omega
     ·rw[List.filter_cons_of_neg j];exact h
  rcases List.mem_cons.1 u with rfl|u
  ·rw[List.filter_cons_of_neg (by simp[hq]),List.filter_cons_of_pos hp]
   have:=le l
   simp only[List.length_cons];omega
  ·have h:=Gy u hp hq hs;by_cases d:q a=true
   ·rw[List.filter_cons_of_pos d,List.filter_cons_of_pos (hs a d)];simpa using h
   ·rw[List.filter_cons_of_neg d];by_cases j:p a=true
    ·rw[List.filter_cons_of_pos j];simp only[List.length_cons];omega
    ·rw[List.filter_cons_of_neg j];exact h
theorem Ki {ty:TypeId}(hi:IT kv vv w r b m done)(an:r≠b)(h0:(∀x∈m.map (·.1),x∈done)→K (.tuple #[.bool false]) w)(h1:∀(x:κ) (v:ν) (w':World),(x,v)∈m→x∉done→IT kv vv w' r b m (done++[x])→EN kv vv w' r b x v→Oth r w w'→lX w' b r<lX w b r→K (.tuple #[.bool true,kv x,vv v]) w'):nxt P (.pointer (some ⟨r,0,none⟩)) false ty K w:=by
 obtain⟨es,c,d,u,c0,I,hr,al,a3,aS,V,a4,ar⟩:=hi;unfold nxt;rcases run_next_at (P:=P) w ty r b d c0 u es c hr I.heap al a3 with⟨hz,J⟩|⟨e1,ad,w1,X,J⟩
 ·refine gW J (h0 fun x hx=>?_);obtain⟨p,hp,rfl⟩:=List.mem_map.1 hx;obtain⟨i,hi,rfl⟩:=List.getElem_of_mem hp;have a6:=I.len;have hi2:i<es.toList.length:=by simp;omega
  refine(V i es.toList[i] m[i] (List.getElem?_eq_getElem hi2) (List.getElem?_eq_getElem hi)).1 ?_;have M:leftOf es u=#[]:=Array.eq_empty_of_size_eq_zero hz;unfold leftOf at M;rw[Array.filter_eq_empty_iff]at M
  have:=M es.toList[i] (by simp)
  simpa using this
 ·have C:e1∈es.toList∧u.contains e1.born=false:=by
   unfold leftOf at ad;simp at ad;exact⟨by simpa using ad.1,by simpa using ad.2⟩
  obtain⟨i,hi,rfl⟩:=List.getElem_of_mem C.1;obtain⟨p,hp,ek,ev⟩:=I.get (List.getElem?_eq_getElem hi);obtain⟨x,v⟩:=p;have av:x∉done:=fun hx=>by
   have:=(V i _ _ (List.getElem?_eq_getElem hi) hp).2 hx
   rw[this]at C;exact absurd C.2 (by simp)
  have am:w1.heap[r]? = some (.mapIter (some b) d u c0):=by rcases X with rfl|rfl<;>exact hr
  have Z:Oth r w1 (setBlock w1 r (.mapIter (some b) d (u.push es.toList[i].born) c)):=by
   refine⟨rfl,rfl,rfl,by simp[setBlock],fun j hj=>?_⟩;simp only[setBlock];rw[Array.getElem?_setIfInBounds_ne (fun h=>hj h.symm)]
  rw[ek,ev]at J;refine gW J (h1 x v _ (List.mem_of_getElem? hp) av ⟨es,c,d,u.push es.toList[i].born,c,⟨?_,I.keys,I.vals,I.nodup,I.born,I.old⟩,?_,al,aS,aS,?_,?_,?_⟩ ⟨es,c,d,u,es.toList[i],?_,?_,List.getElem_mem hi,I.born.imp (fun h=>Nat.ne_of_lt h),ek,ev⟩ ?_ ?_)
  ·rw[Z.other b (fun h=>an h.symm)];rcases X with rfl|rfl<;>exact I.heap
  ·simp only[setBlock];rw[Array.getElem?_setIfInBounds_self_of_lt (Array.getElem?_eq_some_iff.1 am).1]
  ·intro j e2 p2 az ap;have hj:=(List.getElem?_eq_some_iff.1 az)
   have R:=(List.getElem?_eq_some_iff.1 ap)
   have U:=(List.getElem?_eq_some_iff.1 hp)
   have hb:=List.pairwise_iff_getElem.1 I.born;have hk:=List.pairwise_iff_getElem.1 I.nodup;have ag:(e2.born=es.toList[i].born↔j=i)∧(p2.1=x↔j=i):=by
    rcases Nat.lt_trichotomy j i with h|h|h
    ·have a1:=hb j i (by simpa using hj.1) (by simpa using hi) h;have a2:=hk j i (by simpa using R.1) (by simpa using U.1) h;simp only[List.getElem_map,hj.2,R.2,U.2]at a1 a2;exact⟨⟨fun e=>by omega,fun e=>by omega⟩,⟨fun e=>absurd e a2,fun e=>by omega⟩⟩
    ·subst h;rw[←hj.2]
     have:p2=(x,v):=by rw[←R.2, ←U.2]
     rw[this];simp
    ·have a1:=hb i j (by simpa using hi) (by simpa using hj.1) h;have a2:=hk i j (by simpa using U.1) (by simpa using R.1) h;simp only[List.getElem_map,hj.2,R.2,U.2]at a1 a2;exact⟨⟨fun e=>by omega,fun e=>by omega⟩,⟨fun e=>absurd e.symm a2,fun e=>by omega⟩⟩
   have a0:=V j e2 p2 az ap;rw[List.mem_append,List.mem_singleton,ag.2, ←ag.1, ←a0];simp only[Array.contains_iff_mem,Array.mem_push]
  ·rw[List.nodup_append];refine⟨a4,by simp,fun a ha b hb=>?_⟩;simp at hb;subst hb;rintro rfl;exact av ha
  ·intro y hy;rcases List.mem_append.1 hy with h|h
   ·exact ar y h
   ·simp at h;subst h;exact List.mem_map.2 ⟨_,List.mem_of_getElem? hp,rfl⟩
  ·rw[Z.other b (fun h=>an h.symm)];rcases X with rfl|rfl<;>exact I.heap
  ·simp only[setBlock];rw[Array.getElem?_setIfInBounds_self_of_lt (Array.getElem?_eq_some_iff.1 am).1]
  ·rcases X with rfl|rfl
   ·exact Z
   ·exact⟨Z.os,Z.tape,Z.output,Z.size,Z.other⟩
  ·have e1:(setBlock w1 r (.mapIter (some b) d (u.push es.toList[i].born) c)).heap[b]? = some (.map es c):=by
    rw[Z.other b (fun h=>an h.symm)];rcases X with rfl|rfl<;>exact I.heap
   have e2:(setBlock w1 r (.mapIter (some b) d (u.push es.toList[i].born) c)).heap[r]? = some (.mapIter (some b) d (u.push es.toList[i].born) c):=by
    simp only[setBlock];rw[Array.getElem?_setIfInBounds_self_of_lt (Array.getElem?_eq_some_iff.1 am).1]
   unfold lX;rw[e1,e2,I.heap,hr];simp only[leftOf];have hs:∀p:MapEntry→Bool,(es.filter p).size=(es.toList.filter p).length:=fun p=>by rw[←Array.toList_filter,Array.length_toList]
   rw[hs,hs];refine Gy C.1 (by simpa using C.2) (by simp) (fun x hx=>?_);simp only[Array.contains_push,Bool.not_or,Bool.and_eq_true]at hx;exact hx.1
end
section
variable {κ ν:Type}[DecidableEq κ]{kv:κ→Value}{vv:ν→Value}{w w':World}{b:Nat}{m:List (κ×ν)}{P:Program}{K:KV}{t k e:TypeId}
theorem vn {m:List (κ×ν)}{x:κ}(h:gA m x=none)(v:ν):pe m x v=m++[(x,v)]:=by
 induction m with
 | nil=>rfl
 | cons p m ih =>
  by_cases d:p.1=x
  ·simp[gA,d]at h
  ·simp only[gA,d,if_false]at h;simp[pe,d,ih h]
end
end
section
def iv (x:Int):Value:=.int .i64 x
open Go.RowKit
section
variable {P:Program}{w w':World}{t:TypeId}{K:KV}
theorem di {B:Nat}{E:TypeId}{s:Nat}{v:Value}{n:Nat}{xs:List Value}(h:w.ownsRow B E s v n xs)(u:∀k,v.ownBlock=some k→w'.heap[k]? = w.heap[k]?):w'.ownsRow B E s v n xs:=by
 refine⟨h.1,?_⟩;rcases h.2 with C|⟨g,cap,d,j,I,hh,r⟩
 ·exact .inl C
 ·refine .inr ⟨g,cap,d,j,I,?_,r⟩;rw[u g (by rw[j];rfl)];exact hh
theorem Ow {B g n s:Nat}{E:TypeId}{xs:List Value}(j:blk w g E xs)(d:xs.length=n*s)(u:B≤g)(h:n≤maxLen):w.ownsRow B E s (.slice (some ⟨g,0,none⟩) n n) n xs:=by
 refine⟨d,.inr ⟨g,n,xs.toArray,rfl,u,j,Nat.le_refl _,h,by simpa using d,?_⟩⟩;rw[←d];simp
theorem Ue {e ty:TypeId}{cs:Array Bool}{base:Nat}{i:TypeInfo}{z:Value}{d s:Nat}(ht:P.underlying t=some (.slice e))(hi:P.info? e=some i)(hz:i.zero=some z)(M:i.size=s)(U:i.bytes=d)(ad:z.cells.size=s)(X:0<s){av:Option Addr}{n c:Nat}{xs:List Value}(R:w.ownsRow base e s (.slice av n c) n xs){g:Nat}{m c2:Nat}{ys:List Value}(hy:blk w g e ys)(Z:ys.length=m*s)(h1:∀u∈ys,u.oneCell'=true)(C:(n+m)*d≤140737488355328)(ag:n+m≤9223372036854775807)(J:base≤w.heap.size)(h:∀I c' w',w'.ownsRow base e s (.slice I (n+m) c') (n+m) (xs++ys)→w.grownBy w' (Value.slice av n c).ownBlock→((Value.slice I (n+m) c').ownBlock=(Value.slice av n c).ownBlock∨(Value.slice I (n+m) c').ownBlock=some w.heap.size)→K (.slice I (n+m) c') w'):blt P .append #[t,t] ty cs #[.slice av n c,.slice (some ⟨g,0,none⟩) m c2] K w:=by
 have hn:∀j u,ys[j]? = some u→w.cell? ((⟨g,0,none⟩:Addr).add j)=some u:=by
  intro j u hj;rw[show ((⟨g,0,none⟩:Addr).add j)=⟨g,0+j,none⟩from by unfold Addr.add;split<;>simp_all,hy.cell,Nat.zero_add];exact hj
 obtain⟨v',w',hr,h2,h3,_,h5⟩:=run_append_own_at (P:=P) w base t ty e i z s d ht hi hz M U ad X _ n xs R ⟨g,0,none⟩ m c2 ys Z hn h1 (by simp only[maxLen];omega) C J;obtain⟨I,c',rfl⟩:∃I c',v'=.slice I (n+m) c':=by
  rcases h2.2 with⟨V,hn⟩|⟨g,cap,al,V,_⟩
  ·exact⟨none,0,by rw[V,hn]⟩
  ·exact⟨_,cap,V⟩
 exact uj (by rw[BigFrame.builtin_append];simp only[Sem.run_bind,hr,Result.andThen_ok,Sem.run_pure]) (h I c' w' h2 h3 h5)
end
end
section
def u6 (x:Int):Value:=.int .u64 x
def uC (x:Int):List Value:=[u6 x]
theorem Ed (l:List Int):l.flatMap uC=l.map u6:=by induction l<;>simp_all [uC]
open Go.RowKit Go.ChangeMaps
def slN :Value→Nat
 | .slice _ n _=>n
 | _=>0
theorem bA {p B:Nat}{w0 w w':World}(d:Below B w0 w)(h:Oth p w w')(u:B≤p):Below B w0 w':=⟨h.os.trans d.os,h.tape.trans d.tape,h.output.trans d.output,by rw[h.size];exact d.size,fun k j=>by rw[h.other k (by omega)];exact d.block k j⟩
theorem Ee {α:Type}{enc:α→List Value}{s:Nat}(d:∀x,(enc x).length=s):∀(L:List α) (i:Nat) (x:α) (j:Nat),L[i]? = some x→j<s→(L.flatMap enc)[i*s+j]? = (enc x)[j]?
 | [],i,x,j,h,_=>by simp at h
 | y::L,0,x,j,h,hj=>by
  simp at h;subst h;rw[List.flatMap_cons,Nat.zero_mul,Nat.zero_add,List.getElem?_append_left (by rw[d];exact hj)]
 | y::L,i+1,x,j,h,hj=>by
  rw[List.flatMap_cons,List.getElem?_append_right (by rw[d,Nat.succ_mul];omega),d,show (i+1)*s+j-s=i*s+j by rw[Nat.succ_mul];omega];exact Ee d L i x j (by simpa using h) hj
section
variable {P:Program}{w:World}{K:KV}{α:Type}{enc:α→List Value}{L:List α}{s B n c i:Nat}{a:Option Addr}{t e:TypeId}{k:IntKind}{x:α}
theorem Uf (U:P.underlying t=some (.slice e))(u:∀w,(sizeOf e).run P w=.ok s w)(V:∀x,(enc x).length=s)(Z:w.ownsRow B e s (.slice a n c) n (L.flatMap enc))(hl:L.length=n)(M:L[i]? = some x)(h:∀g d,a=some ⟨g,0,none⟩→blk w g e d→(∀j,j<s→d[i*s+j]? = (enc x)[j]?)→K (.pointer (some ⟨g,i*s,none⟩)) w):aU P t (.slice a n c) (.int k (i:Nat)) K w:=by
 have hi:i<n:=by rw[←hl];exact(List.getElem?_eq_some_iff.1 M).1
 rcases Z.2 with⟨_,hz⟩|⟨g,cap,d,J,hg,hh,hn,ad,R,I⟩
 ·omega
 simp only[Value.slice.injEq]at J;obtain⟨rfl,_,rfl⟩:=J;refine eu (s:=s) U u (by omega) (by omega) ?_;rw[Int.toNat_natCast,Nat.zero_add];refine h g d.toList rfl hh (fun j X=>?_);have C:i*s+j<n*s:=by
  have:(i+1)*s≤n*s:=Nat.mul_le_mul_right _ hi
  rw[Nat.succ_mul]at this;omega
 rw[←Ee V L i x j M X, ←I,List.getElem?_take_of_lt C]
theorem rd3 {f f':Nat}{J:TypeId}{v:Value}{K3:Value→Value→Value→World→Prop}(M:P.underlying t=some (.slice e))(u:∀w,(sizeOf e).run P w=.ok s w)(R:∀x,(enc x).length=s)(C:∀w,(isAgg J).run P w=.ok false w)(hf:QC P e f=some f')(I:f'<s)(hr:w.ownsRow B e s (.slice a n c) n (L.flatMap enc))(hl:L.length=n)(hx:L[i]? = some x)(X:(enc x)[f']? = some v)(h:∀j d,K3 j d v w):aU P t (.slice a n c) (.int k (i:Nat)) (fun j w=>ai P e j f (fun d w=>ld P J d (fun U w=>K3 j d U w) w) w) w:=by
 refine Uf M u R hr hl hx ?_;intro g V ha hb Z;refine aM hf <|ld1 C hb (by rw[Z _ I];exact X) ?_;exact h _ _
end
section
variable {P:Program}{w w':World}{K:KV}{t:TypeId}{g B n c s:Nat}{e:TypeId}{v:Value}{xs:List Value}{α:Type}{enc:α→List Value}{L:List α}
theorem Ug {e ty:TypeId}{cs:Array Bool}{base:Nat}{i:TypeInfo}{z:Value}{d s:Nat}(ht:P.underlying t=some (.slice e))(hi:P.info? e=some i)(hz:i.zero=some z)(M:i.size=s)(U:i.bytes=d)(ad:z.cells.size=s)(X:0<s){av:Option Addr}{n c:Nat}{xs:List Value}(R:w.ownsRow base e s (.slice av n c) n xs){g:Nat}{m c2:Nat}{ys:List Value}(hy:blk w g e ys)(Z:ys.length=m*s)(h1:∀u∈ys,u.oneCell'=true)(C:(n+m)*d≤140737488355328)(ag:n+m≤9223372036854775807)(J:base≤w.heap.size)(h:∀I c' w',w'.ownsRow base e s (.slice I (n+m) c') (n+m) (xs++ys)→w.grownBy w' (Value.slice av n c).ownBlock→((Value.slice I (n+m) c').ownBlock=(Value.slice av n c).ownBlock∨(Value.slice I (n+m) c').ownBlock=some w.heap.size)→K (.slice I (n+m) c') w'):blt P .append #[t,t] ty cs #[.slice av n c,.slice (some ⟨g,0,none⟩) m c2] K w:=by
 have hn:∀j u,ys[j]? = some u→w.cell? ((⟨g,0,none⟩:Addr).add j)=some u:=by
  intro j u hj;rw[zX,hy.cell,Nat.zero_add];exact hj
 obtain⟨v',w',hr,h2,h3,_,h5⟩:=run_append_own_at (P:=P) w base t ty e i z s d ht hi hz M U ad X _ n xs R ⟨g,0,none⟩ m c2 ys Z hn h1 (by simp only[maxLen];omega) C J;obtain⟨I,c',rfl⟩:∃I c',v'=.slice I (n+m) c':=by
  rcases h2.2 with⟨V,hn⟩|⟨g,cap,al,V,_⟩
  ·exact⟨none,0,by rw[V,hn]⟩
  ·exact⟨_,cap,V⟩
 exact uj (by rw[BigFrame.builtin_append];simp only[Sem.run_bind,hr,Result.andThen_ok,Sem.run_pure]) (h I c' w' h2 h3 h5)
structure Opn (w:World) (B:Nat) (e:TypeId) (s n c g:Nat) (cur:List Value) (xs:List Value):Prop where
 blk:blk w g e cur
 lo:B≤g
 nc:n≤c
 cm:c≤maxLen
 len:cur.length=c*s
 take:cur.take (n*s)=xs
 xl:xs.length=n*s
theorem cY {a:Option Addr}(C:w.ownsRow B e s (.slice a n c) n xs)(h0:0<n):∃g d,a=some ⟨g,0,none⟩∧Opn w B e s n c g d xs:=by
 rcases C.2 with⟨_,R⟩|⟨g,cap,d,I,J,hh,M,u,h,j⟩
 ·omega
 simp only[Value.slice.injEq]at I;obtain⟨rfl,_,rfl⟩:=I;exact⟨g,d.toList,rfl,hh,J,M,u,by simpa using h,j,C.1⟩
theorem Opn.own {d:List Value}(h:Opn w B e s n c g d xs):w.ownsRow B e s (.slice (some ⟨g,0,none⟩) n c) n xs :=
 ⟨h.xl,.inr ⟨g,c,d.toArray,rfl,h.lo,h.blk,h.nc,h.cm,by simpa using h.len,by simpa using h.take⟩⟩
theorem Bt (d:∀x,(enc x).length=s):∀L:List α,(L.flatMap enc).length=L.length*s
 | []=>by simp
 | x::L=>by rw[List.flatMap_cons,List.length_append,d,Bt d L,List.length_cons,Nat.succ_mul];omega
theorem Kj (d:∀x,(enc x).length=s):∀(L:List α) (i:Nat) (x:α),i<L.length→(L.flatMap enc).take (i*s)++enc x++(L.flatMap enc).drop (i*s+s)=(L.set i x).flatMap enc
 | [],i,x,h=>by simp at h
 | y::L,0,x,_=>by
  simp only[Nat.zero_mul,List.take_zero,List.nil_append,Nat.zero_add,List.set_cons_zero,List.flatMap_cons];rw[List.drop_append_of_le_length (by rw[d];exact Nat.le_refl _),List.drop_of_length_le (by rw[d];exact Nat.le_refl _),List.nil_append]
 | y::L,i+1,x,h=>by
  have j:=Kj d L i x (by simpa using h);simp only[List.set_cons_succ,List.flatMap_cons];rw[←j,Nat.succ_mul];have e1:i*s+s=(enc y).length+i*s:=by rw[d];omega
  have e2:i*s+s+s=(enc y).length+(i*s+s):=by rw[d];omega
  rw[e2,List.drop_length_add_append,e1,List.take_length_add_append];simp[List.append_assoc]
theorem Opn.set {d:List Value}{i:Nat}{x:α}(j:∀x,(enc x).length=s)(h:Opn w B e s n c g d (L.flatMap enc))(J:L.length=n)(hi:i<n)(I:Go.Proofs.YtgpfkmdknlcemaaGreatDoor.blk w' g e (d.take (i*s)++enc x++d.drop (i*s+s))):Opn w' B e s n c g (d.take (i*s)++enc x++d.drop (i*s+s)) ((L.set i x).flatMap enc):=by
 have C:(i+1)*s≤n*s:=Nat.mul_le_mul_right _ hi;have M:n*s≤c*s:=Nat.mul_le_mul_right _ h.nc;rw[Nat.succ_mul]at C;have u:=h.len;refine⟨I,h.lo,h.nc,h.cm,?_,?_,?_⟩
 ·simp only[List.length_append,List.length_take,List.length_drop,j];omega
 ·rw[←Kj j L i x (by omega), ←h.take];rw[List.take_append,List.take_append];simp only[List.length_append,List.length_take,j];rw[List.take_take,List.take_of_length_le (l:=enc x) (by rw[j];omega)];rw[List.take_take,show min (n*s) (i*s)=i*s by omega,show min (i*s) (n*s)=i*s by omega,List.drop_take]
  congr 2
  omega
 ·rw[Bt j,List.length_set,J]
theorem Opn.elem {d:List Value}{i:Nat}{x:α}(u:∀x,(enc x).length=s)(h:Opn w B e s n c g d (L.flatMap enc))(M:L.length=n)(I:L[i]? = some x):(d.drop (i*s)).take s=enc x:=by
 have hi:i<n:=by rw[←M];exact(List.getElem?_eq_some_iff.1 I).1
 have J:(i+1)*s≤n*s:=Nat.mul_le_mul_right _ hi;rw[Nat.succ_mul]at J;have e:(d.drop (i*s)).take s=((d.take (n*s)).drop (i*s)).take s:=by
  rw[List.drop_take,List.take_take];congr 1;omega
 rw[e,h.take];apply List.ext_getElem?;intro j;by_cases C:j<s
 ·rw[List.getElem?_take_of_lt C,List.getElem?_drop,Ee u L i x j I C]
 ·rw[List.getElem?_eq_none (by simp;omega),List.getElem?_eq_none (by rw[u];omega)]
theorem AD {k:Nat}(h:w.ownsRow B e s v n xs)(j:v.ownBlock=some k):(∃d,blk w k e d)∧B≤k∧k<w.heap.size:=by
 rcases h.2 with⟨rfl,_⟩|⟨g,cap,d,rfl,u,hh,_⟩
 ·cases j
 ·cases j;exact⟨⟨d.toList,hh⟩,u,blk.lt (w:=w) (E:=e) (cs:=d.toList) hh⟩
theorem sJ {k:Nat}{E E':TypeId}{cs j:List Value}(h:blk w k E cs)(d:blk w k E' j):E=E':=by
 unfold blk at h d;rw[h]at d;simp only[Option.some.injEq,Obj.cells.injEq]at d;exact d.2.1
theorem Opn.cell {d:List Value}{i j:Nat}{x:α}(u:∀x,(enc x).length=s)(h:Opn w B e s n c g d (L.flatMap enc))(J:L.length=n)(C:L[i]? = some x)(I:j<s):d[i*s+j]? = (enc x)[j]? := by
 rw[←h.elem u J C,List.getElem?_take_of_lt I,List.getElem?_drop]
theorem Opn.set1 {d:List Value}{i j:Nat}{x x':α}{v:Value}(C:∀x,(enc x).length=s)(h:Opn w B e s n c g d (L.flatMap enc))(I:L.length=n)(J:L[i]? = some x)(R:j<s)(U:(enc x).set j v=enc x')(M:Go.Proofs.YtgpfkmdknlcemaaGreatDoor.blk w' g e (d.set (i*s+j) v)):Opn w' B e s n c g (d.set (i*s+j) v) ((L.set i x').flatMap enc):=by
 have hi:i<n:=by rw[←I];exact(List.getElem?_eq_some_iff.1 J).1
 have X:(i+1)*s≤n*s:=Nat.mul_le_mul_right _ hi;have Z:n*s≤c*s:=Nat.mul_le_mul_right _ h.nc;rw[Nat.succ_mul]at X;have V:=h.len;have e1:d=d.take (i*s)++(enc x++d.drop (i*s+s)):=by
  rw[←h.elem C I J]
  have:d.drop (i*s+s)=(d.drop (i*s)).drop s:=by rw[List.drop_drop]
  rw[this,List.take_append_drop,List.take_append_drop]
 have e2:d.set (i*s+j) v=d.take (i*s)++enc x'++d.drop (i*s+s):=by
  have u:(d.take (i*s)).length=i*s:=by rw[List.length_take];omega
  conv=>lhs;rw[e1]
  rw[List.set_append_right _ _ (by rw[u];omega),u,show i*s+j-i*s=j by omega,List.set_append_left _ _ (by rw[C];exact R),U,List.append_assoc]
 rw[e2]at M ⊢;exact h.set C I hi M
theorem nK {a:Option Addr}{i:Nat}{k:IntKind}(u:a=some ⟨g,0,none⟩)(j:P.underlying t=some (.slice e))(d:∀w,(sizeOf e).run P w=.ok s w)(hi:i<n)(h:K (.pointer (some ⟨g,i*s,none⟩)) w):aU P t (.slice a n c) (.int k (i:Nat)) K w:=by
 subst u;refine eu (s:=s) j d (by omega) (by omega) ?_;rw[Int.toNat_natCast,Nat.zero_add];exact h
theorem JD {K2:Value→KV}{a:Option Addr}{i:Nat}{x:α}{k:IntKind}{d:TypeDesc}(U:P.underlying t=some (.slice e))(j:∀w,(sizeOf e).run P w=.ok s w)(R:P.underlying e=some d)(V:d.isRow=true)(hi:(P.info? e).map (·.size)=some s)(I:∀x,(enc x).length=s)(Z:w.ownsRow B e s (.slice a n c) n (L.flatMap enc))(M:L.length=n)(J:L[i]? = some x)(h:∀u,K2 u (.agg (enc x).toArray) w):aU P t (.slice a n c) (.int k (i:Nat)) (fun u w=>ld P e u (K2 u) w) w:=by
 have ad:i<n:=by rw[←M];exact(List.getElem?_eq_some_iff.1 J).1
 obtain⟨g,X,rfl,C⟩:=cY Z (by omega);refine eu (s:=s) U j (by omega) (by omega) ?_;rw[Int.toNat_natCast,Nat.zero_add];refine ldA (n:=s) (vs:=enc x) R V hi C.blk (C.elem I M J) (I x) (h _)
theorem dW {T:List TypeId}{B B2:Nat}{w w':World}{E:TypeId}{s:Nat}{v:Value}{n:Nat}{xs:List Value}(h:w.ownsRow B2 E s v n xs)(C:Keep T B w w')(J:E∉T):w'.ownsRow B2 E s v n xs:=by
 refine⟨h.1,?_⟩;rcases h.2 with j|⟨g,cap,d,u,I,hh,r⟩
 ·exact .inl j
 ·exact .inr ⟨g,cap,d,u,I,C.block _ _ hh (.inr fun cs E' z e=>by cases e;exact J),r⟩
theorem dJ {w w':World}{p B s n:Nat}{E E':TypeId}{v:Value}{xs cs:List Value}(h:w.ownsRow B E s v n xs)(j:Go.Proofs.YtgpfkmdknlcemaaGreatDoor.blk w p E' cs)(M:E'≠E)(I:Oth p w w'):w'.ownsRow B E s v n xs :=
 di h fun k d=>I.other k (by
  rintro rfl;rcases h.2 with⟨u,_⟩|⟨g,cap,J,u,_,C,_⟩
  ·rw[u]at d;cases d
  ·have e1:g=k:=by rw[u]at d;simpa[Value.ownBlock]using d
   rw[e1]at C;unfold Go.Proofs.YtgpfkmdknlcemaaGreatDoor.blk at j;rw[C]at j;simp only[Option.some.injEq,Obj.cells.injEq]at j;exact M j.2.1.symm)
theorem oI {w w':World}{B B2 s s2 n n2:Nat}{E E2:TypeId}{v v2:Value}{xs I:List Value}(h:w.ownsRow B E s v n xs)(X:w.ownsRow B2 E2 s2 v2 n2 I)(hE:E≠E2)(V:w.grownBy w' v2.ownBlock):w'.ownsRow B E s v n xs:=by
 refine di h fun k u=>V.block k (World.ownsRow.lt h k u).2 (fun hh=>?_);rcases h.2 with⟨C,_⟩|⟨g,cap,Z,C,_,R,_⟩
 ·rw[C]at u;cases u
 ·rcases X.2 with⟨j,_⟩|⟨U,J,M,j,_,d,_⟩
  ·rw[j]at hh;cases hh
  ·have e1:g=k:=by rw[C]at u;simpa[Value.ownBlock]using u
   have e2:U=k:=by rw[j]at hh;simpa[Value.ownBlock]using hh.symm
   rw[e1]at R;rw[e2,R]at d;simp only[Option.some.injEq,Obj.cells.injEq]at d;exact hE d.2.1
theorem eT {w w':World}{p B s n:Nat}{E E':TypeId}{v:Value}{xs cs:List Value}(d:Go.Proofs.YtgpfkmdknlcemaaGreatDoor.blk w p E' cs)(h:w.ownsRow B E s v n xs)(J:E'≠E)(C:w.grownBy w' v.ownBlock):Go.Proofs.YtgpfkmdknlcemaaGreatDoor.blk w' p E' cs:=by
 unfold Go.Proofs.YtgpfkmdknlcemaaGreatDoor.blk at d ⊢;rw[C.block p (Go.Proofs.YtgpfkmdknlcemaaGreatDoor.blk.lt d) (fun hh=>?_)]
 ·exact d
 ·rcases h.2 with⟨j,_⟩|⟨g,cap,I,j,_,u,_⟩
  ·rw[j]at hh;cases hh
  ·have e1:g=p:=by rw[j]at hh;simpa[Value.ownBlock]using hh.symm
   rw[e1,d]at u;simp only[Option.some.injEq,Obj.cells.injEq]at u;exact J u.2.1
theorem rU {e ty:TypeId}{cs:Array Bool}{base:Nat}{i:TypeInfo}{z:Value}{j s:Nat}{L:List α}{x:α}{av:Option Addr}{n c g c2:Nat}(ht:P.underlying t=some (.slice e))(hi:P.info? e=some i)(hz:i.zero=some z)(J:i.size=s)(V:i.bytes=j)(Z:z.cells.size=s)(X:0<s)(hs:∀x,(enc x).length=s)(I:w.ownsRow base e s (.slice av n c) n (L.flatMap enc))(hy:Go.Proofs.YtgpfkmdknlcemaaGreatDoor.blk w g e (enc x))(h1:∀u∈enc x,u.oneCell'=true)(C:(n+1)*j≤140737488355328)(U:n+1≤9223372036854775807)(d:base≤w.heap.size)(h:∀R M w',w'.ownsRow base e s (.slice R (n+1) M) (n+1) ((L++[x]).flatMap enc)→w.grownBy w' (Value.slice av n c).ownBlock→Below base w w'→((Value.slice R (n+1) M).ownBlock=(Value.slice av n c).ownBlock∨(Value.slice R (n+1) M).ownBlock=some w.heap.size)→K (.slice R (n+1) M) w'):blt P .append #[t,t] ty cs #[.slice av n c,.slice (some ⟨g,0,none⟩) 1 c2] K w:=by
 refine Ug (m:=1) (ys:=enc x) ht hi hz J V Z X I hy (by rw[hs];omega) h1 C U d fun R M w' h2 h3 h4=>?_;refine h R M w' ?_ h3 (fJ h3 d (fun k hk=>(World.ownsRow.lt I k hk).1)) h4;rw[List.flatMap_append];simpa using h2
theorem Kk {K:KV}{T:TypeId}{N t:Nat}{C cs:List Value}{v:Value}{d:TypeDesc}(J:P.underlying T=some d)(M:d.isRow=true)(hi:(P.info? T).map (·.size)=some N)(R:Go.Proofs.YtgpfkmdknlcemaaGreatDoor.blk w t T C)(h0:C.length=N)(I:cs.length=N)(Z:∀v∈cs,v.oneCell'=true)(h:∀w',Oth t w w'→K (.tuple #[.agg cs.toArray,v]) w'):sto P T (.pointer (some ⟨t,0,none⟩)) (.agg cs.toArray) (fun _t w=>bM P [(some T,.pointer (some ⟨t,0,none⟩)),(none,v)] K w) w:=by
 refine iz (n:=N) (vs:=cs) hi I R (by omega) Z fun w1 u U=>?_;have u:Go.Proofs.YtgpfkmdknlcemaaGreatDoor.blk w1 t T cs:=by
  rw[List.take_zero,List.nil_append,List.drop_of_length_le (by omega),List.append_nil]at u;exact u
 have X:=run_loadVar_mid (P:=P) w1 t 0 T cs _ (fun j v V=>by rw[u.cell,Nat.zero_add];exact V) J M (by rw[I];exact hi);have e:(ks [(some T,.pointer (some ⟨t,0,none⟩)),(none,v)]).run P w1=.ok (.tuple #[.agg cs.toArray,v]) w1:=by
  simp[ks,asAddr,Sem.run_bind,X]
 unfold bM;rw[e];exact⟨rfl,h w1 U⟩
theorem Opn.sto {K:KV}{j:List Value}{i:Nat}{x:α}(C:∀x,(enc x).length=s)(d:Opn w B e s n c g j (L.flatMap enc))(V:L.length=n)(hi:i<n)(J:(P.info? e).map (·.size)=some s)(R:∀v∈enc x,v.oneCell'=true)(h:∀w',Oth g w w'→w'.ownsRow B e s (.slice (some ⟨g,0,none⟩) n c) n ((L.set i x).flatMap enc)→K undef w'):sto P e (.pointer (some ⟨g,0+((i:Nat):Int).toNat*s,none⟩)) (.agg (enc x).toArray) K w:=by
 have u:(i+1)*s≤n*s:=Nat.mul_le_mul_right _ hi;have hi2:n*s≤c*s:=Nat.mul_le_mul_right _ d.nc;rw[Nat.succ_mul]at u;have M:=d.len;rw[Int.toNat_natCast,Nat.zero_add];refine iz (n:=s) (vs:=enc x) J (C x) d.blk (by omega) R fun w' U I=>?_;exact h w' I (Opn.own (Opn.set C d V hi U))
end
end
section
open Go.RowKit
def ndO (o:Oper):Bool:=match o.op with | .defer _=>false|_=>true
def tK :Code→Bool
 | .region _ ops _=>ops.toList.all ndO
 | .seq a b=>match tK a with|true=>tK b|false=>false
 | .cond _ a b=>match tK a with|true=>tK b|false=>false
 | .block _ c=>tK c
 | .loop c=>tK c
 | _=>true
section
variable {P:Program}{Q:Exit→Act→World→Prop}{l n:Nat}{ops:Array Oper}{ds:List Deferred}
theorem Uh {o:Oper}(h:ndO o=true):∀c,o.op≠.defer c:=by
 intro c d;unfold ndO at h;rw[d]at h;cases h
theorem RL {o:Oper}{a:Act}{w:World}{K:Act→World→Prop}(d:ndO o=true)(h:o.wp P a w K Q):o.wpIn (Fence.wide.inRound l) n P a w K Q:=by
 unfold Oper.wp at h;unfold Oper.wpIn;refine⟨fun _ _=>trivial,?_⟩;rw[Oper.semAt_eq _ _ _ (Uh d)];generalize (execOp a.eval o).run P w=r at *;cases r with
 | ok x w' =>
  cases x<;>simp only[Oper.upon]at h<;>simp only[Oper.uponIn]
  case value=>exact h
  case skip=>exact h
  case enter f args=>exact⟨fun hh=>(by cases hh),CallsIn.inRound l (callsIn_wide.2 h)⟩
  case defer=>exact h
  case row row args =>
   refine⟨fun hh=>(by cases hh),?_⟩;intro c cs _;obtain⟨v,C,u,j⟩:=h c cs;exact⟨v,C,u,stepsIn_wide.2 j⟩
 | halt x w' => cases x<;>simp only[Oper.upon]at h<;>simp only[Oper.uponIn]<;>exact h
theorem Ui (I : ¬LetsOut Q)(C:ops.toList.all ndO=true){i:Nat}{a:Act}{w:World}{K:Act→World→Prop}(h:wpOp P ops Q i K a w):wpOpIn (Fence.wide.inRound l) n P ops Q i K a w:=by
 unfold wpOp at h;unfold wpOpIn;split at h
 ·rename_i d;rw[d];exact h
 ·rename_i o d;rw[d];have J:o∈ops.toList:=by have:=Array.mem_of_getElem? d;simpa using this
  have j:=List.all_eq_true.1 C o J;dsimp only;split at h
  ·rename_i u;rw[if_pos u];rcases h with h|h
   ·exact RL j h
   ·exact absurd h.2 I
  ·rename_i u;rw[if_neg u];exact⟨fun _ _=>trivial,h⟩
theorem Uj (u : ¬LetsOut Q)(j:ops.toList.all ndO=true){md:Region.Mode}:∀(fuel:Nat) (d:Array Bool) (a:Act) (w:World),wpAny P md ops Q fuel d a w→wpAnyIn (Fence.wide.inRound l) n P md ops Q fuel d a w:=by
 intro fuel
 induction fuel with
 | zero=>intro d a w h;exact h
 | succ fuel ih =>
  intro d a w h;exact⟨h.1,fun i hi=>wpOpIn_mono (fun a w h=>ih _ _ _ h) (Ui u j (h.2 i hi))⟩
theorem SW (u : ¬LetsOut Q):∀(L:List Oper) (a:Act) (w:World),L.all ndO=true→wpList P ops Q L a w→wpListIn (Fence.wide.inRound l) n P ops Q L a w:=by
 intro L
 induction L with
 | nil=>intro a w _ h;exact h
 | cons o L ih =>
  intro a w d h;rw[List.all_cons,Bool.and_eq_true]at d;unfold wpList at h;unfold wpListIn;split at h
  ·rename_i j;rw[if_pos j];rcases h with h|h
   ·exact Oper.wpIn_mono (fun a w h=>ih a w d.2 h) (RL d.1 h)
   ·exact absurd h.2 u
  ·rename_i j;rw[if_neg j];exact⟨fun _ _=>trivial,ih _ _ d.2 h⟩
theorem Ox {N:KE}{X:Nat→KE}{R:KE}:¬LetsOut (QQ ds N X R):=fun⟨_,_,h⟩=>h
theorem Nm {id:Nat}{N:KE}{X:Nat→KE}{R:KE}{e:Env}{w:World}(h:ae P (.region id ops true) N X R e w):P.follows .mixedOrders=true∧wpAny P .any ops (QQ ds N X R) ops.size (Array.replicate ops.size false) ⟨e.toArray,ds⟩ w.drew:=by
 simp only[ae]at h;cases Z:(P.follows .mixedOrders&&Ef P ops)
 case true =>
  rw[Z]at h;obtain⟨S,hS,h⟩:=h;simp only[Bool.and_eq_true]at Z;exact⟨Z.1,xr _ _ _ _ _ (GH (fun e w hN=>⟨e,rfl,hN⟩) (fun c a w hh=>hh) (GJ Z.2) _ _ _ _ _ _ hS (EL ops _) h)⟩
 case false =>
 rw[Z]at h;dsimp only at h;cases V:(P.follows .mixedOrders&&Nat.ble (jd ops) ops.size)
 case false=>rw[V]at h;exact h.elim
 case true =>
  rw[V]at h;have h:vo _ _ _ _ _ _:=h;simp only[Bool.and_eq_true]at V;refine⟨V.1,?_⟩;obtain⟨h1,h2⟩:=pT (ops.toList.take (jd ops));obtain⟨h3,h4⟩:=pT (ops.toList.drop (jd ops));have I:∀e,fU P ops.toList (grp (ops.toList.drop (jd ops))) N e w.drew→wpList P ops.toList.toArray (QQ ds N X R) (ops.toList.drop (jd ops)) ⟨e.toArray,ds⟩ w.drew:=by
   intro e he
   have:=xo (P:=P) (ops:=ops.toList) (Q:=QQ ds N X R) (K:=N) (fun e w h=>⟨e,rfl,h⟩) (grp (ops.toList.drop (jd ops))) e w.drew h4 he
   rwa[h3]at this
  rcases GG ops V.2 with⟨J,hn⟩|⟨J,hn⟩
  ·have C:=xq (P:=P) (ops:=ops.toList) (Q:=fun a=>QQ ds N X R .normal a w.drew) (w:=w.drew) (fun e he=>by
    have:=I e he
    rw[hn,List.drop_of_length_le (by simp)]at this;exact this) _ e h2 h
   rw[h1,hn,List.take_of_length_le (by simp)]at C;simp only[Region.lexB,Bool.and_eq_true]at J;have C:wpStill P ops w.drew (fun a=>QQ ds N X R .normal a w.drew) ops.toList ⟨e.toArray,ds⟩:=by simpa using C
   refine wpAny_of_still (Q:=fun a=>QQ ds N X R .normal a w.drew) (fun _ h=>h) _ _ _ ?_
   have:=wpAnyS_lex (md:=.any) J.1 ops.toList 0 (Array.replicate ops.size false) ⟨e.toArray,ds⟩ (by simp) (by simpa using J.2) C
   simpa using this
  ·have C:=xq (P:=P) (ops:=ops.toList) (Q:=fun a=>wpList P ops.toList.toArray (QQ ds N X R) (ops.toList.drop (jd ops)) a w.drew) (w:=w.drew) (fun e he=>I e he) _ e h2 h;rw[h1]at C;simp only[Region.lexTailB,Bool.and_eq_true,decide_eq_true_eq]at J;obtain⟨⟨⟨⟨U,al⟩,an⟩,hc⟩,M⟩:=J;generalize hk:jd ops=k at *;have am:k<ops.toList.length:=by simpa using al
   have d:(ops.toList.take k).length=k:=by simp only[List.length_take];omega
   have ad:(ops.toList.drop k).length=ops.size-k:=by simp
   have hw:ops.toList.toArray=ops:=by simp
   rw[hw]at C;have ag:HeadInv .any ops k (Array.replicate ops.size false) :=
    ⟨by simp,fun j oj _ hl=>(by rw[getD_replicate_false]at hl;cases hl),fun t _ ht=>getD_in (by simpa using ht) (getD_replicate_false _ _)⟩
   have H:=wpAnyL_lex (md:=.any) (g:=ops.size-k) U an hc al (ops.toList.take k) 0 _ ⟨e.toArray,ds⟩ (fun j hj=>by
    have ap:j<k:=by rw[d]at hj;exact hj
    simp[ap]) (by simpa using d) ag (by rw[d];exact M) C
   have:=wpAny_of_head (Q':=QQ ds N X R) (g:=ops.size-k) (fun u a' hL=>by
    have:=wpAny_of_seq (md:=.any) (Q':=QQ ds N X R) (ops.toList.drop k) k u a' w.drew (fun j=>by simp[List.getElem?_drop]) (by rw[ad];exact hL.1) hL.2
    rwa[ad]at this) _ _ _ H
   rw[d,show k+(ops.size-k)=ops.size by simp at am;omega]at this;exact this
theorem Cx :∀(c:Code) (N:KE) (X:Nat→KE) (R:KE) (e:Env) (w:World),tK c=true→ae P c N X R e w→c.wpIn (Fence.wide.inRound l) n P (QQ ds N X R) ⟨e.toArray,ds⟩ w:=by
 intro c
 induction c with
 | skip=>intro N X R e w _ h;exact wpIn_skip ⟨e,rfl,h⟩
 | region id ops draw =>
  intro N X R e w d h;cases draw with
  | true =>
   obtain⟨C,u⟩:=Nm (ds:=ds) h;exact wpIn_region_any C (Uj Ox d _ _ _ _ u)
  | false =>
   refine wpIn_region_list (SW Ox _ _ _ d ?_);obtain⟨C,u⟩:=pT ops.toList
   have:=xo (P:=P) (ops:=ops.toList) (Q:=QQ ds N X R) (K:=N) (fun e w h=>⟨e,rfl,h⟩) (grp ops.toList) e w u h
   rw[C]at this;simpa using this
 | seq a b iha ihb =>
  intro N X R e w d h;obtain⟨M,V⟩:tK a=true∧tK b=true:=by
   unfold tK at d;split at d
   ·rename_i U;exact⟨U,d⟩
   ·cases d
  refine wpIn_seq (wpIn_mono (iha _ _ _ _ _ M h) ?_);intro x a w j;cases x with
  | normal=>obtain⟨e,rfl,h⟩:=j;exact ihb _ _ _ _ _ V h
  | _=>exact j
 | cond c x y ihx ihy =>
  intro N X R e w d h;obtain⟨M,V⟩:tK x=true∧tK y=true:=by
   unfold tK at d;split at d
   ·rename_i U;exact⟨U,d⟩
   ·cases d
  obtain⟨b,J,C,u⟩:=h;cases b with
  | true=>exact wpIn_cond (t:=true) (by rw[ph];exact J) (ihx _ _ _ _ _ M (C rfl))
  | false=>exact wpIn_cond (t:=false) (by rw[ph];exact J) (ihy _ _ _ _ _ V (u rfl))
 | block id c ih =>
  intro N X R e w d h;refine wpIn_block (wpIn_mono (ih _ _ _ _ _ d h) ?_);intro x a w j;cases x with
  | exit i =>
   obtain⟨e,rfl,h⟩:=j;simp only[Exit.inBlock];by_cases hi:i=id
   ·rw[if_pos hi]
    have:Nat.beq i id=true:=by rw[hi];exact Nat.beq_refl id
    rw[this]at h;exact⟨e,rfl,h⟩
   ·rw[if_neg hi]
    have:Nat.beq i id=false:=by
     cases J:Nat.beq i id with
     | false=>rfl
     | true=>exact absurd (Nat.eq_of_beq_eq_true J) hi
    rw[this]at h;exact⟨e,rfl,h⟩
  | _=>exact j
 | loop c ih =>
  intro N X R e w d h;obtain⟨I,μ,h0,Z⟩:=h;refine wpIn_loop (fun a w=>∃e:Env,a=⟨e.toArray,ds⟩∧I e w) (fun a w=>μ a.tmps.toList w) ⟨e,rfl,h0⟩ ?_;rintro _ w' ⟨e',rfl,hI⟩;refine wpIn_mono (ih _ _ _ _ _ d (Z e' w' hI)) ?_;intro x a w j;cases x with
  | normal=>obtain⟨e2,rfl,C,u⟩:=j;exact⟨⟨e2,rfl,C⟩,by simpa using u⟩
  | _=>exact j
 | exit i=>intro N X R e w _ h;exact wpIn_exit ⟨e,rfl,h⟩
 | ret=>intro N X R e w _ h;exact wpIn_ret ⟨e,rfl,h⟩
 | _=>intro N X R e w _ h;exact h.elim
end
end
section
open Go.RowKit
abbrev YB :=List Value→KV→World→Prop
section
variable (P:Program)(Y:YB)(l:Nat)
def Gz (fv:Value)(args:Array Value)(K:KV)(w:World):Prop:=(fv=.func (.yield l) #[] #[]∧Y args.toList K w)∨dC P fv args K w
def yOp (r:Operand→Value)(o:Oper)(K:KV)(w:World):Prop :=
 match o.op with
 | .call c =>
  match c.callee with
  | .value (.tmp t)=>Gz P Y l (r (.tmp t)) (c.args.toList.map r).toArray K w
  | _=>cOp P r o K w
 | _=>cOp P r o K w
def um (ops:List Oper):List Oper→KE→KE
 | [],K=>K
 | o::r,K=>fun e w =>
  match o.guard with
  | none=>yOp P Y l (ev e) o (fun v w' => um ops r K (pt e o.dst v) w') w
  | some (j,want)=>xG (oD ops e j) want (fun k w=>yOp P Y l (ev e) o k w) (fun v w' => um ops r K (pt e o.dst v) w') w
def pS :Code→KE→(Nat→KE)→KE→KE
 | .skip,N,_,_=>N
 | .region _ ops false,N,_,_=>um P Y l ops.toList ops.toList N
 | .region i ops true,N,X,R=>ae P (.region i ops true) N X R
 | .seq a b,N,X,R=>pS a (pS b N X R) X R
 | .cond c x y,N,X,R=>fun e w=>cond (ev e c) (pS x N X R e w) (pS y N X R e w)
 | .block id c,N,X,R=>pS c N (fun i=>@Bool.rec (fun _=>KE) (X i) N (Nat.beq i id)) R
 | .loop c,_,X,R=>RM fun N' => pS c N' X R
 | .exit i,_,X,_=>X i
 | .ret,_,_,R=>R
 | _,_,_,_=>fun _ _=>False
end
structure YOK (P:Program) (l:Nat) (Y:YB):Prop where
 yld:∀{vs K w},Y vs K w→∃r:Loop,w.heap[l]? = some (.loop r)∧r.state=.ready∧vs.length=r.params.size ∧
  RoundIn Fence.wide 0 P l r.fn ((r.params.zip vs.toArray).foldl (fun t (p,a)=>t.setIfInBounds p a) r.tmps) r.assign r.body w (fun x w' => ∃v,x=.returned v∧K v w')
section sound
variable {P:Program}{Y:YB}{l:Nat}
theorem QG {n:Nat}{o:Oper}{a:Act}{w:World}{K:Act→World→Prop}{Q:Exit→Act→World→Prop}(h:o.wp P a w K Q):o.wpIn Fence.wide n P a w K Q:=by
 unfold Oper.wp at h;unfold Oper.wpIn;refine⟨fun _ _=>trivial,?_⟩;rw[show Fence.wide.round=none from rfl,Oper.semAt_none];generalize (execOp a.eval o).run P w=r at *;cases r with
 | ok x w' =>
  cases x<;>simp only[Oper.upon]at h<;>simp only[Oper.uponIn]
  case value=>exact h
  case skip=>exact h
  case enter f args=>exact⟨fun hh=>(by cases hh),callsIn_wide.2 h⟩
  case defer=>exact h
  case row row args =>
   refine⟨fun hh=>(by cases hh),?_⟩;intro c cs _;obtain⟨v,u,j,d⟩:=h c cs;exact⟨v,u,j,stepsIn_wide.2 d⟩
 | halt x w' => cases x<;>simp only[Oper.upon]at h<;>simp only[Oper.uponIn]<;>exact h
theorem IU (hY:YOK P l Y){o:Oper}{e:Env}{w:World}{K:KV}{d:Act→World→Prop}{Q:Exit→Act→World→Prop}(h:yOp P Y l (ev e) o K w)(hn:∀v w',K v w'→d ⟨(pt e o.dst v).toArray,[]⟩ w'):o.wpIn Fence.wide 1 P ⟨e.toArray,[]⟩ w d Q:=by
 have j:cOp P (ev e) o K w→o.wpIn Fence.wide 1 P ⟨e.toArray,[]⟩ w d Q:=fun h=>QG (vU h hn)
 unfold yOp at h;split at h
 ·rename_i c V;split at h
  ·rename_i t U;rcases h with⟨hf,hy⟩|h
   ·obtain⟨r,h1,Z,h3,h4⟩:=hY.yld hy;have R:Act.eval ⟨e.toArray,[]⟩=ev e:=funext (ph e []);have u:(execOp (Act.eval ⟨e.toArray,[]⟩) o).run P w=.ok (.round l r.fn ((r.params.zip (c.args.toList.map (ev e)).toArray).foldl (fun t (p,a)=>t.setIfInBounds p a) r.tmps) r.assign r.body) w:=by
     obtain⟨dst,op,ty,pos,after,X⟩:=o;simp only at V;subst V;obtain⟨am,M,an⟩:=c;simp only at U;subst U;rw[R];simp only[execOp,resolve,Deferred.ofValue,invoke,Sem.run_bind,Sem.run_pure,Result.andThen_ok,hf];have e1 : #[]++Array.map (ev e) M=(M.toList.map (ev e)).toArray:=by apply Array.ext';simp
     rw[e1];obtain⟨st,ad,fn,ag,I,J,al,C⟩:=r;simp only at Z;subst Z;exact run_yield (P:=P) (w:=w) (l:=l) (args:=(M.toList.map (ev e)).toArray) h1 (by simpa using h3)
    unfold Oper.wpIn;refine⟨fun _ _=>trivial,?_⟩;rw[show Fence.wide.round=none from rfl,Oper.semAt_none,u,Oper.uponIn_round];refine⟨fun hh=>(by cases hh),h4.mono ?_⟩;rintro x w2 ⟨v,rfl,hv⟩;show d (Act.put ⟨e.toArray,[]⟩ o.dst v) w2
    rw[rW];exact hn v w2 hv
   ·refine j ?_;unfold cOp;rw[V];dsimp only;rw[U];exact h
  ·exact j h
 ·exact j h
theorem EH (M:YOK P l Y){ops:Array Oper}{Q:Exit→Act→World→Prop}:∀(L:List Oper) {K:KE} {e:Env} {w:World},um P Y l ops.toList L K e w→(∀e w,K e w→Q .normal ⟨e.toArray,[]⟩ w)→wpListIn Fence.wide 1 P ops Q L ⟨e.toArray,[]⟩ w
 | [],K,e,w,h,hK=>hK e w h
 | o::L,K,e,w,h,hK=>by
  refine wpListIn_step fun KK J=>?_;dsimp only;unfold um at h;have R:∀v w',um P Y l ops.toList L K (pt e o.dst v) w'→KK ⟨(pt e o.dst v).toArray,[]⟩ w':=fun v w' h=>J _ _ (EH M L h hK);split at h
  ·rename_i I;have u:Region.wanted o (yielded ops e.toArray)=true:=by simp[Region.wanted,I]
   rw[u,if_pos rfl];exact IU M h R
  ·rename_i j d I;have u:=rh ops.toList e o j d I;rw[show ops.toList.toArray=ops from rfl]at u;rw[u];by_cases C:asB (oD ops.toList e j)=some d
   ·rw[show (asB (oD ops.toList e j)==some d)=true by simp[C],if_pos rfl];exact IU M (h.1 C) R
   ·rw[show (asB (oD ops.toList e j)==some d)=false by simp[C],if_neg (by simp)];refine⟨fun _ _=>trivial,?_⟩;rw[rW];exact R undef w (h.2 C)
theorem Lz (M:YOK P l Y):∀(c:Code) (N:KE) (X:Nat→KE) (R:KE) (e:Env) (w:World),pS P Y l c N X R e w→c.wp P (QQ [] N X R) ⟨e.toArray,[]⟩ w:=by
 intro c
 induction c with
 | skip=>intro N X R e w h;exact wp_skip ⟨e,rfl,h⟩
 | region id ops draw =>
  intro N X R e w h;cases draw with
  | true=>exact vJ _ _ _ _ _ _ h
  | false=>exact(wpIn_wide (n:=1)).1 (wpIn_region_list (EH M ops.toList h fun e w hN=>⟨e,rfl,hN⟩))
 | seq a b iha ihb =>
  intro N X R e w h;refine wp_seq (wp_mono (iha _ _ _ _ _ h) ?_);intro x a w d;cases x with
  | normal=>obtain⟨e,rfl,h⟩:=d;exact ihb _ _ _ _ _ h
  | _=>exact d
 | cond c x y ihx ihy =>
  intro N X R e w h;obtain⟨b,j,C,u⟩:=h;cases b with
  | true=>exact wp_cond (t:=true) (by rw[ph];exact j) (ihx _ _ _ _ _ (C rfl))
  | false=>exact wp_cond (t:=false) (by rw[ph];exact j) (ihy _ _ _ _ _ (u rfl))
 | block id c ih =>
  intro N X R e w h;refine wp_block (wp_mono (ih _ _ _ _ _ h) ?_);intro x a w d;cases x with
  | exit i =>
   obtain⟨e,rfl,h⟩:=d;simp only[Exit.inBlock];by_cases hi:i=id
   ·rw[if_pos hi]
    have:Nat.beq i id=true:=by rw[hi];exact Nat.beq_refl id
    rw[this]at h;exact⟨e,rfl,h⟩
   ·rw[if_neg hi]
    have:Nat.beq i id=false:=by
     cases j:Nat.beq i id with
     | false=>rfl
     | true=>exact absurd (Nat.eq_of_beq_eq_true j) hi
    rw[this]at h;exact⟨e,rfl,h⟩
  | _=>exact d
 | loop c ih =>
  intro N X R e w h;obtain⟨I,μ,h0,J⟩:=h;refine wp_loop (fun a w=>∃e:Env,a=⟨e.toArray,[]⟩∧I e w) (fun a w=>μ a.tmps.toList w) ⟨e,rfl,h0⟩ ?_;rintro _ w' ⟨e',rfl,hI⟩;refine wp_mono (ih _ _ _ _ _ (J e' w' hI)) ?_;intro x a w d;cases x with
  | normal=>obtain⟨e2,rfl,C,u⟩:=d;exact⟨⟨e2,rfl,C⟩,by simpa using u⟩
  | _=>exact d
 | exit i=>intro N X R e w h;exact wp_exit ⟨e,rfl,h⟩
 | ret=>intro N X R e w h;exact wp_ret ⟨e,rfl,h⟩
 | _=>intro N X R e w h;exact h.elim
def vS (P:Program)(Y:YB)(l:Nat)(f:FuncId)(args:List Value)(w:World)(K:KV):Prop :=
 Da P f∧∃(fn:Func) (c:Code),P.funcs[f]? = some fn∧fn.body=some c ∧
  pS P Y l c (ut P fn.results.toList K) (fun _ _ _=>False) (ut P fn.results.toList K) (args++List.replicate (fn.ntmps-args.length) undef) w
theorem Oy {f:FuncId}{d:Func}{args:List Value}{w:World}{K:KV}(u:Da P f)(C:P.funcs[f]? = some d)(I:d.body.isSome=true)(h:pS P Y l (cd d []) (ut P d.results.toList K) (fun _ _ _=>False) (ut P d.results.toList K) (args++List.replicate (d.ntmps-args.length) undef) w):vS P Y l f args w K:=by
 cases j:d.body with
 | none=>simp[j]at I
 | some c =>
  have:cd d []=c:=by simp[cd,j,sub]
  rw[this]at h;exact⟨u,d,c,C,j,h⟩
theorem Kl (J:YOK P l Y){f:FuncId}{args:List Value}{w:World}{K:KV}(h:vS P Y l f args w K):Da P f∧Calls P f args.toArray w (fun x w' => ∃v,x=.returned v∧K v w'):=by
 obtain⟨I,C,c,M,R,h⟩:=h;refine⟨I,calls_of_wp M R ?_⟩;have e1:args.toArray++Array.replicate (C.ntmps-args.toArray.size) undef=(args++List.replicate (C.ntmps-args.length) undef).toArray:=by simp
 rw[e1];refine wp_mono (Lz J c _ _ _ _ _ h) ?_;intro x a w d;cases x with
 | normal=>obtain⟨e,rfl,h⟩:=d;obtain⟨v,u,j⟩:=rY h;exact⟨rfl,v,u,v,rfl,j⟩
 | ret=>obtain⟨e,rfl,h⟩:=d;obtain⟨v,u,j⟩:=rY h;exact⟨rfl,v,u,v,rfl,j⟩
 | exit i=>obtain⟨_,_,h⟩:=d;exact h.elim
 | _=>exact d.elim
/-! ## What a piece of an iterator's code does not write stays. -/
abbrev vG (Y:YB):Prop:=∀(vs:List Value) (K K':KV) (w:World),(∀v w',K v w'→K' v w')→Y vs K w→Y vs K' w
theorem Nn {I:Value}{args:Array Value}{K K':KV}{w:World}(J:vG Y)(C:∀v w',K v w'→K' v w')(h:Gz P Y l I args K w):Gz P Y l I args K' w:=by
 rcases h with⟨u,j⟩|⟨f,d,cap,u,j⟩
 ·exact .inl ⟨u,J _ _ _ _ C j⟩
 ·exact .inr ⟨f,d,cap,u,Dd C j⟩
theorem Km (j:vG Y){r:Operand→Value}{o:Oper}{K K':KV}{w:World}(d:∀v w',K v w'→K' v w')(h:yOp P Y l r o K w):yOp P Y l r o K' w:=by
 unfold yOp at h ⊢;split at h
 ·split at h
  ·exact Nn j d h
  ·exact ye d h
 ·exact ye d h
theorem EI (I:vG Y){ops:List Oper}:∀(L:List Oper) {K K':KE} {e:Env} {w:World},um P Y l ops L K e w→(∀e2 j,agree (eY L) e e2→K e2 j→K' e2 j)→um P Y l ops L K' e w
 | [],K,K',e,w,h,hk=>hk e w (agree.refl _ _) h
 | o::L,K,K',e,w,h,hk=>by
  have J:∀v w',um P Y l ops L K (pt e o.dst v) w'→um P Y l ops L K' (pt e o.dst v) w':=fun v w' h =>
   EI I L h fun e2 j M hK=>hk e2 j (((Bz e o.dst v).trans M).mono fun i hi=>by
    unfold eY at *;rw[List.filterMap_cons];rcases List.mem_append.1 hi with hi|hi
    ·cases u:o.dst with
     | none=>rw[u]at hi;cases hi
     | some d=>rw[u]at hi;simp at hi;subst hi;simp
    ·cases u:o.dst with
     | none=>exact hi
     | some d=>exact List.mem_cons_of_mem _ hi) hK
  unfold um at h ⊢;split at h
  ·exact Km I J h
  ·exact⟨fun C=>Km I J (h.1 C),fun C=>J _ _ (h.2 C)⟩
theorem LA (hY:vG Y):∀(c:Code) {N N':KE} {X X':Nat→KE} {R R':KE} {e:Env} {w:World},pS P Y l c N X R e w→(∀e2 d,agree (wr c) e e2→N e2 d→N' e2 d) →
  (∀i e2 d,agree (wr c) e e2→X i e2 d→X' i e2 d)→(∀e2 d,agree (wr c) e e2→R e2 d→R' e2 d)→pS P Y l c N' X' R' e w:=by
 intro c
 induction c with
 | skip=>intro N N' X X' R R' e w h hN _ _;exact hN e w (agree.refl _ _) h
 | region id ops draw =>
  intro N N' X X' R R' e w h hN u C;cases draw with
  | true=>exact vK _ h hN u C
  | false=>exact EI hY _ h hN
 | seq a b iha ihb =>
  intro N N' X X' R R' e w h hN u C;exact iha h (fun e2 d j U=>ihb U (fun e3 V hc Z=>hN e3 V (j.trans hc) Z) (fun i e3 V hc Z=>u i e3 V (j.trans hc) Z) (fun e3 V hc Z=>C e3 V (j.trans hc) Z))
   (fun i e2 d j=>u i e2 d (j.mono fun i hi=>List.mem_append_left _ hi)) (fun e2 d j=>C e2 d (j.mono fun i hi=>List.mem_append_left _ hi))
 | cond c x y ihx ihy =>
  intro N N' X X' R R' e w h hN u C;obtain⟨b,U,h1,h2⟩:=h;refine⟨b,U,fun e1=>?_,fun e1=>?_⟩
  ·exact ihx (h1 e1) (fun e2 d j=>hN e2 d (j.mono fun i hi=>List.mem_append_left _ hi)) (fun i e2 d j=>u i e2 d (j.mono fun i hi=>List.mem_append_left _ hi)) (fun e2 d j=>C e2 d (j.mono fun i hi=>List.mem_append_left _ hi))
  ·exact ihy (h2 e1) (fun e2 d j=>hN e2 d (j.mono fun i hi=>List.mem_append_right _ hi)) (fun i e2 d j=>u i e2 d (j.mono fun i hi=>List.mem_append_right _ hi)) (fun e2 d j=>C e2 d (j.mono fun i hi=>List.mem_append_right _ hi))
 | block id c ih =>
  intro N N' X X' R R' e w h hN u C;refine ih h hN (fun i e2 d j J=>?_) C;cases U:Nat.beq i id with
  | true=>rw[U]at J;exact hN e2 d j J
  | false=>rw[U]at J;exact u i e2 d j J
 | loop c ih =>
  intro N N' X X' R R' e w h hN u C;obtain⟨I,μ,h0,hs⟩:=h;refine⟨fun e' w' => I e' w'∧agree (wr c) e e',μ,⟨h0,agree.refl _ _⟩,?_⟩;rintro e' w' ⟨hI,M⟩
  refine ih (hs e' w' hI) (fun e2 d j ⟨h1,h2⟩=>⟨⟨h1,(M.trans j).mono fun i hi=>by simpa using hi⟩,h2⟩) (fun i e2 d j J=>u i e2 d ((M.trans j).mono fun i hi=>show i∈wr c by simpa using hi) J) (fun e2 d j J=>C e2 d ((M.trans j).mono fun i hi=>show i∈wr c by simpa using hi) J)
 | exit i=>intro N N' X X' R R' e w h _ u _;exact u i e w (agree.refl _ _) h
 | ret=>intro N N' X X' R R' e w h _ _ C;exact C e w (agree.refl _ _) h
 | _=>intro N N' X X' R R' e w h _ _ _;exact h.elim
theorem GA (U:vG Y)(c:Code)(ws:List Nat)(u:(wr c).all (ws.contains ·)=true)(I:KE)(μ:Env→World→Nat){N:KE}{X:Nat→KE}{R:KE}{e:Env}{w:World}(h0:I e w)(J:∀e' w',I e' w'→pS P Y l c (fun e2 C=>I e2 C∧μ e2 C<μ e' w') X R (mix ws e' 0 e) w'):pS P Y l (.loop c) N X R e w:=by
 have j:∀i∈wr c,i∈ws:=fun i hi=>by simpa using List.all_eq_true.1 u i hi
 refine⟨fun e' w' => I e' w'∧agree ws e e',μ,⟨h0,agree.refl _ _⟩,?_⟩;rintro e' w' ⟨hI,d⟩;have h:=J e' w' hI;rw[Ja d]at h;exact LA U c h (fun e2 C Z ⟨V,M⟩=>⟨⟨V,(d.trans (Z.mono j)).mono (fun i hi=>by simpa using hi)⟩,M⟩) (fun _ _ _ _ h=>h) (fun _ _ _ h=>h)
/-! ## The statement -/
def No :List (Tmp×Value)→Env→Env
 | [],e=>e
 | (p,v)::r,e=>No r (e.set p v)
theorem Mj :∀(l:List (Tmp×Value)) (e:Env),l.foldl (fun t p=>t.setIfInBounds p.1 p.2) e.toArray=(No l e).toArray
 | [],e=>rfl
 | (p,v)::l,e=>by
  rw[List.foldl_cons,show e.toArray.setIfInBounds p v=(e.set p v).toArray by simp];exact Mj l _
def mE (fn:FuncId)(e:Env)(ps:Array Tmp)(a bd:Code)(D:Nat)(st:LoopState)(y:Option Code):Loop:={state:=st,pending:=y,fn,tmps:=e.toArray,params:=ps,assign:=a,body:=bd,defers:=D}
def stY (y:Option Code):LoopState:=if y.isNone then .ready else .done
def JE (P:Program)(l D:Nat)(fn:FuncId)(e:Env)(ps:Array Tmp)(a bd:Code):YB:=fun vs K w =>
 tK a=true∧tK bd=true∧w.heap[l]? = some (.loop (mE fn e ps a bd D .ready none))∧vs.length=ps.size ∧
 ae P a (fun e1 w1=>w1.heap[l]? = some (.loop (mE fn e ps a bd D .ready none)) ∧
  ae P bd (fun _ w2=>w2.heap[l]? = some (.loop (mE fn e ps a bd D .busy none))∧K (.bool true) (w2.putObj l (.loop (mE fn e ps a bd D .ready none))))
   (fun i _ w2=>w2.heap[l]? = some (.loop (mE fn e ps a bd D .busy none))∧K (.bool false) (w2.putObj l (.loop (mE fn e ps a bd D .done (some (.exit i))))))
   (fun _ w2=>w2.heap[l]? = some (.loop (mE fn e ps a bd D .busy none))∧K (.bool false) (w2.putObj l (.loop (mE fn e ps a bd D .done (some .ret)))))
   e1 (w1.putObj l (.loop (mE fn e ps a bd D .busy none)))) (fun _ _ _=>False) (fun _ _=>False) (No (ps.toList.zip vs) e) w
theorem QH {l D:Nat}{M:FuncId}{e:Env}{ps:Array Tmp}{a bd:Code}:YOK P l (JE P l D M e ps a bd) where
 yld:=by
  rintro vs K w ⟨R,V,X,J,h⟩;refine⟨_,X,rfl,J,?_⟩;have C:(ps.zip vs.toArray).foldl (fun j (t,a)=>j.setIfInBounds t a) e.toArray=(No (ps.toList.zip vs) e).toArray:=by
   rw[←Mj, ←Array.foldl_toList];simp
  show RoundIn Fence.wide 0 P l M ((ps.zip vs.toArray).foldl (fun j (t,a)=>j.setIfInBounds t a) e.toArray) a bd w _;rw[C];refine roundIn_of_wpIn trivial <|wpIn_mono (Cx (ds:=[]) a _ _ _ _ _ R h) ?_;intro x a1 w1 d;cases x with
  | normal =>
   obtain⟨e1,rfl,U,d⟩:=d;refine⟨_,run_beginRound U rfl,?_⟩;refine wpIn_mono (Cx (ds:=[]) bd _ _ _ _ _ V d) ?_;intro x a1 Z d;cases x with
   | normal=>obtain⟨e2,rfl,u,I⟩:=d;exact⟨_,_,run_endRound none u,_,rfl,I⟩
   | exit i=>obtain⟨e2,rfl,u,I⟩:=d;exact⟨_,_,run_endRound (some (.exit i)) u,_,rfl,I⟩
   | ret=>obtain⟨e2,rfl,u,I⟩:=d;exact⟨_,_,run_endRound (some .ret) u,_,rfl,I⟩
   | _=>exact d.elim
  | exit i=>obtain⟨_,_,d⟩:=d;exact d
  | ret=>obtain⟨_,_,d⟩:=d;exact d
  | _=>exact d
def rfS (P:Program)(c:Code)(N:Nat→KE)(X:Nat→Nat→KE)(R:Nat→KE)(e:Env)(w:World):Prop :=
 match c with
 | .rangeFunc g ps a bd=>∃(gf:FuncId) (cap:List Value),ev e g=.func (.func gf) #[] cap.toArray∧∀(fn:FuncId) (W:World),Below w.heap.size w W→W.heap.size=w.heap.size+2 →
   W.heap[w.heap.size]? = some (.deferred (some []))→W.heap[w.heap.size+1]? = some (.loop (mE fn e ps a bd w.heap.size .ready none)) →
   vS P (JE P (w.heap.size+1) w.heap.size fn e ps a bd) (w.heap.size+1) gf (.func (.yield (w.heap.size+1)) #[] #[]::cap) W fun _ w' =>
    ∃y:Option Code,w'.heap[w.heap.size+1]? = some (.loop (mE fn e ps a bd w.heap.size (stY y) y)) ∧
     (match y with
      | none=>N w.heap.size e (w'.putObj (w.heap.size+1) (.loop (mE fn e ps a bd w.heap.size .exhausted y)))
      | some (.exit i)=>X i w.heap.size e (w'.putObj (w.heap.size+1) (.loop (mE fn e ps a bd w.heap.size .exhausted y)))
      | some .ret=>R w.heap.size e (w'.putObj (w.heap.size+1) (.loop (mE fn e ps a bd w.heap.size .exhausted y)))
      | _=>False)
 | _=>False
def QM (N:Nat→KE)(X:Nat→Nat→KE)(R:Nat→KE):Exit→Act→World→Prop
 | .normal,a,w=>∃(e:Env) (D:Nat),a=⟨e.toArray,[{target:=.collected D,args:=#[]}]⟩∧N D e w
 | .exit i,a,w=>∃(e:Env) (D:Nat),a=⟨e.toArray,[{target:=.collected D,args:=#[]}]⟩∧X i D e w
 | .ret,a,w=>∃(e:Env) (D:Nat),a=⟨e.toArray,[{target:=.collected D,args:=#[]}]⟩∧R D e w
 | _,_,_=>False
theorem Oz {c:Code}{N:Nat→KE}{X:Nat→Nat→KE}{R:Nat→KE}{e:Env}{w:World}(h:rfS P c N X R e w):c.wp P (QM N X R) ⟨e.toArray,[]⟩ w:=by
 unfold rfS at h;split at h
 ·rename_i g ps a bd;obtain⟨gf,cap,hv,h⟩:=h;refine(wpIn_wide (n:=0)).1 (wpIn_rangeFunc ?_);intro j _;obtain⟨W1,d⟩:∃W1,(w.alloc (.deferred (some []))).alloc (.loop (mE j e ps a bd w.heap.size .ready none))=W1:=⟨_,rfl⟩
  have V:W1.heap[w.heap.size+1]? = some (.loop (mE j e ps a bd w.heap.size .ready none)):=by
   rw[←d];have:=World.alloc_heap_new (w.alloc (.deferred (some []))) (.loop (mE j e ps a bd w.heap.size .ready none));rwa[World.size_alloc]at this
  have Z:W1.heap[w.heap.size]? = some (.deferred (some [])):=by
   rw[←d];exact(Below.heap_alloc _ _ _ (by simp)).trans (World.alloc_heap_new w _)
  have u:Below w.heap.size w W1:=by
   rw[←d];exact((Below.refl _ w).alloc (Nat.le_refl _) _).alloc (by simp) _
  have I:W1.heap.size=w.heap.size+2:=by rw[←d];simp
  obtain⟨U,M⟩:=Kl QH (h j W1 u I Z V);refine⟨w.heap.size+1,[{target:=.collected w.heap.size,args:=#[]}],W1, {target:=.fn (.func gf) cap.toArray,args:=#[.func (.yield (w.heap.size+1)) #[] #[]]},W1,gf,
   #[.func (.yield (w.heap.size+1)) #[] #[]]++cap.toArray,W1,?_,?_,fun _ _=>trivial,?_,(fun h=>by cases h),?_⟩
  ·rw[←d];exact run_enterLoop_outer _ _ _ _ _
  ·have J:Act.eval ⟨e.toArray,[]⟩ g=.func (.func gf) #[] cap.toArray:=by rw[ph];exact hv
   simp only[resolve,J];simp[go_sem]
  ·simp[invoke,go_sem,Dc U]
  ·refine callsIn_wide.2 ?_;have e1 : #[Value.func (.yield (w.heap.size+1)) #[] #[]]++cap.toArray=(Value.func (.yield (w.heap.size+1)) #[] #[]::cap).toArray:=by simp
   rw[e1];refine M.mono ?_;rintro x w' ⟨_,rfl,y,hl,C⟩;refine⟨_,_,run_endLoop hl (by unfold mE stY;cases y<;>simp),?_⟩;cases y with
   | none=>exact(show QM N X R .normal _ _ from⟨e,_,rfl,C⟩)
   | some c =>
    cases c with
    | exit i=>exact(show Code.wpIn Fence.wide 0 P (.exit i) (QM N X R) _ _ from wpIn_exit (show QM N X R (.exit i) _ _ from⟨e,_,rfl,C⟩))
    | ret=>exact(show Code.wpIn Fence.wide 0 P .ret (QM N X R) _ _ from wpIn_ret (show QM N X R .ret _ _ from⟨e,_,rfl,C⟩))
    | _=>exact C.elim
 ·exact h.elim
def dM (D:Nat)(w:World):Prop:=w.heap[D]? = some (.deferred (some []))
def uo (P:Program)(rs:List ResultVar)(K:KV)(D:Nat):KE:=fun e w=>dM D w∧ut P rs K e (w.putObj D (.deferred none))
theorem OA {d:Func}{K:KV}{D:Nat}{e:Env}{w:World}(h:uo P d.results.toList K D e w):LeavesInM Fence.wide 0 P d e.toArray (fun x w' => ∃v,x=.returned v∧K v w') [{target:=.collected D,args:=#[]}] .returning w:=by
 refine⟨by simp,.inl ⟨D,_,rfl,run_takeDeferred h.1,?_⟩⟩;obtain⟨v,u,j⟩:=rY h.2;exact⟨v,u,v,rfl,j⟩
theorem Uk {d:Func}{K:KV}{e:Env}{w:World}(h:ut P d.results.toList K e w):LeavesInM Fence.wide 0 P d e.toArray (fun x w' => ∃v,x=.returned v∧K v w') [] .returning w:=by
 obtain⟨v,u,j⟩:=rY h;exact⟨v,u,v,rfl,j⟩
def Ul :Code→Code
 | .rangeFunc _ _ _ b=>b
 | _=>.skip
def Um :Code→Code
 | .rangeFunc _ _ a _=>a
 | _=>.skip
def Kn :Code→Option (Nat×Code)
 | .block id c=>match c with
  | .rangeFunc g ps a b=>some (id,.rangeFunc g ps a b)
  | _=>none
 | _=>none
theorem OB {c:Code}{id:Nat}{r:Code}(h:Kn c=some (id,r)):c=.block id r:=by
 unfold Kn at h;split at h
 ·split at h
  ·cases h;rfl
  ·cases h
 ·cases h
def rfT :Code→Bool
 | .seq a b=>match rfT a with|true=>true|false=>rfT b
 | c=>(Kn c).isSome
def cMr (P:Program)(F:Nat→KE)(R0:KE):Code→(Nat→KE)→KE
 | .seq a b,N=>match rfT a with
  | true=>cMr P F R0 a fun D=>ae P b (N D) (fun _ _ _=>False) (F D)
  | false=>ae P a (cMr P F R0 b N) (fun _ _ _=>False) R0
 | c,N=>match Kn c with
  | some (id,c)=>rfS P c N (fun i D e w=>i=id∧N D e w) F
  | none=>fun _ _=>False
def QR (F:Nat→KE)(R0:KE)(N:Nat→KE):Exit→Act→World→Prop
 | .normal,a,w=>∃(e:Env) (D:Nat),a=⟨e.toArray,[{target:=.collected D,args:=#[]}]⟩∧N D e w
 | .ret,a,w=>(∃(e:Env) (D:Nat),a=⟨e.toArray,[{target:=.collected D,args:=#[]}]⟩∧F D e w)∨∃e:Env,a=⟨e.toArray,[]⟩∧R0 e w
 | _,_,_=>False
theorem OC {F:Nat→KE}{R0:KE}:∀(c:Code) {N:Nat→KE} {e:Env} {w:World},cMr P F R0 c N e w→c.wp P (QR F R0 N) ⟨e.toArray,[]⟩ w:=by
 intro c
 induction c with
 | seq a b iha ihb =>
  intro N e w h;cases j:rfT a with
  | true =>
   simp only[cMr,j]at h;refine wp_seq (wp_mono (iha h) ?_);intro x a C d;cases x with
   | normal =>
    obtain⟨e1,D,rfl,u⟩:=d;refine wp_mono (vJ (ds:=[{target:=.collected D,args:=#[]}]) b _ _ _ _ _ u) ?_;intro x a w d;cases x with
    | normal=>obtain⟨e,rfl,h⟩:=d;exact⟨e,D,rfl,h⟩
    | ret=>obtain⟨e,rfl,h⟩:=d;exact .inl ⟨e,D,rfl,h⟩
    | exit i=>obtain⟨_,_,h⟩:=d;exact h.elim
    | _=>exact d.elim
   | ret=>exact d
   | _=>exact d.elim
  | false =>
   simp only[cMr,j]at h;refine wp_seq (wp_mono (vJ (ds:=[]) a _ _ _ _ _ h) ?_);intro x a C d;cases x with
   | normal=>obtain⟨e1,rfl,u⟩:=d;exact ihb u
   | exit i=>obtain⟨_,_,d⟩:=d;exact d.elim
   | ret=>obtain⟨e1,rfl,u⟩:=d;exact .inr ⟨e1,rfl,u⟩
   | _=>exact d.elim
 | block id c _ =>
  intro N e w h;cases j:Kn (.block id c)with
  | some p =>
   obtain⟨id,r⟩:=p;simp only[cMr,j]at h;rw[OB j];refine wp_block (wp_mono (Oz h) ?_);intro x a I d;cases x with
   | normal=>obtain⟨e,D,rfl,h⟩:=d;exact⟨e,D,rfl,h⟩
   | ret=>obtain⟨e,D,rfl,h⟩:=d;exact .inl ⟨e,D,rfl,h⟩
   | exit i =>
    obtain⟨e,D,rfl,hi,hh⟩:=d;rw[hi];simp only[Exit.inBlock,if_true];exact⟨e,D,rfl,hh⟩
   | _=>exact d.elim
  | none =>
   simp only[cMr,j]at h
 | _=>intro N e w h;exact h.elim
theorem OD {f:FuncId}{d:Func}{args:List Value}{w:World}{K:KV}(C:P.funcs[f]? = some d)(I:d.body.isSome=true)(h:cMr P (uo P d.results.toList K) (ut P d.results.toList K) (cd d []) (uo P d.results.toList K) (args++List.replicate (d.ntmps-args.length) undef) w):Gives P f args.toArray w K:=by
 cases j:d.body with
 | none=>simp[j]at I
 | some c =>
  have:cd d []=c:=by simp[cd,j,sub]
  rw[this]at h;refine callsIn_wide.1 (callsIn_of_wp_marks (n:=0) C j trivial ?_);have e1:args.toArray++Array.replicate (d.ntmps-args.toArray.size) undef=(args++List.replicate (d.ntmps-args.length) undef).toArray:=by simp
  rw[e1];refine wpIn_wide.2 (wp_mono (OC c h) ?_);intro x a J u;cases x with
  | normal=>obtain⟨e,D,rfl,h⟩:=u;exact OA h
  | ret =>
   rcases u with⟨e,D,rfl,h⟩|⟨e,rfl,h⟩
   ·exact OA h
   ·exact Uk h
  | _=>exact u.elim
theorem OE {c:Code}{g:Operand}{ps:Array Tmp}{a bd:Code}{gf:FuncId}{cap:List Value}{N:Nat→KE}{X:Nat→Nat→KE}{R:Nat→KE}{e:Env}{w:World}(u:c=.rangeFunc g ps a bd)(j:ev e g=.func (.func gf) #[] cap.toArray)(h:∀(d:FuncId) (W:World),Below w.heap.size w W→W.heap.size=w.heap.size+2 →
   W.heap[w.heap.size]? = some (.deferred (some []))→W.heap[w.heap.size+1]? = some (.loop (mE d e ps a bd w.heap.size .ready none)) →
   vS P (JE P (w.heap.size+1) w.heap.size d e ps a bd) (w.heap.size+1) gf (.func (.yield (w.heap.size+1)) #[] #[]::cap) W fun _ w' =>
    ∃y:Option Code,w'.heap[w.heap.size+1]? = some (.loop (mE d e ps a bd w.heap.size (stY y) y)) ∧
     (match y with
      | none=>N w.heap.size e (w'.putObj (w.heap.size+1) (.loop (mE d e ps a bd w.heap.size .exhausted y)))
      | some (.exit i)=>X i w.heap.size e (w'.putObj (w.heap.size+1) (.loop (mE d e ps a bd w.heap.size .exhausted y)))
      | some .ret=>R w.heap.size e (w'.putObj (w.heap.size+1) (.loop (mE d e ps a bd w.heap.size .exhausted y)))
      | _=>False)):rfS P c N X R e w:=by
 subst u;exact⟨gf,cap,j,h⟩
end sound
end
section
open Go.RowKit
noncomputable abbrev Q :Program:=Tryz.prog
abbrev ci (x:Int):Value:=.int .i64 x
abbrev cu (x:Int):Value:=.int .u64 x
abbrev cb (x:Int):Value:=.int .u8 x
abbrev cT :Value:=.bool true
abbrev cF :Value:=.bool false
abbrev cN :Value:=.slice none 0 0
abbrev rk (f:Func)(K:KV):KE:=ut Q f.results.toList K
abbrev xf :Nat→KE:=fun _ _ _=>False
abbrev xx (X:Nat→KE)(N:KE)(k:Nat):Nat→KE:=fun i=>@Bool.rec (fun _=>KE) (X i) N (Nat.beq i k)
def zM (f d:Nat→Value):List Nat→Nat→Value
 | [],i=>f i
 | k::l,i=>match Nat.beq k i with|true=>d i|false=>zM f d l i
def zu (_:Nat):Value:=undef
def zT (f:Nat→Value):Nat→Nat→List Value→List Value
 | _,0,l=>l
 | a,n+1,l=>f a::zT f (a+1) n l
def zr :List (Nat×Nat)→List Nat
 | []=>[]
 | p::l=>List.range' p.1 p.2++zr l
def zV (f:Nat→Value):Nat→List Value→Nat→Value
 | _,[],i=>f i
 | a,v::l,i=>match Nat.beq a i with|true=>v|false=>zV f (a+1) l i
abbrev uu :Value:=undef
abbrev hF (S:World→Prop)(t:TypeId)(x:Value)(f:Nat):(Value→Prop)→Prop:=hld S (ai Q t x f)
abbrev hL (S:World→Prop)(t:TypeId)(x:Value):(Value→Prop)→Prop:=hld S (ld Q t x)
abbrev hN (S:World→Prop)(x:Value):(Value→Prop)→Prop:=hld S (bo x)
abbrev sF (t:TypeId)(x:Value)(f:Nat):KV→World→Prop:=sti (ai Q t x f)
abbrev sL (t:TypeId)(x:Value):KV→World→Prop:=sti (ld Q t x)
abbrev sN (x:Value):KV→World→Prop:=sti (bo x)
abbrev lN (t:TypeId)(x:Value):KV→World→Prop:=blt Q .len #[t] 3 #[false] #[x]
abbrev hI (S:World→Prop)(t:TypeId)(x i:Value):(Value→Prop)→Prop:=hld S (aU Q t x i)
abbrev sI (t:TypeId)(x i:Value):KV→World→Prop:=sti (aU Q t x i)
abbrev nC (x:Value):KV→World→Prop:=bin Q .add 3 false true x (ci 1)
abbrev lS (x y:Value):KV→World→Prop:=bin Q .lss 3 false false x y
def vI :Nat→Type
 | 0=>World→Prop
 | n+1=>Value→vI n
def vM :Nat→Type
 | 0=>World→Nat
 | n+1=>Value→vM n
theorem mpK {a b:Prop}(h:a)(e:a=b:=by kernel_rfl):b:=Eq.mp e h
theorem mpF {a b:Prop}(e:a=b:=by kernel_rfl):a→b:=Eq.mp e
theorem goK {f:FuncId} {d:Func} (h:Q.funcs[f]? = some d) (j:(d.name == "runtime.NumGoroutine")=false:=by kernel_rfl) (u:d.body.isNone=false:=by kernel_rfl):Da Q f:=⟨d,h,j,u⟩
end
section
open Go.RowKit
theorem LD {K:KV}{w:World}(h:eS Q 86 none (fun A1=>bld Q 119 #[(0,A1)] fun A2=>box Q 119 A2 K) w):Gives Q 23 #[] w K:=by
 refine aH func23 (by kernel_rfl) ?_;exact mpK h
theorem Np {K:KV}{d j:Value}{w:World}(h:bin Q .lss 3 false true d (ci 1) (fun A5 w=>aJ A5 false (fun R=>bin Q .gtr 3 false true d (ci 6) (fun A8=>R [d,A8]) w) (fun k=>k [uu,uu] w) fun M=>pick A5 cT (gd M 1) fun A9 w=>aJ A9 false (fun I=>bin Q .lss 24 false true j (cu 1) (fun C2=>I [j,C2]) w) (fun k=>k [uu,uu] w) fun u=>pick A9 cT (gd u 1) fun C3 w=>aJ C3 false (fun J=>bin Q .geq 24 false true j (cu 1099511627776) (fun C6=>J [j,C6]) w) (fun k=>k [uu,uu] w) fun C=>pick C3 cT (gd C 1) fun C7 w=>cond C7 (K (cu 0) w) (conv Q 3 24 d (fun C9=>bin Q .shl 24 false true C9 (cu 40) fun D0=>bin Q .or 24 false false D0 j K) w)) w):Gives Q 161 #[d,j] w K:=by
 refine aH func161 (by kernel_rfl) ?_;exact mpK h
theorem Fg {K:KV}{A0 id1:Value}{w:World}(h:bin Q .eql 84 false true A0 (Value.pointer none) (fun A7 w=>cond A7 (K cF w) (bo A0 (fun C0=>ai Q 119 C0 0 fun C1=>ld Q 86 C1 fun C2=>lkp Q 86 C2 id1 true fun C4=>ext Q C4 0 fun _=>ext Q C4 1 K) w)) w):Gives Q 152 #[A0,id1] w K:=by
 refine aH func152 (by kernel_rfl) ?_;exact mpK h
theorem GB {K:KV}{A0 id1:Value}{w:World}(h:box Q 84 A0 (fun A2=>box Q 24 id1 fun d=>K (Value.func (Fn.func 192) #[] #[A2,d])) w):Gives Q 189 #[A0,id1] w K:=by
 refine aH func189 (by kernel_rfl) ?_;exact mpK h
def pp (Y:YB)(l_:Nat)(K:KV):KE:=pS Q Y l_ (cd f192 [0]) (rk f192 K) (xx xf (rk f192 K) 0) (rk f192 K)
theorem Eu {Y:YB}{j:Nat}{K:KV}{d A1 A2:Value}{w:World}(h:pp Y j K [d,A1,A2,uu,uu,uu,uu,uu,uu,uu,uu,uu,uu,uu,uu,uu,uu,uu] w):vS Q Y j 192 [d,A1,A2] w K:=by
 refine Oy (goK func192) func192 (by kernel_rfl) ?_;revert h;delta pp;exact mpF
theorem Cy {Y:YB}{M:Nat}{K:KV}{d A1 A2 j A3 A4 A5 A6 A7 A8 A9 C0 C1 C2 C3 C4 C5 C6:Value}{w:World}(U:vG Y)(Inv:vI 3)(μ:vM 3)(h0:Inv A7 A8 A9 w)(R:∀(u C I:Value) (V:Nat→Value) (w:World) (m:Nat),Inv u C I w→m=μ u C I w →
  ld Q 84 A1 (fun A3=>ld Q 24 A2 fun A4=>call Q 152 #[A3,A4] fun A5=>xG A5 true (fun k=>k d) fun A7=>xG A5 true (ld Q 24 A2) fun A8=>xG A5 true (Gz Q Y M A7 #[A8]) fun A9=>pick A5 A9 cF fun C0 w=>cond C0 (sL 84 A1 (fun C1=>sN C1 fun C2=>sF 119 C2 0 fun C3=>sL 86 C3 fun C4=>sL 24 A2 fun C5=>sti (lkp Q 86 C4 C5 false) fun C6=>sto Q 24 A2 C6 fun _ w=>(Inv A7 A8 A9 w)∧((μ A7 A8 A9 w)<m)) w.drew) (K (Value.tuple #[]) w)) w):pp Y M K [d,A1,A2,j,A3,A4,A5,A6,A7,A8,A9,C0,C1,C2,C3,C4,C5,C6] w:=by
 refine GA U (cd f192 [0,0]) (zr [(4,14)]) (by kernel_rfl) (fun e2 J=>Inv (gd e2 8) (gd e2 9) (gd e2 10) J) (fun e2 J=>μ (gd e2 8) (gd e2 9) (gd e2 10) J) h0 ?_;intro e' w' hI;have h:=R (gd e' 8) (gd e' 9) (gd e' 10) (fun i=>gd e' i) w' _ hI rfl;exact mpK h
attribute [irreducible] pp
def pq (K:KV)(D:Nat):KE:=ae Q (cd f177 [1,1]) (uo Q Tryz.f177.results.toList K D) xf (uo Q Tryz.f177.results.toList K D)
theorem Cz {K:KV}{D:Nat}{A0 id1 A2 d l4 j A5 A6 A7 A8 A9 C0 C1 C2 C3:Value}{w:World}(h:ld Q 76 l4 (fun C3=>sto Q 76 l4 C3 fun _ w=>(dM D w)∧(bM Q [(some 76,l4)] K (w.putObj D (Obj.deferred none)))) w):pq K D [A0,id1,A2,d,l4,j,A5,A6,A7,A8,A9,C0,C1,C2,C3] w:=by
 delta pq;exact mpK h
noncomputable def oJ :Func:={Tryz.f177 with body:=some (Um (cd f177 [1,0,1,0]))}
def xm (NB:KE)(XB:Nat→KE)(RB:KE):KE:=ae Q (cd oJ []) NB XB RB
theorem CA {NB RB:KE}{XB:Nat→KE}{A0 id1 A2 d l4 j A5 A6 A7 A8 A9 C0 C1 C2 C3:Value}{w:World}(h:NB [A0,id1,A2,d,l4,A8,A5,A6,A7,A8,A9,C0,C1,C2,C3] w):xm NB XB RB [A0,id1,A2,d,l4,j,A5,A6,A7,A8,A9,C0,C1,C2,C3] w:=by
 delta xm;exact mpK h
noncomputable def oK :Func:={Tryz.f177 with body:=some (Ul (cd f177 [1,0,1,0]))}
def xn (NB:KE)(XB:Nat→KE)(RB:KE):KE:=ae Q (cd oK []) NB XB RB
theorem CB {NB RB:KE}{XB:Nat→KE}{A0 id1 A2 d l4 j A5 A6 A7 A8 A9 C0 C1 C2 C3:Value}{w:World}(h:ld Q 76 l4 (fun A9=>dl Q 76 1 #[(0,j)] fun C1=>blt Q .append #[76,76] 76 #[false,false] #[A9,C1] fun C2=>sto Q 76 l4 C2 fun _=>NB [A0,id1,A2,d,l4,j,A5,A6,A7,A8,A9,j,C1,C2,C3]) w):xn NB XB RB [A0,id1,A2,d,l4,j,A5,A6,A7,A8,A9,C0,C1,C2,C3] w:=by
 delta xn;exact mpK h
theorem Ev {K:KV}{A0 id1:Value}{w:World}(h:alc Q 76 (fun l4=>call Q 189 #[A0,id1] fun A7=>rfS Q (cd f177 [1,0,1,0]) (pq K) (fun i D e w=>(i=0)∧(pq K D e w)) (uo Q Tryz.f177.results.toList K) [A0,id1,uu,uu,l4,uu,A0,id1,A7,uu,uu,uu,uu,uu,uu]) w):Gives Q 177 #[A0,id1] w K:=OD func177 (by kernel_rfl) (Eq.mp (by kernel_rfl) h)
def de (A0 id1 aI D5:Value)(zf:Nat→Value):List Value:=A0::id1::aI::zT zf 3 23 (D5::zT zf 27 17 ([]))
def fP (K:KV):KE:=ae Q (cd f164 [1,1]) (rk f164 K) xf (rk f164 K)
def jJ (K:KV):KE:=ae Q (cd f164 [1,0,0,1,1,1,1,1,1,1,1,1]) (fP K) (xx xf (fP K) 0) (rk f164 K)
def nV (K:KV):KE:=ae Q (cd f164 [1,0,0,1,1,1,1,1,1,1,1,0,1]) (jJ K) (xx xf (fP K) 0) (rk f164 K)
section
variable {K:KV}{A0 id1 aI D5:Value}{zf:Nat→Value}{w:World}
theorem GC {K:KV}(j:Code){A0 id1 aI:Value}{w:World}(h:bin Q .eql 84 false true A0 (Value.pointer none) (fun A8 w=>cond A8 (K (ci 2) w) (bin Q .eql 24 false true id1 (cu 0) (fun C1 w=>cond C1 (K (ci 1) w) (call Q 152 #[A0,id1] (fun C5 w=>cond C5 (K (ci 14) w) (bin Q .neq 24 false true aI (cu 0) (fun C8 w=>aJ C8 true (fun u=>call Q 152 #[A0,aI] (fun D2=>un Q .not D2 fun D3=>u [A0,aI,D2,D3]) w) (fun k=>k [uu,uu,uu,uu] w) fun d=>pick C8 (gd d 3) cF fun D4 w=>cond D4 (K (ci 9) w) (bo A0 (fun D6=>ai Q 119 D6 0 fun D7=>ld Q 86 D7 fun D8=>lN 86 D8 fun D9=>bin Q .geq 3 false true D9 (ci 32) fun E0=>ae Q j (ae Q (cd f164 [1,0,0,1,1,1,1,1,1,1,1,1]) (ae Q (cd f164 [1,1]) (rk f164 K) (fun _ _ _=>False) (rk f164 K)) (fun i=>@Bool.rec (fun _=>KE) ((fun _ _ _=>False) i) (ae Q (cd f164 [1,1]) (rk f164 K) (fun _ _ _=>False) (rk f164 K)) (Nat.beq i 0)) (rk f164 K)) (fun i=>@Bool.rec (fun _=>KE) ((fun _ _ _=>False) i) (ae Q (cd f164 [1,1]) (rk f164 K) (fun _ _ _=>False) (rk f164 K)) (Nat.beq i 0)) (rk f164 K) (de A0 id1 aI E0 (zV (zV zu 6 [ci 0,A8,A0,A8,C1,id1,C1,C5,A0,id1,C5,D4,aI,C8,C8,gd d 0,gd d 1,gd d 2,gd d 3,D4]) 27 [A0,D6,D7,D8,D9,E0]))) w)) w)) w)) w)) w):ae Q (rep [1,0,0,1,1,1,1,1,1,1,1,0,1] j (cd f164 [])) (rk f164 K) xf (rk f164 K) (de A0 id1 aI uu zu) w:=Eq.mp (by kernel_rfl) h
theorem Fh {K:KV}{A0 id1 aI:Value}{w:World}(h:bin Q .eql 84 false true A0 (Value.pointer none) (fun A8 w=>cond A8 (K (ci 2) w) (bin Q .eql 24 false true id1 (cu 0) (fun C1 w=>cond C1 (K (ci 1) w) (call Q 152 #[A0,id1] (fun C5 w=>cond C5 (K (ci 14) w) (bin Q .neq 24 false true aI (cu 0) (fun C8 w=>aJ C8 true (fun k21=>call Q 152 #[A0,aI] (fun D2=>un Q .not D2 fun D3=>k21 [A0,aI,D2,D3]) w) (fun k=>k [uu,uu,uu,uu] w) fun us21=>pick C8 (gd us21 3) cF fun D4 w=>cond D4 (K (ci 9) w) (bo A0 (fun D6=>ai Q 119 D6 0 fun D7=>ld Q 86 D7 fun D8=>lN 86 D8 fun D9=>bin Q .geq 3 false true D9 (ci 32) fun E0=>nV K (de A0 id1 aI E0 (zV (zV zu 6 [ci 0,A8,A0,A8,C1,id1,C1,C5,A0,id1,C5,D4,aI,C8,C8,gd us21 0,gd us21 1,gd us21 2,gd us21 3,D4]) 27 [A0,D6,D7,D8,D9,E0]))) w)) w)) w)) w)) w):Gives Q 164 #[A0,id1,aI] w K:=aH func164 (by kernel_rfl) (Eq.mp (congrArg (fun c=>ae Q c (rk f164 K) xf (rk f164 K) (de A0 id1 aI uu zu) w) (by kernel_rfl:(rep [1,0,0,1,1,1,1,1,1,1,1,0,1] (cd f164 [1,0,0,1,1,1,1,1,1,1,1,0,1]) (cd f164 []))=(cd f164 []))) (GC (cd f164 [1,0,0,1,1,1,1,1,1,1,1,0,1]) h))
theorem CU {K:KV}(d:KE)(j:KE){A0 id1 aI D5:Value}{zf:Nat→Value}{w:World}(h:cond D5 (d (de A0 id1 aI D5 zf) w) (call Q 177 #[A0,aI] (fun E1=>lN 76 E1 fun E2=>bin Q .geq 3 false true E2 (ci 4) fun E3=>d (de A0 id1 aI E3 (zV zf 33 [A0,aI,E1,E2,E3]))) w)):ae Q (cd f164 [1,0,0,1,1,1,1,1,1,1,1,0,1]) d (xx xf j 0) (rk f164 K) (de A0 id1 aI D5 zf) w:=Eq.mp (by kernel_rfl) h
theorem CV (h:cond D5 (jJ K (de A0 id1 aI D5 zf) w) (call Q 177 #[A0,aI] (fun E1=>lN 76 E1 fun E2=>bin Q .geq 3 false true E2 (ci 4) fun E3=>jJ K (de A0 id1 aI E3 (zV zf 33 [A0,aI,E1,E2,E3]))) w)):nV K (de A0 id1 aI D5 zf) w:=by
 delta nV
 exact Eq.mp (congrArg (fun c=>ae Q c (jJ K) (xx xf (fP K) 0) (rk f164 K) (de A0 id1 aI D5 zf) w) (by kernel_rfl:(cd f164 [1,0,0,1,1,1,1,1,1,1,1,0,1])=(cd f164 [1,0,0,1,1,1,1,1,1,1,1,0,1]))) (CU (jJ K) (fP K) h)
theorem CW {K:KV}(d:KE){A0 id1 aI D5:Value}{zf:Nat→Value}{w:World}(h:cond D5 (K (ci 6) w) (d (de A0 id1 aI D5 zf) w)):ae Q (cd f164 [1,0,0,1,1,1,1,1,1,1,1,1]) d (xx xf d 0) (rk f164 K) (de A0 id1 aI D5 zf) w:=Eq.mp (by kernel_rfl) h
theorem vT (h:cond D5 (K (ci 6) w) (fP K (de A0 id1 aI D5 zf) w)):jJ K (de A0 id1 aI D5 zf) w:=by
 delta jJ
 exact Eq.mp (congrArg (fun c=>ae Q c (fP K) (xx xf (fP K) 0) (rk f164 K) (de A0 id1 aI D5 zf) w) (by kernel_rfl:(cd f164 [1,0,0,1,1,1,1,1,1,1,1,1])=(cd f164 [1,0,0,1,1,1,1,1,1,1,1,1]))) (CW (fP K) h)
theorem CX {K:KV}{A0 id1 aI D5:Value}{zf:Nat→Value}{w:World}(h:bo A0 (fun E4=>ai Q 119 E4 0 fun E5=>ld Q 86 E5 fun E6=>eX Q 86 E6 id1 aI fun _=>K (ci 0)) w):ae Q (cd f164 [1,1]) (rk f164 K) xf (rk f164 K) (de A0 id1 aI D5 zf) w:=Eq.mp (by kernel_rfl) h
theorem CY (h:bo A0 (fun E4=>ai Q 119 E4 0 fun E5=>ld Q 86 E5 fun E6=>eX Q 86 E6 id1 aI fun _=>K (ci 0)) w):fP K (de A0 id1 aI D5 zf) w:=by
 delta fP
 exact Eq.mp (congrArg (fun c=>ae Q c (rk f164 K) xf (rk f164 K) (de A0 id1 aI D5 zf) w) (by kernel_rfl:(cd f164 [1,1])=(cd f164 [1,1]))) (CX h)
end
attribute [irreducible] fP jJ nV
def pu (is1 l4 C1:Value)(zf:Nat→Value):List Value:=zf 0::is1::zf 2::zf 3::l4::zT zf 5 7 (C1::zT zf 13 14 ([]))
def iP (K:KV):KE:=ae Q (cd f41 [1,1,1]) (rk f41 K) xf (rk f41 K)
def oL (K:KV):KE:=ae Q (cd f41 [1,1,0,1,0]) (iP K) (xx xf (iP K) 0) (rk f41 K)
section
variable {K:KV}{is1 l4 C1:Value}{zf:Nat→Value}{w:World}
theorem CZ {K:KV}{A0 is1:Value}{w:World}(h:bin Q .eql 84 false true A0 (Value.pointer none) (fun A6 w=>cond A6 (K cN w) (bo A0 (fun A8=>ai Q 119 A8 0 fun A9=>ld Q 86 A9 fun C0=>rng Q 86 C0 fun C1=>oL K (pu is1 cN C1 (zV (zV zu 0 [A0]) 6 [A0,A6,A0,A8,A9,C0]))) w)) w):Gives Q 41 #[A0,is1] w K:=by
 refine aH func41 (by kernel_rfl) ?_;revert h;delta oL iP;exact mpF
theorem Bu (Inv:Value→World→Prop)(μ:Value→World→Nat)(h0:Inv l4 w)(u:∀(d:Value) (C:Nat→Value) (w:World) (m:Nat),Inv d w→m=μ d w →
  nxt Q C1 false 0 (fun C2=>ext Q C2 0 fun C3 w=>cond C3 (ent Q C1 (fun C4=>ext Q C4 0 fun C5=>dC Q is1 #[C5] fun C8 w=>cond C8 (dl Q 76 1 #[(0,C5)] (fun D1=>blt Q .append #[76,76] 76 #[false,false] #[d,D1] fun D2 w=>(Inv D2 w)∧((μ D2 w)<m)) w) ((Inv d w)∧((μ d w)<m))) w) (iP K (pu is1 d C1 (zV C 13 [C2,C3])) w)) w):oL K (pu is1 l4 C1 zf) w:=by
 refine aQ (cd f41 [1,1,0,1,0,0]) (zr [(4,2),(13,11)]) (by kernel_rfl) (fun e2 j=>Inv (gd e2 4) j) (fun e2 j=>μ (gd e2 4) j) h0 ?_;intro e' w' hI;have h:=u (gd e' 4) (zM zf (fun i=>gd e' i) (zr [(4,2),(13,11)])) w' _ hI rfl;revert h;generalize (iP K)=qc0;exact mpF
theorem Bv (h:call Q 63 #[l4] (fun _=>K l4) w):iP K (pu is1 l4 C1 zf) w:=by
 delta iP;exact mpK h
end
attribute [irreducible] iP oL
theorem CC {K:KV}{A0:Value}{w:World}(h:K cT w):Gives Q 42 #[A0] w K:=by
 refine aH func42 (by kernel_rfl) ?_;exact mpK h
theorem Ew {K:KV}{A0:Value}{w:World}(h:call Q 41 #[A0,Value.func (Fn.func 42) #[] #[]] K w):Gives Q 25 #[A0] w K:=by
 refine aH func25 (by kernel_rfl) ?_;exact mpK h
end
end Go.Proofs.YtgpfkmdknlcemaaGreatDoor
