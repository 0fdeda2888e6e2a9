/- Laid together: Base Rules Mem Own ShIn ShY Q SRts Rts SRt2 EvR SMb SQry SIdx EvQ EvQ2. -/
import Derived.Test.YtgpfkmdknlcemaaGreatDoorSh
import Derived.WalkKit
import Derived.WalkSpells
import Derived.WalkLawsBesides
import Derived.KernelRfl
import Derived.Lib.Hide
import Derived.Lib.SlBytesConst
import Derived.Deep.MidRow
import Derived.Great.BuildSlice
import Derived.Maps.AppendAt
import Derived.OrdersIn
import Derived.TacticsIn
import Derived.RangeFuncIn
import Derived.RangeFuncRecord
import Derived.RangeFuncCalls
import Derived.RangeFuncOwn
import Derived.RangeFuncLeaves
import Derived.Test.YtgpfkmdknlcemaaGreatDoorChecked
import Derived.Test.YtgpfkmdknlcemaaGreatDoorQ1
namespace Go.Proofs.YtgpfkmdknlcemaaGreatDoor
set_option maxRecDepth 100000
open Go.RowKit
def gu (a:Option Addr) (i:Nat):Addr:=match a with | some ⟨b,o,_⟩=>⟨b,o+i,none⟩ | none=>default
theorem jG (b o i:Nat) (s:Option Nat):gu (some ⟨b,o,s⟩) i=⟨b,o+i,none⟩:=rfl
structure RV (w:World) (a:Option Addr) (n c:Nat) (xs:List Value):Prop where
 len:xs.length=n
 cap:n≤c
 some_:0 < n→∃ b o,a=some ⟨b,o,none⟩
 nil_:a=none→n=0∧c=0
 cell:∀ i v,xs[i]? = some v→w.cell? (gu a i)=some v
theorem RV.blk {w:World} {a:Option Addr} {n c:Nat} {xs:List Value} (h:RV w a n c xs) (i:Nat) (hi:i < n):(gu a i).block < w.heap.size:=by
 have hl:i < xs.length:=by rw [h.len]; exact hi
 exact World.block_lt_of_cell? w _ (h.cell i xs[i] (List.getElem?_eq_getElem hl))
theorem RV.below {w w':World} {B:Nat} {a:Option Addr} {n c:Nat} {xs:List Value} (h:RV w a n c xs) (hb:Below B w w') (hB:w.heap.size≤B):RV w' a n c xs :=
 ⟨h.len,h.cap,h.some_,h.nil_,fun i v hv=>by
  have hlt:=World.block_lt_of_cell? w _ (h.cell i v hv)
  rw [hb.cell (p:=gu a i) (Nat.lt_of_lt_of_le hlt hB)]; exact h.cell i v hv⟩
theorem RV.grown {w w':World} {row:Option Nat} {a:Option Addr} {n c:Nat} {xs:List Value} (h:RV w a n c xs) (hg:w.grownBy w' row) (hne:∀ i,i < n→row≠some (gu a i).block):RV w' a n c xs :=
 ⟨h.len,h.cap,h.some_,h.nil_,fun i v hv=>by
  have hl:i < n:=by rw [← h.len]; exact (List.getElem?_eq_some_iff.1 hv).1
  exact hg.cell (h.cell i v hv) (fun e=>hne i hl e.symm)⟩
theorem RV.nil (w:World):RV w none 0 0 []:=⟨rfl,Nat.le_refl _,fun h=>absurd h (by omega),fun _=>⟨rfl,rfl⟩,fun i v h=>by simp at h⟩
theorem RV.cut {w:World} {a:Option Addr} {n c:Nat} {xs:List Value} (h:RV w a n c xs) (l k m:Nat) (hlk:l≤k) (hkm:k≤m) (hkn:k≤n) (hm:m≤c) :
  RV w (if m=l then a else a.map (·.add (l * 1))) (k - l) (m - l) ((xs.take k).drop l):=by
 refine ⟨by simp [h.len]; omega,by omega, ?_, ?_, ?_⟩
 ·intro hp
  obtain ⟨b,o,rfl⟩:=h.some_ (by omega)
  by_cases hml:m=l
  ·omega
  ·rw [if_neg hml]
   exact ⟨b,o+l,by simp [Addr.add]⟩
 ·intro hn
  by_cases hml:m=l
  ·omega
  ·rw [if_neg hml] at hn
   cases a with
   | none=>have:=h.nil_ rfl; omega
   | some ad=>simp at hn
 ·intro i v hv
  have hi:i < k - l:=by
   have:=(List.getElem?_eq_some_iff.1 hv).1
   simp [h.len] at this
   omega
  obtain ⟨b,o,rfl⟩:=h.some_ (by omega)
  rw [if_neg (by omega)]
  have he:((⟨b,o,none⟩:Addr).add (l * 1))=⟨b,o+l,none⟩:=by unfold Addr.add; split <;> simp_all
  simp only [Option.map_some,he,jG]
  have:=h.cell (l+i) v (by rw [← hv,List.getElem?_drop,List.getElem?_take]; rw [if_pos (by omega)])
  rw [jG] at this
  rw [Nat.add_assoc]; exact this
def u8v (c:UInt8):Value:=.int .u8 (c.toNat:Int)
def RB (w:World) (a:Option Addr) (n c:Nat) (l:List UInt8):Prop:=RV w a n c (l.map u8v)
theorem RB.rv {w:World} {a:Option Addr} {n c:Nat} {l:List UInt8} (h:RB w a n c l):RV w a n c (l.map u8v):=h
theorem RB.len {w:World} {a:Option Addr} {n c:Nat} {l:List UInt8} (h:RB w a n c l):l.length=n:=by simpa using RV.len h
theorem RB.below {w w':World} {B:Nat} {a:Option Addr} {n c:Nat} {l:List UInt8} (h:RB w a n c l) (hb:Below B w w') (hB:w.heap.size≤B):RB w' a n c l:=RV.below h hb hB
theorem RB.cut {w:World} {a:Option Addr} {n c:Nat} {xs:List UInt8} (h:RB w a n c xs) (l k m:Nat) (hlk:l≤k) (hkm:k≤m) (hkn:k≤n) (hm:m≤c) :
  RB w (if m=l then a else a.map (·.add (l * 1))) (k - l) (m - l) ((xs.take k).drop l):=by
 have:=RV.cut h l k m hlk hkm hkn hm
 simpa [RB,List.map_drop,List.map_take] using this
theorem RB.cell {w:World} {a:Option Addr} {n c:Nat} {l:List UInt8} (h:RB w a n c l) (i:Nat) (hi:i < l.length):w.cell? (gu a i)=some (.int .u8 (l[i].toNat:Int)) :=
 RV.cell h i _ (by simp [List.getElem?_eq_getElem hi,u8v])
def OV (w:World) (B:Nat) (E:TypeId) (a:Option Addr) (n c:Nat) (xs:List Value):Prop:=w.ownsRow B E 1 (.slice a n c) n xs
theorem OV.rv {w:World} {B:Nat} {E:TypeId} {a:Option Addr} {n c:Nat} {xs:List Value} (h:OV w B E a n c xs):RV w a n c xs:=by
 have hl:xs.length=n:=by simpa using h.1
 rcases h.2 with ⟨hv,hn⟩ | ⟨g,cap,cur,hv,hB,hh,hnc,hm,hs,ht⟩
 ·simp only [Value.slice.injEq] at hv
  obtain ⟨rfl,_,rfl⟩:=hv
  subst hn
  have:xs=[]:=List.eq_nil_of_length_eq_zero hl
  subst this
  exact RV.nil w
 ·simp only [Value.slice.injEq] at hv
  obtain ⟨rfl,_,rfl⟩:=hv
  refine ⟨hl,hnc,fun _=>⟨g,0,rfl⟩,fun e=>by simp at e,fun i v hi => ?_⟩
  have hlt:i < xs.length:=(List.getElem?_eq_some_iff.1 hi).1
  rw [jG,Nat.zero_add,cell_of_row w g i cur E (0,0) hh]
  rw [← ht] at hi
  rw [List.getElem?_take] at hi
  split at hi
  ·simpa using hi
  ·cases hi
theorem OV.block {w:World} {B:Nat} {E:TypeId} {a:Option Addr} {n c:Nat} {xs:List Value} (h:OV w B E a n c xs):∀ k,(Value.slice a n c).ownBlock=some k→B≤k∧k < w.heap.size:=World.ownsRow.lt h
theorem OV.nil (w:World) (B:Nat) (E:TypeId):OV w B E none 0 0 []:=World.ownsRow_nil w B E 1
theorem OV.mono {w:World} {B B':Nat} {E:TypeId} {a:Option Addr} {n c:Nat} {xs:List Value} (h:OV w B E a n c xs) (hB:B'≤B):OV w B' E a n c xs:=by
 refine ⟨h.1, ?_⟩
 rcases h.2 with h2 | ⟨g,cap,cur,hv,hb,r⟩
 ·exact .inl h2
 ·exact .inr ⟨g,cap,cur,hv,Nat.le_trans hB hb,r⟩
theorem OV.below {w w':World} {B D:Nat} {E:TypeId} {a:Option Addr} {n c:Nat} {xs:List Value} (h:OV w B E a n c xs) (hb:Below D w w') (hD:w.heap.size≤D):OV w' B E a n c xs:=by
 refine ⟨h.1, ?_⟩
 rcases h.2 with h2 | ⟨g,cap,cur,hv,hB,hh,r⟩
 ·exact .inl h2
 ·have hlt:g < w.heap.size:=(Array.getElem?_eq_some_iff.1 hh).1
  exact .inr ⟨g,cap,cur,hv,hB,(hb.block g (by omega)).trans hh,r⟩
theorem ce {w w':World} {B:Nat} {row:Option Nat} (hg:w.grownBy w' row) (hB:B≤w.heap.size) (hr:∀ k,row=some k→B≤k):Below B w w' :=
 (Below.refl B w).grown hg hB hr
section
variable {P:Program} (w:World)
variable {ops:Array Oper} {rest:List Oper} {a:Act} {Q:Exit→Act→World→Prop} {dst:Option Tmp} {ty:TypeId} {pos:String} {after:Array Edge}
end
theorem jb (l:List UInt8):(kZ l).toList=l:=by
 simp [kZ]
@[go_sem ↓] theorem binOp_bstr_eql (t:TypeId) (l m:List UInt8):binOp .eql t (.string (kZ l)) (.string (kZ m))=pure (.bool (l == m)):=by
 rw [binOp_string_eql,jb,jb]
@[go_sem ↓] theorem binOp_bstr_neq (t:TypeId) (l m:List UInt8):binOp .neq t (.string (kZ l)) (.string (kZ m))=pure (.bool (!(l == m))):=by
 rw [binOp_string_neq,jb,jb]
@[go_sem ↓] theorem binOp_bstr_lss (t:TypeId) (l m:List UInt8):binOp .lss t (.string (kZ l)) (.string (kZ m))=pure (.bool (Op.bytesLess l m)):=by
 rw [binOp_string_lss,jb,jb]
section
variable {P:Program} (w:World)
variable {ops:Array Oper} {rest:List Oper} {a:Act} {Q:Exit→Act→World→Prop} {dst:Option Tmp} {ty:TypeId} {pos:String} {after:Array Edge}
theorem zw (l:List UInt8):strOfNums (l.map fun c=>(c.toNat:Int))=kZ l:=by
 simp only [strOfNums,kZ,List.map_map]
 congr 1
 have:((fun n:Int=>UInt8.ofNat n.toNat) ∘ fun c:UInt8=>(c.toNat:Int))=id:=by
  funext c; simp
 rw [this]; simp
theorem yC (src e dst:TypeId) (hs:P.underlying src=some (.slice e)) (he:P.underlying e=some (.int .u8)) (hd:P.underlying dst=some .string) {av:Option Addr} {n c:Nat} {l:List UInt8} (h:RB w av n c l) :
  (convert src dst (.slice av n c)).run P w=.ok (.string (kZ l)) w:=by
 cases av with
 | none =>
  obtain ⟨rfl,rfl⟩:=RV.nil_ h rfl
  have:l=[]:=List.eq_nil_of_length_eq_zero h.len
  subst this
  rw [run_convert_bytes_nil (P:=P) w src e hs he 0 0 dst hd]
  rfl
 | some ad =>
  rw [run_convert_bytes_string w src dst e _ n c hs he hd]
  by_cases h0:n=0
  ·subst h0
   have:l=[]:=List.eq_nil_of_length_eq_zero h.len
   subst this
   have hl:(loadCells ad 0).run P w=.ok (([]:List Int).map (Value.int .u8)).toArray w:=by simp [loadCells,loadCellsFrom]
   rw [run_bytesToString w _ 0 c [] hl]
   rfl
  ·obtain ⟨b,o,hbo⟩:=RV.some_ h (by omega)
   cases hbo
   rw [← run_convert_bytes_string w src dst e _ n c hs he hd]
   rw [run_convert_bytes_arg w src e hs he b o n c (l.map fun c=>(c.toNat:Int)) (by simpa using h.len) ?_ dst hd]
   ·rw [zw]
   ·intro i hi
    have hl:i < l.length:=by rw [h.len]; exact hi
    have:=h.cell i hl
    rw [jG] at this
    rw [this]
    simp [List.getD,hl]
end
end Go.Proofs.YtgpfkmdknlcemaaGreatDoor
namespace Go.Proofs.YtgpfkmdknlcemaaGreatDoor
set_option maxRecDepth 100000
open Go.RowKit
theorem f5 {n:Int} (h1 : -9223372036854775808≤n) (h2:n≤9223372036854775807):IntKind.i64.wrap n=n:=IntWalk.i64_in n ⟨h1,h2⟩
theorem kU (n:Int):IntKind.u64.wrap n=n % 18446744073709551616:=by simp [IntKind.wrap,IntKind.signed,IntKind.bits]
section
variable {P:Program} {K:KV} {w:World} {t:TypeId} {cx cy:Bool}
theorem gM {op:BinOp} {x y v:Value} (hg:(eqG op t cx cy x y).run P w=.ok () w) (hb:(binOp op t x y).run P w=.ok v w) (h:K v w):bin P op t cx cy x y K w:=by
 unfold bin
 refine bF (w':=w) (v:=v) ?_ h
 simp only [Sem.run_bind,hg,Result.andThen_ok,hb]
theorem gY (op:BinOp) (k k':IntKind) (a b:Int):(eqG op t cx cy (.int k a) (.int k' b)).run P w=.ok () w:=by
 unfold eqG eqGuard; cases op <;> simp [Sem.run_pure]
variable {k:IntKind} {a b:Int}
theorem aN (h:K (.bool (decide (a=b))) w):bin P .eql t cx cy (.int k a) (.int k b) K w:=by
 refine gM (gY ..) ?_ h
 have:(a == b)=decide (a=b):=by by_cases hh:a=b <;> simp [hh]
 simp [binOp,Op.intCmp,Sem.run_pure,this]
theorem dn (h:K (.bool (decide (a≠b))) w):bin P .neq t cx cy (.int k a) (.int k b) K w:=by
 refine gM (gY ..) ?_ h
 have:(a != b)=decide (a≠b):=by by_cases hh:a=b <;> simp [hh]
 simp only [binOp,Op.intCmp,ne_eq,not_true_eq_false,if_false,Sem.run_pure,this]
theorem aD (h:K (.bool (decide (a < b))) w):bin P .lss t cx cy (.int k a) (.int k b) K w:=by
 refine gM (gY ..) ?_ h
 simp [binOp,Op.intCmp,Sem.run_pure]
theorem fB (h:K (.bool (decide (a≤b))) w):bin P .leq t cx cy (.int k a) (.int k b) K w:=by
 refine gM (gY ..) ?_ h
 simp [binOp,Op.intCmp,Sem.run_pure]
theorem cD (h:K (.bool (decide (b < a))) w):bin P .gtr t cx cy (.int k a) (.int k b) K w:=by
 refine gM (gY ..) ?_ h
 simp [binOp,Op.intCmp,Sem.run_pure]
theorem dI (h:K (.bool (decide (b≤a))) w):bin P .geq t cx cy (.int k a) (.int k b) K w:=by
 refine gM (gY ..) ?_ h
 simp [binOp,Op.intCmp,Sem.run_pure]
theorem fC (h:K (.int k (k.wrap (a+b))) w):bin P .add t cx cy (.int k a) (.int k b) K w:=by
 refine gM (gY ..) ?_ h
 simp [binOp,Op.intArith,Sem.run_pure]
theorem pg (h:K (.int k (k.wrap (a - b))) w):bin P .sub t cx cy (.int k a) (.int k b) K w:=by
 refine gM (gY ..) ?_ h
 simp [binOp,Op.intArith,Sem.run_pure]
theorem aF (h1 : -9223372036854775808≤a+b) (h2:a+b≤9223372036854775807) (h:K (.int .i64 (a+b)) w):bin P .add t cx cy (.int .i64 a) (.int .i64 b) K w :=
 fC (by rw [f5 h1 h2]; exact h)
theorem bo (h1 : -9223372036854775808≤a - b) (h2:a - b≤9223372036854775807) (h:K (.int .i64 (a - b)) w):bin P .sub t cx cy (.int .i64 a) (.int .i64 b) K w :=
 pg (by rw [f5 h1 h2]; exact h)
theorem kV (hb:b≠0) (h:K (.int k (a.tmod b)) w):bin P .rem t cx cy (.int k a) (.int k b) K w:=by
 refine gM (gY ..) ?_ h
 simp [binOp,Op.intDiv,Sem.run_pure,hb]
theorem Bl (hb:b≠0) (h:K (.int k (k.wrap (a.tdiv b))) w):bin P .quo t cx cy (.int k a) (.int k b) K w:=by
 refine gM (gY ..) ?_ h
 simp [binOp,Op.intDiv,Sem.run_pure,hb]
theorem ma (ha:0≤a) (hb:0 < b) (h:K (.int k (a % b)) w):bin P .rem t cx cy (.int k a) (.int k b) K w :=
 kV (by omega) (by rw [Int.tmod_eq_emod_of_nonneg ha]; exact h)
theorem Hk {k':IntKind} (hb:0≤b) (h:K (.int k (k.wrap (a * 2 ^ (min b.toNat k.bits)))) w):bin P .shl t cx cy (.int k a) (.int k' b) K w:=by
 refine gM (gY ..) ?_ h
 have : ¬ b < 0:=by omega
 simp [binOp,Op.shift,Sem.run_pure,this]
theorem Hl {k':IntKind} (hb:0≤b) (h:K (.int k (a.fdiv (2 ^ (min b.toNat k.bits)))) w):bin P .shr t cx cy (.int k a) (.int k' b) K w:=by
 refine gM (gY ..) ?_ h
 have : ¬ b < 0:=by omega
 simp [binOp,Op.shift,Sem.run_pure,this]
theorem cU {x:Bool} (h:K (.bool (!x)) w):un P .not (.bool x) K w:=by
 unfold un; exact bF (by simp [Op.unary,Sem.run_pure]) h
theorem Hm {p:Prop} [Decidable p] (h:K (.bool (decide (¬ p))) w):un P .not (.bool (decide p)) K w :=
 cU (by rw [← decide_not]; exact h)
theorem dy {s d:TypeId} {k':IntKind} {ts:TypeDesc} (hs:P.underlying s=some ts) (hd:P.underlying d=some (.int k')) (h:K (.int k' (k'.wrap a)) w):conv P s d (.int k a) K w:=by
 unfold conv
 refine bF (w':=w) ?_ h
 cases ts <;> simp [convert,run_underlying hs,run_underlying hd,Conv.intToInt,Sem.run_pure]
theorem Fj {s d e:TypeId} (hs:P.underlying s=some (.slice e)) (he:P.underlying e=some (.int .u8)) (hd:P.underlying d=some .string) {av:Option Addr} {n c:Nat} {l:List UInt8} (hr:RB w av n c l)
  (h:K (.string (kZ l)) w):conv P s d (.slice av n c) K w:=by
 unfold conv
 exact bF (yC w s e d hs he hd hr) h
theorem nJ {vs:Array Value} {i:Nat} {v:Value} (hv:vs[i]? = some v) (h:K v w):ext P (.tuple vs) i K w:=by
 unfold ext
 exact bF (by simp [Instr.extract,hv,Sem.run_pure]) h
theorem fy {a b:Value} (h:K a w):ext P (.tuple #[a,b]) 0 K w:=nJ rfl h
theorem fz {a b:Value} (h:K b w):ext P (.tuple #[a,b]) 1 K w:=nJ rfl h
theorem vz {a b c d:Value} (h:K a w):ext P (.tuple #[a,b,c,d]) 0 K w:=nJ rfl h
theorem vA {a b c d:Value} (h:K b w):ext P (.tuple #[a,b,c,d]) 1 K w:=nJ rfl h
theorem vB {a b c d:Value} (h:K c w):ext P (.tuple #[a,b,c,d]) 2 K w:=nJ rfl h
theorem vC {a b c d:Value} (h:K d w):ext P (.tuple #[a,b,c,d]) 3 K w:=nJ rfl h
theorem bp {x y:Value} {p:Prop} [Decidable p] (hp:p) (h:K x w):pick (.bool (decide p)) x y K w:=⟨_,rfl,by simp [hp,h]⟩
theorem bt {x y:Value} {p:Prop} [Decidable p] (hp : ¬ p) (h:K y w):pick (.bool (decide p)) x y K w:=⟨_,rfl,by simp [hp,h]⟩
theorem bI {x y:Value} (h:K x w):pick (.bool true) x y K w:=⟨_,rfl,h⟩
theorem fe {x y:Value} (h:K y w):pick (.bool false) x y K w:=⟨_,rfl,h⟩
theorem ai {p:Prop} [Decidable p] {A B:Prop} (hp:p) (h:A):cond (.bool (decide p)) A B:=⟨_,rfl,fun _=>h,fun hh=>absurd hp (by simpa using hh)⟩
theorem ag {p:Prop} [Decidable p] {A B:Prop} (hp : ¬ p) (h:B):cond (.bool (decide p)) A B:=⟨_,rfl,fun hh=>absurd (by simpa using hh) hp,fun _=>h⟩
theorem aR {A B:Prop} (h:A):cond (.bool true) A B:=⟨_,rfl,fun _=>h,(fun hh=>by cases hh)⟩
theorem cW {A B:Prop} (h:B):cond (.bool false) A B:=⟨_,rfl,(fun hh=>by cases hh),fun _=>h⟩
theorem kw {c:Bool} {A B:Prop} (h1:c=true→A) (h2:c=false→B):cond (.bool c) A B:=⟨c,rfl,h1,h2⟩
theorem a8 {s:KV→World→Prop} {k:KV} {v:Value} (h:∀ K:KV,K v w→s K w) (hk:k v w):sti s k w:=⟨v,h _ ⟨rfl,rfl⟩,hk⟩
variable {A B:(List Value→World→Prop)→Prop} {KL:List Value→World→Prop}
theorem vD {v:Value} {want:Bool} (hv:v=.bool want) (h:A KL):au v want A B KL:=⟨fun _=>h,fun hh=>absurd (by rw [hv]; rfl) hh⟩
theorem rW {v:Value} {want:Bool} (hv:asB v≠some want) (h:B KL):au v want A B KL:=⟨fun hh=>absurd hh hv,fun _=>h⟩
theorem dz {p:Prop} [Decidable p] (hp:p) (h1:A KL):au (.bool (decide p)) true A B KL:=vD (by simp [hp]) h1
theorem eK {p:Prop} [Decidable p] (hp : ¬ p) (h1:B KL):au (.bool (decide p)) true A B KL:=rW (by simp [asB,hp]) h1
theorem de {p:Prop} [Decidable p] (hp:p) (h1:B KL):au (.bool (decide p)) false A B KL:=rW (by simp [asB,hp]) h1
theorem cE {p:Prop} [Decidable p] (hp : ¬ p) (h1:A KL):au (.bool (decide p)) false A B KL:=vD (by simp [hp]) h1
theorem jo (h1:A KL):au (.bool true) true A B KL:=vD rfl h1
theorem d8 (h1:B KL):au (.bool true) false A B KL:=rW (by simp [asB]) h1
theorem jH (h1:A KL):au (.bool false) false A B KL:=vD rfl h1
theorem vE {want:Bool} (h1:B KL):au undef want A B KL:=rW (fun h=>by cases h) h1
theorem kx (h1:B KL):au (.bool false) true A B KL:=rW (by simp [asB]) h1
theorem aE {f:FuncId} {args:Array Value} (hg:bD P f) (h:Gives P f args w K):call P f args K w:=⟨hg,h⟩
theorem gN {bi:Builtin} {ats:Array TypeId} {ty:TypeId} {cs:Array Bool} {args:Array Value} {v:Value} {w':World} (hr:(builtin bi ats ty cs args).run P w=.ok (.value v) w') (h:K v w'):blt P bi ats ty cs args K w:=by
 unfold blt; rw [hr]; exact h
theorem aI {e ty:TypeId} {cs:Array Bool} {av:Option Addr} {n c:Nat} (ht:P.underlying t=some (.slice e)) (h:K (.int .i64 (n:Int)) w):blt P .len #[t] ty cs #[.slice av n c] K w :=
 gN (by rw [BigFrame.builtin_len]; simp [Builtin.len_,run_underlying ht,Sem.run_pure,goInt]) h
theorem fD {e:TypeId} (ht:P.underlying t=some (.slice e)) (hs:∀ w,(sizeOf e).run P w=.ok 1 w) {av:Option Addr} {n c:Nat} {iv:Int}
  (h0:0≤iv) (h1:iv < n) (hsome:0 < n→∃ b o,av=some ⟨b,o,none⟩) (h:K (.pointer (some (gu av iv.toNat))) w):af P t (.slice av n c) (.int k iv) K w:=by
 obtain ⟨b,o,rfl⟩:=hsome (by omega)
 have he:((⟨b,o,none⟩:Addr).add iv.toNat)=⟨b,o+iv.toNat,none⟩:=by unfold Addr.add; split <;> simp_all
 unfold af
 refine bF (w':=w) ?_ h
 simp only [Instr.indexAt,asIntOf,Sem.run_bind,Sem.run_pure,Result.andThen_ok,run_underlying ht,hs,h0,h1,and_self,if_true,Nat.mul_one,he]
 rfl
theorem pW {ad:Addr} {v:Value} (hr:(loadVar t ad).run P w=.ok v w) (h:K v w):ld P t (.pointer (some ad)) K w:=by
 unfold ld
 exact bF (by simp only [Instr.loadAt,Instr.sureAddr,Sem.run_bind,Sem.run_pure,Result.andThen_ok,hr]) h
theorem dp {ad:Addr} {v:Value} (ha:∀ w,(isAgg t).run P w=.ok false w) (hc:w.cell? ad=some v) (h:K v w):ld P t (.pointer (some ad)) K w:=by
 refine pW ?_ h
 simp [loadVar,Sem.run_bind,ha,load,hc,Sem.run]
theorem Fk {ad:Addr} {v u:Value} (hs:∀ w,(sizeOf t).run P w=.ok 1 w) (hv:v.oneCell'=true) (hv2:v.cells=#[v]) (hc:w.cell? ad=some u) (hf:w.frozen? ad=false) (hsp:ad.spot=none)
  (h:K undef (w.setCell ad v)):sto P t (.pointer (some ad)) v K w:=by
 unfold sto
 have e0:ad.add 0=ad:=rfl
 refine vR (w':=w.setCell ad v) (u:=()) ?_ h
 simp [Instr.storeAt,Instr.sureAddr,storeVar,Sem.run_bind,hs,hv2,storeCells,store,e0,hc,hf]
 cases v <;> simp_all [Value.oneCell',Sem.run]
end
end Go.Proofs.YtgpfkmdknlcemaaGreatDoor
namespace Go.Proofs.YtgpfkmdknlcemaaGreatDoor
set_option maxRecDepth 100000
open Go.RowKit
def blk (w:World) (b:Nat) (E:TypeId) (cs:List Value):Prop:=w.heap[b]? = some (.cells cs.toArray E (0,0))
theorem blk.lt {w:World} {b:Nat} {E:TypeId} {cs:List Value} (h:blk w b E cs):b < w.heap.size:=(Array.getElem?_eq_some_iff.1 h).1
theorem blk.ne {w:World} {b b':Nat} {E E':TypeId} {cs cs':List Value} (h:blk w b E cs) (h':blk w b' E' cs') (hE:E≠E'):b≠b':=by
 rintro rfl
 unfold blk at *
 rw [h] at h'
 simp only [Option.some.injEq,Obj.cells.injEq] at h'
 exact hE h'.2.1
theorem blk.cell {w:World} {b:Nat} {E:TypeId} {cs:List Value} (h:blk w b E cs) (o:Nat):w.cell? ⟨b,o,none⟩=cs[o]? := by
 unfold World.cell?
 rw [h]; simp
theorem blk.frozen {w:World} {b:Nat} {E:TypeId} {cs:List Value} (h:blk w b E cs) (o:Nat):w.frozen? ⟨b,o,none⟩=false:=by
 unfold World.frozen?
 rw [h]; simp
structure Keep (T:List TypeId) (B:Nat) (w w':World):Prop where
 os:w'.os=w.os
 tape:w'.tape=w.tape
 output:w'.output=w.output
 size:w.heap.size≤w'.heap.size
 block:∀ (k:Nat) (o:Obj),w.heap[k]? = some o→(k < B∨∀ cs E z,o=.cells cs E z→E ∉ T)→w'.heap[k]? = some o
theorem Keep.refl (T:List TypeId) (B:Nat) (w:World):Keep T B w w:=⟨rfl,rfl,rfl,Nat.le_refl _,fun _ _ h _=>h⟩
theorem Keep.trans {T:List TypeId} {B:Nat} {a b c:World} (h:Keep T B a b) (k:Keep T B b c):Keep T B a c :=
 ⟨k.os.trans h.os,k.tape.trans h.tape,k.output.trans h.output,Nat.le_trans h.size k.size,fun i o ho hk=>k.block i o (h.block i o ho hk) hk⟩
theorem Keep.mono {T T':List TypeId} {B B':Nat} {w w':World} (h:Keep T B w w') (hT:∀ t ∈ T,t ∈ T') (hB:B'≤B):Keep T' B' w w' :=
 ⟨h.os,h.tape,h.output,h.size,fun k o ho hk=>h.block k o ho (hk.elim (fun h => .inl (Nat.lt_of_lt_of_le h hB)) (fun h => .inr fun cs E z e hm=>h cs E z e (hT E hm)))⟩
theorem Keep.of {T:List TypeId} {B:Nat} {w w':World} (h:Below w.heap.size w w'):Keep T B w w' :=
 ⟨h.os,h.tape,h.output,h.size,fun k o ho _=>by rw [h.block k (Array.getElem?_eq_some_iff.1 ho).1]; exact ho⟩
theorem Keep.below {T:List TypeId} {B:Nat} {w w':World} (h:Keep T B w w') (hB:B≤w.heap.size):Below B w w' :=
 ⟨h.os,h.tape,h.output,h.size,fun k hk=>by
  have hk':k < w.heap.size:=by omega
  rw [h.block k _ (Array.getElem?_eq_getElem hk') (.inl hk),Array.getElem?_eq_getElem hk']⟩
theorem Keep.drew {T:List TypeId} {B:Nat} {a w:World} (h:Keep T B a w):Keep T B a w.drew:=⟨h.os,h.tape,h.output,h.size,h.block⟩
theorem Keep.undrew {T:List TypeId} {B:Nat} {a w:World} (h:Keep T B a.drew w):Keep T B a w:=⟨h.os,h.tape,h.output,h.size,h.block⟩
theorem Keep.blk {T:List TypeId} {B:Nat} {w w':World} {b:Nat} {E:TypeId} {cs:List Value} (h:Keep T B w w') (hb:blk w b E cs) (hE:b < B∨E ∉ T):blk w' b E cs :=
 h.block _ _ hb (hE.imp id fun h cs E z e=>by cases e; exact h)
theorem ae {B:Nat} {w w':World} {b:Nat} {E:TypeId} {cs:List Value} (h:Below B w w') (hb:blk w b E cs) (hB:b < B):blk w' b E cs:=by
 unfold Go.Proofs.YtgpfkmdknlcemaaGreatDoor.blk; rw [h.block b hB]; exact hb
theorem blk.drew {w:World} {b:Nat} {E:TypeId} {cs:List Value} (h:blk w b E cs):blk w.drew b E cs:=h
structure Oth (b:Nat) (w w':World):Prop where
 os:w'.os=w.os
 tape:w'.tape=w.tape
 output:w'.output=w.output
 size:w'.heap.size=w.heap.size
 other:∀ k,k≠b→w'.heap[k]? = w.heap[k]?
theorem Oth.blk {b k:Nat} {w w':World} {E:TypeId} {cs:List Value} (h:Oth b w w') (hb:blk w k E cs) (hk:k≠b):blk w' k E cs:=by
 unfold Go.Proofs.YtgpfkmdknlcemaaGreatDoor.blk; rw [h.other k hk]; exact hb
theorem Oth.keep {T:List TypeId} {B b:Nat} {w w':World} {E:TypeId} {cs:List Value} (h:Oth b w w') (hb:Go.Proofs.YtgpfkmdknlcemaaGreatDoor.blk w b E cs) (hE:E ∈ T) (hB:B≤b):Keep T B w w' :=
 ⟨h.os,h.tape,h.output,by rw [h.size]; exact Nat.le_refl _,fun k o ho hk=>by
  have:k≠b:=by
   rintro rfl
   rcases hk with hk | hk
   ·omega
   ·unfold Go.Proofs.YtgpfkmdknlcemaaGreatDoor.blk at hb
    rw [hb] at ho
    cases ho
    exact hk _ _ _ rfl hE
  rw [h.other k this]; exact ho⟩
theorem Oth.below {b:Nat} {w w':World} (h:Oth b w w'):Below b w w' :=
 ⟨h.os,h.tape,h.output,by rw [h.size]; exact Nat.le_refl _,fun k hk=>h.other k (by omega)⟩
theorem Keep.grown {T:List TypeId} {B B2:Nat} {w w':World} {E:TypeId} {a:Option Addr} {n c:Nat} {xs:List Value} {s:Nat} (hg:w.grownBy w' (Value.slice a n c).ownBlock) (ho:w.ownsRow B2 E s (.slice a n c) n xs) (hE:E ∈ T) (hB:B≤B2):Keep T B w w' :=
 ⟨hg.os,hg.tape,hg.output,hg.size,fun k o hk h=>by
  have hlt:k < w.heap.size:=(Array.getElem?_eq_some_iff.1 hk).1
  rw [hg.block k hlt ?_]; exact hk
  rcases ho.2 with ⟨hv,_⟩ | ⟨g,cap,cur,hv,hb,hh,_⟩
  ·cases hv; simp [Value.ownBlock]
  ·cases hv
   simp only [Value.ownBlock,ne_eq,Option.some.injEq]
   rintro rfl
   rcases h with h | h
   ·omega
   ·rw [hh] at hk; cases hk; exact h _ _ _ rfl hE⟩
section
variable {P:Program} {K:KV} {w:World} {t:TypeId} {b o:Nat} {E:TypeId} {cs:List Value}
theorem jI (b o j:Nat):(⟨b,o,none⟩:Addr).add j=⟨b,o+j,none⟩:=Addr.add_mid b o j
theorem ak {a:Addr} (h:K (.pointer (some a)) w):aj (.pointer (some a)) K w:=h
theorem ld1 {v:Value} (ha:∀ w,(isAgg t).run P w=.ok false w) (hb:blk w b E cs) (ho:cs[o]? = some v) (h:K v w):ld P t (.pointer (some ⟨b,o,none⟩)) K w :=
 dp ha (by rw [hb.cell,ho]) h
theorem ldA {n:Nat} {vs:List Value} {d:TypeDesc} (hu:P.underlying t=some d) (hd:d.isRow=true) (hi:(P.info? t).map (·.size)=some n) (hb:blk w b E cs) (hv:(cs.drop o).take n=vs) (hn:vs.length=n)
  (h:K (.agg vs.toArray) w):ld P t (.pointer (some ⟨b,o,none⟩)) K w:=by
 refine pW (run_loadVar_mid w b o t vs d ?_ hu hd (by rw [hn]; exact hi)) h
 intro j v hj
 rw [hb.cell]
 subst hv
 have hlt:=(List.getElem?_eq_some_iff.1 hj).1
 rw [List.getElem?_take] at hj
 split at hj
 ·rw [List.getElem?_drop] at hj; exact hj
 ·cases hj
theorem eD {v:Value} (hs:∀ w,(sizeOf t).run P w=.ok 1 w) (hb:blk w b E cs) (ho:o < cs.length) (hv:v.oneCell'=true)
  (h:∀ w',blk w' b E (cs.set o v)→Oth b w w'→K undef w'):sto P t (.pointer (some ⟨b,o,none⟩)) v K w:=by
 have hc:w.cell? ⟨b,o,none⟩=some cs[o]:=by rw [hb.cell,List.getElem?_eq_getElem ho]
 have hv2:v.cells=#[v]:=by cases v <;> first | rfl | simp [Value.oneCell'] at hv
 refine Fk hs hv hv2 hc (hb.frozen o) rfl (h _ ?_ ⟨rfl,rfl,rfl,by simp [World.setCell],fun k hk=>Below.heap_setCell _ _ _ _ hk⟩)
 unfold blk at *
 simp only [World.setCell,Array.getElem?_modify]
 rw [if_pos trivial,hb]
 simp
theorem kW (b:Nat):∀ (vs:List Value) (o:Nat) (w:World),Oth b w (w.setCells b o vs):=by
 intro vs
 induction vs with
 | nil=>intro o w; exact ⟨rfl,rfl,rfl,rfl,fun _ _=>rfl⟩
 | cons v vs ih =>
  intro o w
  have h:=ih (o+1) (w.setCell ⟨b,o,none⟩ v)
  rw [World.setCells]
  exact ⟨h.os,h.tape,h.output,by rw [h.size]; simp [World.setCell],fun k hk=>(h.other k hk).trans (Below.heap_setCell _ _ _ _ hk)⟩
theorem nK {b:Nat} {E:TypeId}:∀ (vs:List Value) (o:Nat) (w:World) (cs:List Value),blk w b E cs→o+vs.length≤cs.length→blk (w.setCells b o vs) b E (cs.take o++vs++cs.drop (o+vs.length)):=by
 intro vs
 induction vs with
 | nil=>intro o w cs h hl; rw [World.setCells]; simpa using h
 | cons v vs ih =>
  intro o w cs h hl
  rw [World.setCells]
  simp only [List.length_cons] at hl
  have h1:blk (w.setCell ⟨b,o,none⟩ v) b E (cs.set o v):=by
   unfold blk at *
   simp only [World.setCell,Array.getElem?_modify]
   rw [if_pos trivial,h]
   simp
  have h2:=ih (o+1) _ _ h1 (by simp; omega)
  have:(cs.set o v).take (o+1)++vs++(cs.set o v).drop (o+1+vs.length)=cs.take o++(v::vs)++cs.drop (o+(vs.length+1)):=by
   have e:cs.set o v=cs.take o++v::cs.drop (o+1):=by rw [List.set_eq_take_append_cons_drop,if_pos (by omega)]
   have e2:(cs.take o).length=o:=by rw [List.length_take]; omega
   rw [e,List.take_append,List.drop_append,e2,List.take_take,List.drop_take]
   simp only [show min (o+1) o=o by omega,show o+1 - o=1 by omega,List.take_succ_cons,List.take_zero,show o - (o+1+vs.length)=0 by omega,List.nil_append,show o+1+vs.length - o=vs.length+1 by omega,List.drop_succ_cons,List.drop_drop,
    show o+1+vs.length=o+(vs.length+1) by omega,List.append_assoc,List.cons_append,List.take_zero,show o - (o+(vs.length+1))=0 by omega,show o+(vs.length+1) - o=vs.length+1 by omega,List.nil_append,List.drop_succ_cons,List.drop_drop,
    show o+1+vs.length=o+(vs.length+1) by omega]
  rw [this] at h2
  exact h2
theorem eM {vs:List Value} {n:Nat} (hi:(P.info? t).map (·.size)=some n) (hn:vs.length=n) (hb:blk w b E cs) (ho:o+n≤cs.length) (h1:∀ v ∈ vs,v.oneCell'=true)
  (h:∀ w',blk w' b E (cs.take o++vs++cs.drop (o+n))→Oth b w w'→K undef w'):sto P t (.pointer (some ⟨b,o,none⟩)) (.agg vs.toArray) K w:=by
 subst hn
 have hr:=run_storeAt_mid (P:=P) w b o t vs.toArray (fun j hj=>⟨by
  rw [hb.cell,List.getElem?_eq_getElem (by simp at hj; omega)]; rfl,hb.frozen _⟩) (by simpa using hi) (by simpa using h1)
 unfold sto
 exact vR hr (h _ (by simpa using nK vs o w cs hb ho) (by simpa using kW b vs o w))
theorem bh {v:Value} (h:∀ w',blk w' w.heap.size t v.cells.toList→Below w.heap.size w w'→w'.heap.size=w.heap.size+1→K (.pointer (some ⟨w.heap.size,0,none⟩)) w'):box P t v K w:=by
 unfold box
 refine bF (w':=w.alloc (.cells v.cells t)) (v:=.pointer (some ⟨w.heap.size,0,none⟩)) ?_ (h _ ?_ (ce (World.grownBy_alloc _ _ none) (Nat.le_refl _) (fun k hk=>by cases hk)) (by simp))
 ·simp [Instr.box,newVar,newRow]
 ·unfold blk; rw [heap_alloc_new]
theorem cH {z:Value} (hz:(P.info? t).bind (·.zero)=some z) (h:∀ w',blk w' w.heap.size t z.cells.toList→Below w.heap.size w w'→w'.heap.size=w.heap.size+1→K (.pointer (some ⟨w.heap.size,0,none⟩)) w'):alc P t K w:=by
 obtain ⟨i,hi,hz⟩:=Option.bind_eq_some_iff.1 hz
 unfold alc
 refine bF (w':=w.alloc (.cells z.cells t)) (v:=.pointer (some ⟨w.heap.size,0,none⟩)) ?_ (h _ ?_ (ce (World.grownBy_alloc _ _ none) (Nat.le_refl _) (fun k hk=>by cases hk)) (by simp))
 ·simp [Instr.alloc,zeroValue,typeInfo,hi,hz,newVar,newRow]
 ·unfold blk; rw [heap_alloc_new]
theorem eE {ps:Array (Nat × Value)} {vs:List Value} (hb:P.built t ps.toList=some vs.toArray) (h:K (.agg vs.toArray) w):bld P t ps K w:=by
 unfold bld
 exact bF (run_build w t ps _ hb) h
def Cu (P:Program) (s:TypeId) (f:Nat):Option Nat :=
 match P.underlying s with
 | some (.struct fs) =>
  match fs[f]? with
  | some fd=>match P.info? fd.type with
   | some i=>match Nat.beq i.size 0 with | true=>none | false=>some fd.offset
   | none=>none
  | none=>none
 | _=>none
theorem aq {f off:Nat} (hf:Cu P t f=some off) (h:K (.pointer (some ⟨b,o+off,none⟩)) w):aa P t (.pointer (some ⟨b,o,none⟩)) f K w:=by
 unfold Cu at hf
 split at hf
 ·rename_i fs hu
  split at hf
  ·rename_i fd hfd
   split at hf
   ·rename_i i hi
    split at hf
    ·cases hf
    ·rename_i h0
     cases hf
     have hs:(sizeOf fd.type).run P w=.ok i.size w:=by simp [sizeOf,typeInfo,hi]
     have h0' : ¬ i.size=0:=fun e=>by rw [e] at h0; exact absurd h0 (by decide)
     unfold aa
     refine bF (w':=w) ?_ h
     simp only [Instr.fieldAt,Sem.run_bind,run_underlying hu,Result.andThen_ok,hfd,Instr.sureAddr,Sem.run_pure,fieldPlace,hs,h0',if_false,jI]
   ·cases hf
  ·cases hf
 ·cases hf
def vF (P:Program) (s:TypeId) (f:Nat):Option (Nat × Nat × Bool) :=
 match P.underlying s with
 | some (.struct fs) =>
  match fs[f]? with
  | some fd=>match P.info? fd.type,P.underlying fd.type with
   | some i,some d=>some (fd.offset,i.size,d.isRow)
   | _,_=>none
  | none=>none
 | _=>none
theorem JT {f off n:Nat} {v:Value} (hf:vF P t f=some (off,n,false)) (hv:cs[off]? = some v) (h:K v w):fld P t (.agg cs.toArray) f K w:=by
 unfold vF at hf
 split at hf
 ·rename_i fs hu
  split at hf
  ·rename_i fd hfd
   split at hf
   ·rename_i i d hi hd
    simp only [Option.some.injEq,Prod.mk.injEq] at hf
    obtain ⟨rfl,rfl,hr⟩:=hf
    have ha:(isAgg fd.type).run P w=.ok false w:=by
     unfold isAgg
     rw [Sem.run_bind,run_underlying hd w]
     cases d <;> simp_all [TypeDesc.isRow]
    unfold fld
    refine bF (w':=w) ?_ h
    simp only [Instr.field,Sem.run_bind,run_underlying hu,Result.andThen_ok,hfd,asAgg,Sem.run_pure,part,ha]
    simp [hv]
   ·cases hf
  ·cases hf
 ·cases hf
theorem JU {f off n:Nat} {vs:List Value} (hf:vF P t f=some (off,n,true)) (hv:(cs.drop off).take n=vs) (h:K (.agg vs.toArray) w):fld P t (.agg cs.toArray) f K w:=by
 unfold vF at hf
 split at hf
 ·rename_i fs hu
  split at hf
  ·rename_i fd hfd
   split at hf
   ·rename_i i d hi hd
    simp only [Option.some.injEq,Prod.mk.injEq] at hf
    obtain ⟨rfl,rfl,hr⟩:=hf
    have ha:(isAgg fd.type).run P w=.ok true w:=by
     unfold isAgg
     rw [Sem.run_bind,run_underlying hd w]
     cases d <;> simp_all [TypeDesc.isRow]
    have hs:(sizeOf fd.type).run P w=.ok i.size w:=by simp [sizeOf,typeInfo,hi]
    unfold fld
    refine bF (w':=w) ?_ h
    subst hv
    simp only [Instr.field,Sem.run_bind,run_underlying hu,Result.andThen_ok,hfd,asAgg,Sem.run_pure,part,ha,if_true,hs]
    congr 3
    rw [List.extract_toArray]
    simp [List.extract_eq_take_drop]
   ·cases hf
  ·cases hf
 ·cases hf
theorem aT {e:TypeId} {n s:Nat} {k:IntKind} {i:Int} (ht:P.underlying t=some (.array n e)) (hs:∀ w,(sizeOf e).run P w=.ok s w) (h0:0≤i) (h1:i < n)
  (h:K (.pointer (some ⟨b,o+i.toNat * s,none⟩)) w):af P t (.pointer (some ⟨b,o,none⟩)) (.int k i) K w:=by
 unfold af
 refine bF (w':=w) ?_ h
 simp only [Instr.indexAt,asIntOf,Instr.sureAddr,Sem.run_bind,Sem.run_pure,Result.andThen_ok,run_underlying ht,hs,h0,h1,and_self,if_true,jI]
theorem bJ {e:TypeId} {n c s:Nat} {k:IntKind} {i:Int} (ht:P.underlying t=some (.slice e)) (hs:∀ w,(sizeOf e).run P w=.ok s w) (h0:0≤i) (h1:i < n)
  (h:K (.pointer (some ⟨b,o+i.toNat * s,none⟩)) w):af P t (.slice (some ⟨b,o,none⟩) n c) (.int k i) K w:=by
 unfold af
 refine bF (w':=w) ?_ h
 simp only [Instr.indexAt,asIntOf,Instr.sureAddr,Sem.run_bind,Sem.run_pure,Result.andThen_ok,run_underlying ht,hs,h0,h1,and_self,if_true,jI]
theorem hH {e:TypeId} {n s:Nat} {ps:Array (Nat × Value)} (vs:List Value) (ht:P.underlying t=some (.slice e)) (hi:(P.info? e).map (·.size)=some s) (hz:((P.info? e).bind (·.zero)).isSome=true) (hs:0 < s) (hn:n=vs.length) (h0:vs.length≠0)
  (h24:n * s≤16777216) (hps:ps.toList=(vs.zipIdx 0).map fun x=>(x.2,x.1)) (hv:∀ v ∈ vs,v.cells.size=s)
  (h:∀ w',blk w' w.heap.size e (vs.flatMap fun v=>v.cells.toList)→Below w.heap.size w w'→w'.heap.size=w.heap.size+1→K (.slice (some ⟨w.heap.size,0,none⟩) n n) w'):aJ P t n ps K w:=by
 subst hn
 obtain ⟨ie,hie,hsz⟩:∃ ie,P.info? e=some ie∧ie.size=s:=by
  cases hq:P.info? e with
  | none=>rw [hq] at hi; cases hi
  | some ie=>rw [hq] at hi; exact ⟨ie,rfl,by simpa using hi⟩
 obtain ⟨z,hz'⟩:=Option.isSome_iff_exists.1 hz
 rw [hie] at hz'
 have hz':ie.zero=some z:=hz'
 subst hsz
 have hf:=Go.Great.fill_whole hs vs ((Array.range (vs.length * ie.size)).map (z.cells[· % z.cells.size]!)) hv (by simp)
 unfold aJ
 refine bF (run_buildSlice (P:=P) w t e vs.length ps _ ie z ht hie hz' (by omega) (by intro h; rcases Nat.mul_eq_zero.1 h with h | h <;> omega) (by rw [hps]; exact hf)) (h _ ?_ (ce (World.grownBy_alloc _ _ none) (Nat.le_refl _) (fun k hk=>by cases hk)) (by simp))
 unfold blk; rw [heap_alloc_new]
theorem Fl {f:FuncId} {first args cap all:Array Value} (he:first++args++cap=all) (h:call P f all K w):bl P (.func (.func f) first cap) args K w:=⟨f,first,cap,rfl,by rw [he]; exact h⟩
/-! ## In a region that draws -/
theorem ab {S:World→Prop} {s:KV→World→Prop} {k:Value→Prop} {v:Value} (h:∀ w,S w→∀ K:KV,K v w→s K w) (hk:k v):hld S s k:=⟨v,fun w hw=>h w hw _ ⟨rfl,rfl⟩,hk⟩
theorem aC {b:(World→Prop)→World→Prop} (S:World→Prop) (hS:S w) (h:b S w):aX b w:=⟨S,hS,h⟩
end
theorem jg {v:Value} {want:Bool} {S:World→Prop} {s:KV→World→Prop} {k:Value→Prop} {x:Value} (hv:asB v=some want) (h:∀ w,S w→∀ K:KV,K x w→s K w) (hk:k x):hG v want S s k :=
 ⟨x,fun _ w hw=>h w hw _ ⟨rfl,rfl⟩,fun hh=>absurd hv hh,hk⟩
theorem JV {v:Value} {want:Bool} {s:KV→World→Prop} {K:KV} {w:World} (hv:asB v=some want) (h:s K w):xG v want s K w:=⟨fun _=>h,fun hh=>absurd hv hh⟩
theorem Gy {p:Prop} [Decidable p] (hp:p):asB (.bool (decide p))=some true:=by show some (decide p)=some true; rw [decide_eq_true hp]
theorem Jv {p:Prop} [Decidable p] (hp : ¬ p):asB (.bool (decide p))=some false:=by show some (decide p)=some false; rw [decide_eq_false hp]
end Go.Proofs.YtgpfkmdknlcemaaGreatDoor
namespace Go.Proofs.YtgpfkmdknlcemaaGreatDoor
set_option maxRecDepth 100000
open Go.RowKit
section
variable {P:Program} {w w':World} {t:TypeId} {K:KV}
theorem bj {B:Nat} {E:TypeId} {s:Nat} {v:Value} {n:Nat} {xs:List Value} (h:w.ownsRow B E s v n xs) (hk:∀ k,v.ownBlock=some k→w'.heap[k]? = w.heap[k]?):w'.ownsRow B E s v n xs:=by
 refine ⟨h.1, ?_⟩
 rcases h.2 with h2 | ⟨g,cap,cur,hv,hb,hh,r⟩
 ·exact .inl h2
 ·refine .inr ⟨g,cap,cur,hv,hb, ?_,r⟩
  rw [hk g (by rw [hv]; rfl)]; exact hh
theorem Dt {B g n s:Nat} {E:TypeId} {xs:List Value} (hb:blk w g E xs) (hn:xs.length=n * s) (hB:B≤g) (hm:n≤maxLen):w.ownsRow B E s (.slice (some ⟨g,0,none⟩) n n) n xs:=by
 refine ⟨hn,.inr ⟨g,n,xs.toArray,rfl,hB,hb,Nat.le_refl _,hm,by simpa using hn, ?_⟩⟩
 rw [← hn]; simp
theorem Fm {e ty:TypeId} {cs:Array Bool} {base:Nat} {i:TypeInfo} {z:Value} {bytes s:Nat} (ht:P.underlying t=some (.slice e)) (hi:P.info? e=some i) (hz:i.zero=some z)
  (hsize:i.size=s) (hby:i.bytes=bytes) (hzs:z.cells.size=s) (hs0:0 < s)
  {av:Option Addr} {n c:Nat} {xs:List Value} (hown:w.ownsRow base e s (.slice av n c) n xs) {g:Nat} {m c2:Nat} {ys:List Value} (hy:blk w g e ys) (hyl:ys.length=m * s) (h1:∀ u ∈ ys,u.oneCell'=true)
  (hbytes:(n+m) * bytes≤140737488355328) (h63:n+m≤9223372036854775807) (hbase:base≤w.heap.size)
  (h:∀ a' c' w',w'.ownsRow base e s (.slice a' (n+m) c') (n+m) (xs++ys)→w.grownBy w' (Value.slice av n c).ownBlock→((Value.slice a' (n+m) c').ownBlock=(Value.slice av n c).ownBlock∨(Value.slice a' (n+m) c').ownBlock=some w.heap.size)→K (.slice a' (n+m) c') w') :
  blt P .append #[t,t] ty cs #[.slice av n c,.slice (some ⟨g,0,none⟩) m c2] K w:=by
 have hn:∀ j u,ys[j]? = some u→w.cell? ((⟨g,0,none⟩:Addr).add j)=some u:=by
  intro j u hj
  rw [show ((⟨g,0,none⟩:Addr).add j)=⟨g,0+j,none⟩ from by unfold Addr.add; split <;> simp_all,hy.cell,Nat.zero_add]
  exact hj
 obtain ⟨v',w',hr,h2,h3,_,h5⟩:=run_append_own_at (P:=P) w base t ty e i z s bytes ht hi hz hsize hby hzs hs0 _ n xs hown ⟨g,0,none⟩ m c2 ys hyl hn h1 (by simp only [maxLen]; omega) hbytes hbase
 obtain ⟨a',c',rfl⟩:∃ a' c',v'=.slice a' (n+m) c':=by
  rcases h2.2 with ⟨hv,hn⟩ | ⟨g,cap,cur,hv,_⟩
  ·exact ⟨none,0,by rw [hv,hn]⟩
  ·exact ⟨_,cap,hv⟩
 exact gN (by rw [BigFrame.builtin_append]; simp only [Sem.run_bind,hr,Result.andThen_ok,Sem.run_pure]) (h a' c' w' h2 h3 h5)
end
end Go.Proofs.YtgpfkmdknlcemaaGreatDoor
namespace Go.Proofs.YtgpfkmdknlcemaaGreatDoor
set_option maxRecDepth 100000
open Go.RowKit
def ndO (o:Oper):Bool:=match o.op with | .defer _=>false | _=>true
def jp:Code→Bool
 | .region _ ops _=>ops.toList.all ndO
 | .seq a b=>match jp a with | true=>jp b | false=>false
 | .cond _ a b=>match jp a with | true=>jp b | false=>false
 | .block _ c=>jp c
 | .loop c=>jp c
 | _=>true
section
variable {P:Program} {Q:Exit→Act→World→Prop} {l n:Nat} {ops:Array Oper} {ds:List Deferred}
theorem Is {o:Oper} (h:ndO o=true):∀ c,o.op≠.defer c:=by
 intro c hc
 unfold ndO at h
 rw [hc] at h
 cases h
theorem Gz {o:Oper} {a:Act} {w:World} {K:Act→World→Prop} (ho:ndO o=true) (h:o.wp P a w K Q):o.wpIn (Fence.wide.inRound l) n P a w K Q:=by
 unfold Oper.wp at h
 unfold Oper.wpIn
 refine ⟨fun _ _=>trivial, ?_⟩
 rw [Oper.semAt_eq _ _ _ (Is ho)]
 generalize (execOp a.eval o).run P w=r at *
 cases r with
 | ok x w' =>
  cases x <;> simp only [Oper.upon] at h <;> simp only [Oper.uponIn]
  case value=>exact h
  case skip=>exact h
  case enter f args=>exact ⟨fun hh=>(by cases hh),CallsIn.inRound l (callsIn_wide.2 h)⟩
  case defer=>exact h
  case row row args =>
   refine ⟨fun hh=>(by cases hh), ?_⟩
   intro c cs _
   obtain ⟨v,w2,h1,h2⟩:=h c cs
   exact ⟨v,w2,h1,stepsIn_wide.2 h2⟩
 | halt x w' => cases x <;> simp only [Oper.upon] at h <;> simp only [Oper.uponIn] <;> exact h
theorem Iu (hQ : ¬ LetsOut Q) (hnd:ops.toList.all ndO=true) {i:Nat} {a:Act} {w:World} {K:Act→World→Prop} (h:wpOp P ops Q i K a w):wpOpIn (Fence.wide.inRound l) n P ops Q i K a w:=by
 unfold wpOp at h
 unfold wpOpIn
 split at h
 ·rename_i ho; rw [ho]; exact h
 ·rename_i o ho
  rw [ho]
  have hm:o ∈ ops.toList:=by have:=Array.mem_of_getElem? ho; simpa using this
  have hno:=List.all_eq_true.1 hnd o hm
  dsimp only
  split at h
  ·rename_i hw
   rw [if_pos hw]
   rcases h with h | h
   ·exact Gz hno h
   ·exact absurd h.2 hQ
  ·rename_i hw
   rw [if_neg hw]
   exact ⟨fun _ _=>trivial,h⟩
theorem Iv (hQ : ¬ LetsOut Q) (hnd:ops.toList.all ndO=true) {md:Region.Mode}:∀ (fuel:Nat) (listed:Array Bool) (a:Act) (w:World),wpAny P md ops Q fuel listed a w→wpAnyIn (Fence.wide.inRound l) n P md ops Q fuel listed a w:=by
 intro fuel
 induction fuel with
 | zero=>intro listed a w h; exact h
 | succ fuel ih =>
  intro listed a w h
  exact ⟨h.1,fun i hi=>wpOpIn_mono (fun a w h=>ih _ _ _ h) (Iu hQ hnd (h.2 i hi))⟩
theorem Hn (hQ : ¬ LetsOut Q):∀ (L:List Oper) (a:Act) (w:World),L.all ndO=true→wpList P ops Q L a w→wpListIn (Fence.wide.inRound l) n P ops Q L a w:=by
 intro L
 induction L with
 | nil=>intro a w _ h; exact h
 | cons o L ih =>
  intro a w hnd h
  rw [List.all_cons,Bool.and_eq_true] at hnd
  unfold wpList at h
  unfold wpListIn
  split at h
  ·rename_i hw
   rw [if_pos hw]
   rcases h with h | h
   ·exact Oper.wpIn_mono (fun a w h=>ih a w hnd.2 h) (Gz hnd.1 h)
   ·exact absurd h.2 hQ
  ·rename_i hw
   rw [if_neg hw]
   exact ⟨fun _ _=>trivial,ih _ _ hnd.2 h⟩
theorem Du {N:KE} {X:Nat→KE} {R:KE} : ¬ LetsOut (QQ ds N X R):=fun ⟨_,_,h⟩=>h
theorem Cv {id:Nat} {N:KE} {X:Nat→KE} {R:KE} {e:Env} {w:World} (h:ac P (.region id ops true) N X R e w) :
  P.follows .mixedOrders=true∧wpAny P .any ops (QQ ds N X R) ops.size (Array.replicate ops.size false) ⟨e.toArray,ds⟩ w.drew:=by
 simp only [ac] at h
 cases hd:(P.follows .mixedOrders && ky P ops)
 case true =>
  rw [hd] at h
  obtain ⟨S,hS,h⟩:=h
  simp only [Bool.and_eq_true] at hd
  exact ⟨hd.1,nh _ _ _ _ _ (vT (fun e w hN=>⟨e,rfl,hN⟩) (fun c a w hh=>hh) (vU hd.2) _ _ _ _ _ _ hS (uq ops _) h)⟩
 case false =>
 rw [hd] at h
 dsimp only at h
 cases hf:(P.follows .mixedOrders && Nat.ble (cR ops) ops.size)
 case false=>rw [hf] at h; exact h.elim
 case true =>
  rw [hf] at h
  have h:im _ _ _ _ _ _:=h
  simp only [Bool.and_eq_true] at hf
  refine ⟨hf.1, ?_⟩
  obtain ⟨h1,h2⟩:=iP (ops.toList.take (cR ops))
  obtain ⟨h3,h4⟩:=iP (ops.toList.drop (cR ops))
  have tail:∀ e,aW P ops.toList (grp (ops.toList.drop (cR ops))) N e w.drew→wpList P ops.toList.toArray (QQ ds N X R) (ops.toList.drop (cR ops)) ⟨e.toArray,ds⟩ w.drew:=by
   intro e he
   have:=n5 (P:=P) (ops:=ops.toList) (Q:=QQ ds N X R) (K:=N) (fun e w h=>⟨e,rfl,h⟩) (grp (ops.toList.drop (cR ops))) e w.drew h4 he
   rwa [h3] at this
  rcases vS ops hf.2 with ⟨hB,hn⟩ | ⟨hB,hn⟩
  ·have hs:=ng (P:=P) (ops:=ops.toList) (Q:=fun a=>QQ ds N X R .normal a w.drew) (w:=w.drew) (fun e he=>by
    have:=tail e he
    rw [hn,List.drop_of_length_le (by simp)] at this
    exact this) _ e h2 h
   rw [h1,hn,List.take_of_length_le (by simp)] at hs
   simp only [Region.lexB,Bool.and_eq_true] at hB
   have hs:wpStill P ops w.drew (fun a=>QQ ds N X R .normal a w.drew) ops.toList ⟨e.toArray,ds⟩:=by simpa using hs
   refine wpAny_of_still (Q:=fun a=>QQ ds N X R .normal a w.drew) (fun _ h=>h) _ _ _ ?_
   have:=wpAnyS_lex (md:=.any) hB.1 ops.toList 0 (Array.replicate ops.size false) ⟨e.toArray,ds⟩ (by simp) (by simpa using hB.2) hs
   simpa using this
  ·have hs:=ng (P:=P) (ops:=ops.toList) (Q:=fun a=>wpList P ops.toList.toArray (QQ ds N X R) (ops.toList.drop (cR ops)) a w.drew) (w:=w.drew) (fun e he=>tail e he) _ e h2 h
   rw [h1] at hs
   simp only [Region.lexTailB,Bool.and_eq_true,decide_eq_true_eq] at hB
   obtain ⟨⟨⟨⟨hsel,hn'⟩,hst⟩,hc⟩,hlex⟩:=hB
   generalize hk:cR ops=k at *
   have hlt:k < ops.toList.length:=by simpa using hn'
   have htl:(ops.toList.take k).length=k:=by simp only [List.length_take]; omega
   have hdl:(ops.toList.drop k).length=ops.size - k:=by simp
   have hw:ops.toList.toArray=ops:=by simp
   rw [hw] at hs
   have inv0:HeadInv .any ops k (Array.replicate ops.size false) :=
    ⟨by simp,fun j oj _ hl=>(by rw [getD_replicate_false] at hl; cases hl),fun t _ ht=>getD_in (by simpa using ht) (getD_replicate_false _ _)⟩
   have H:=wpAnyL_lex (md:=.any) (g:=ops.size - k) hsel hst hc hn' (ops.toList.take k) 0 _ ⟨e.toArray,ds⟩ (fun j hj=>by
    have hj':j < k:=by rw [htl] at hj; exact hj
    simp [hj']) (by simpa using htl) inv0 (by rw [htl]; exact hlex) hs
   have:=wpAny_of_head (Q':=QQ ds N X R) (g:=ops.size - k) (fun listed a' hL=>by
    have:=wpAny_of_seq (md:=.any) (Q':=QQ ds N X R) (ops.toList.drop k) k listed a' w.drew (fun j=>by simp [List.getElem?_drop]) (by rw [hdl]; exact hL.1) hL.2
    rwa [hdl] at this) _ _ _ H
   rw [htl,show k+(ops.size - k)=ops.size by simp at hlt; omega] at this
   exact this
theorem qV:∀ (c:Code) (N:KE) (X:Nat→KE) (R:KE) (e:Env) (w:World),jp c=true→ac P c N X R e w→c.wpIn (Fence.wide.inRound l) n P (QQ ds N X R) ⟨e.toArray,ds⟩ w:=by
 intro c
 induction c with
 | skip=>intro N X R e w _ h; exact wpIn_skip ⟨e,rfl,h⟩
 | region id ops draw =>
  intro N X R e w hnd h
  cases draw with
  | true =>
   obtain ⟨h1,h2⟩:=Cv (ds:=ds) h
   exact wpIn_region_any h1 (Iv Du hnd _ _ _ _ h2)
  | false =>
   refine wpIn_region_list (Hn Du _ _ _ hnd ?_)
   obtain ⟨h1,h2⟩:=iP ops.toList
   have:=n5 (P:=P) (ops:=ops.toList) (Q:=QQ ds N X R) (K:=N) (fun e w h=>⟨e,rfl,h⟩) (grp ops.toList) e w h2 h
   rw [h1] at this
   simpa using this
 | seq a b iha ihb =>
  intro N X R e w hnd h
  obtain ⟨na,nb⟩:jp a=true∧jp b=true:=by
   unfold jp at hnd
   split at hnd
   ·rename_i ha; exact ⟨ha,hnd⟩
   ·cases hnd
  refine wpIn_seq (wpIn_mono (iha _ _ _ _ _ na h) ?_)
  intro x a w hq
  cases x with
  | normal=>obtain ⟨e,rfl,h⟩:=hq; exact ihb _ _ _ _ _ nb h
  | _=>exact hq
 | cond c x y ihx ihy =>
  intro N X R e w hnd h
  obtain ⟨na,nb⟩:jp x=true∧jp y=true:=by
   unfold jp at hnd
   split at hnd
   ·rename_i ha; exact ⟨ha,hnd⟩
   ·cases hnd
  obtain ⟨b,hb,h1,h2⟩:=h
  cases b with
  | true=>exact wpIn_cond (t:=true) (by rw [gD]; exact hb) (ihx _ _ _ _ _ na (h1 rfl))
  | false=>exact wpIn_cond (t:=false) (by rw [gD]; exact hb) (ihy _ _ _ _ _ nb (h2 rfl))
 | block id c ih =>
  intro N X R e w hnd h
  refine wpIn_block (wpIn_mono (ih _ _ _ _ _ hnd h) ?_)
  intro x a w hq
  cases x with
  | exit i =>
   obtain ⟨e,rfl,h⟩:=hq
   simp only [Exit.inBlock]
   by_cases hi:i=id
   ·rw [if_pos hi]
    have:Nat.beq i id=true:=by rw [hi]; exact Nat.beq_refl id
    rw [this] at h
    exact ⟨e,rfl,h⟩
   ·rw [if_neg hi]
    have:Nat.beq i id=false:=by
     cases hb:Nat.beq i id with
     | false=>rfl
     | true=>exact absurd (Nat.eq_of_beq_eq_true hb) hi
    rw [this] at h
    exact ⟨e,rfl,h⟩
  | _=>exact hq
 | loop c ih =>
  intro N X R e w hnd h
  obtain ⟨I,μ,h0,hs⟩:=h
  refine wpIn_loop (fun a w => ∃ e:Env,a=⟨e.toArray,ds⟩∧I e w) (fun a w=>μ a.tmps.toList w) ⟨e,rfl,h0⟩ ?_
  rintro _ w' ⟨e',rfl,hI⟩
  refine wpIn_mono (ih _ _ _ _ _ hnd (hs e' w' hI)) ?_
  intro x a w hq
  cases x with
  | normal=>obtain ⟨e2,rfl,h1,h2⟩:=hq; exact ⟨⟨e2,rfl,h1⟩,by simpa using h2⟩
  | _=>exact hq
 | exit i=>intro N X R e w _ h; exact wpIn_exit ⟨e,rfl,h⟩
 | ret=>intro N X R e w _ h; exact wpIn_ret ⟨e,rfl,h⟩
 | _=>intro N X R e w _ h; exact h.elim
end
end Go.Proofs.YtgpfkmdknlcemaaGreatDoor
namespace Go.Proofs.YtgpfkmdknlcemaaGreatDoor
set_option maxRecDepth 100000
open Go.RowKit
abbrev YB:=List Value→KV→World→Prop
structure YOK (P:Program) (l:Nat) (Y:YB):Prop where
 yld:∀ {vs K w},Y vs K w→∃ r:Loop,w.heap[l]? = some (.loop r)∧r.state=.ready∧vs.length=r.params.size ∧
  RoundIn Fence.wide 0 P l r.fn ((r.params.zip vs.toArray).foldl (fun t (p,a)=>t.setIfInBounds p a) r.tmps) r.assign r.body w (fun x w' => ∃ v,x=.returned v∧K v w')
section sound
variable {P:Program} {Y:YB} {l:Nat}
/-! ## What a piece of an iterator's code does not write stays. -/
/-! ## The statement -/
end sound
end Go.Proofs.YtgpfkmdknlcemaaGreatDoor
namespace Go.Proofs.YtgpfkmdknlcemaaGreatDoor
set_option maxRecDepth 100000
open Go.RowKit
noncomputable abbrev Q:Program:=Tryz.prog
abbrev ci (x:Int):Value:=.int .i64 x
abbrev cu (x:Int):Value:=.int .u64 x
abbrev cb (x:Int):Value:=.int .u8 x
abbrev cT:Value:=.bool true
abbrev cF:Value:=.bool false
abbrev cN:Value:=.slice none 0 0
abbrev rk (f:Func) (K:KV):KE:=oP Q f.results.toList K
abbrev xf:Nat→KE:=fun _ _ _=>False
abbrev xx (X:Nat→KE) (N:KE) (k:Nat):Nat→KE:=fun i => @Bool.rec (fun _=>KE) (X i) N (Nat.beq i k)
end Go.Proofs.YtgpfkmdknlcemaaGreatDoor
namespace Go.Proofs.YtgpfkmdknlcemaaGreatDoor
open Go.RowKit
set_option maxRecDepth 100000
def fE (K:KV):KE:=ac Q (cd Tryz.f74 [1,1]) (rk Tryz.f74 K) xf (rk Tryz.f74 K)
def jX (K:KV):KE:=ac Q (cd Tryz.f74 [1,0,1,0]) (fE K) (xx xf (fE K) 0) (rk Tryz.f74 K)
theorem yD {K:KV} {l0:Value} {w:World}
  (h:blt Q Builtin.len #[115] 3 #[false] #[l0] (fun A3=>jX K [l0,undef,ci 0,cF,undef,undef,l0,A3,ci 0,undef,undef,undef,undef,undef,undef,undef,undef,undef,undef,undef,undef,undef,undef]) w) :
  Gives Q 74 #[l0] w K:=by
 refine aK Tryz.func74 (by kernel_rfl) ?_
 revert h
 delta jX fE
 exact fun h=>Eq.mp (by kernel_rfl) h
theorem yE:bD Q 74:=⟨_,Tryz.func74,by kernel_rfl,by kernel_rfl⟩
theorem vG {K:KV} {l0 l1 all2 is3 A0 x5 A2 A3 A4 A5 A6 A7 A8 A9 C0 C1 C2 C3 C4 C5 C6 C7 C8:Value} {w:World} (Inv:Value→Value→Value→Value→World→Prop) (μ:Value→Value→Value→Value→World→Nat) (h0:Inv all2 A4 C1 C2 w)
  (hs:∀ (all2' A4' C1' C2':Value) (dd:Nat→Value) (w:World) (m:Nat),Inv all2' A4' C1' C2' w→m=μ all2' A4' C1' C2' w →
  bin Q BinOp.lss 3 false false A4' A3 (fun A5 w=>cond A5 (af Q 115 A2 A4' (fun A6=>ld Q 2 A6 fun A7=>bin Q BinOp.lss 2 false true A7 (ci 0) fun A9 w=>au A9 false (fun k15=>bin Q BinOp.gtr 2 false true A7 (ci 1125899906842624) (fun C2=>k15 [A7,C2]) w) (fun k=>k [undef,undef] w) fun us15=>pick A9 cT (gd us15 1) fun C3 w=>cond C3 (K (Value.tuple #[ci 0,cF]) w) (bin Q BinOp.add 2 false false all2' A7 (fun C6=>bin Q BinOp.add 3 false true A4' (ci 1) fun C7 w=>(Inv C6 C7 (gd us15 0) (gd us15 1) w)∧((μ C6 C7 (gd us15 0) (gd us15 1) w)<m)) w)) w) (fE K [l0,l1,all2',dd 3,A0,dd 5,A2,A3,A4',A5,dd 10,dd 11,dd 12,dd 13,dd 14,C1',C2',dd 17,dd 18,dd 19,dd 20,dd 21,C8] w)) w) :
  jX K [l0,l1,all2,is3,A0,x5,A2,A3,A4,A5,A6,A7,A8,A9,C0,C1,C2,C3,C4,C5,C6,C7,C8] w:=by
 refine aB (cd Tryz.f74 [1,0,1,0,0]) [2,3,5,8,9,10,11,12,13,14,15,16,17,18,19,20,21] (by kernel_rfl) (fun e2 w2=>Inv (gd e2 2) (gd e2 8) (gd e2 15) (gd e2 16) w2) (fun e2 w2=>μ (gd e2 2) (gd e2 8) (gd e2 15) (gd e2 16) w2) h0 ?_
 intro e' w' hI
 have h:=hs (gd e' 2) (gd e' 8) (gd e' 15) (gd e' 16) (fun i=>gd e' i) w' _ hI rfl
 revert h
 generalize (fE K)=qc0
 exact fun h=>Eq.mp (by kernel_rfl) h
theorem vH {K:KV} {l0 l1 all2 is3 A0 x5 A2 A3 A4 A5 A6 A7 A8 A9 C0 C1 C2 C3 C4 C5 C6 C7 C8:Value} {w:World}
  (h:K (Value.tuple #[all2,cT]) w) :
  fE K [l0,l1,all2,is3,A0,x5,A2,A3,A4,A5,A6,A7,A8,A9,C0,C1,C2,C3,C4,C5,C6,C7,C8] w:=by
 delta fE
 revert h
 exact fun h=>Eq.mp (by kernel_rfl) h
attribute [irreducible] fE jX
def eS (K:KV):KE:=ac Q (cd Tryz.f49 [1,1,1]) (rk Tryz.f49 K) xf (rk Tryz.f49 K)
def gw (K:KV):KE:=ac Q (cd Tryz.f49 [1,1,0,1,0]) (eS K) (xx xf (eS K) 0) (rk Tryz.f49 K)
theorem vI {K:KV} {r0 k_1:Value} {w:World}
  (h:aX (fun S w=>hld S (aj r0) fun C1=>hld S (aa Q 36 C1 1) fun C2=>hld S (af Q 33 C2 k_1) fun C3=>hld S (ld Q 2 C3) fun C4=>hld S (aj r0) fun C8=>hld S (aa Q 36 C8 0) fun C9=>hld S (af Q 33 C9 k_1) fun D0=>hld S (ld Q 2 D0) fun D1=>hld S (aj r0) fun D4=>hld S (aa Q 36 D4 2) fun D5=>hld S (af Q 33 D5 k_1) fun D6=>hld S (ld Q 2 D6) fun D7=>(aJ Q 115 1 #[(0,C4)] (fun C5=>dB S fun S=>aJ Q 115 2 #[(0,D1),(1,D7)] fun D8=>dB S fun _=>gw K (r0::k_1::undef::undef::(ci 0)::cF::C5::D8::undef::undef::undef::undef::undef::r0::k_1::C1::C2::C3::C4::C5::r0::k_1::C8::C9::D0::D1::r0::k_1::D4::D5::D6::D7::D8::(ci 0)::undef::undef::undef::undef::undef::undef::undef::undef::undef::undef::undef::undef::undef::undef::undef::undef::undef::undef::undef::undef::undef::undef::undef::undef::undef::undef::undef::undef::undef::undef::undef::undef::undef::undef::undef::undef::undef::undef::undef::undef::undef::undef::[])) w)∧(aJ Q 115 2 #[(0,D1),(1,D7)] (fun D8=>dB S fun _=>aJ Q 115 1 #[(0,C4)] fun C5=>aX fun _=>gw K (r0::k_1::undef::undef::(ci 0)::cF::C5::D8::undef::undef::undef::undef::undef::r0::k_1::C1::C2::C3::C4::C5::r0::k_1::C8::C9::D0::D1::r0::k_1::D4::D5::D6::D7::D8::(ci 0)::undef::undef::undef::undef::undef::undef::undef::undef::undef::undef::undef::undef::undef::undef::undef::undef::undef::undef::undef::undef::undef::undef::undef::undef::undef::undef::undef::undef::undef::undef::undef::undef::undef::undef::undef::undef::undef::undef::undef::undef::undef::undef::[])) w)) w.drew) :
  Gives Q 49 #[r0,k_1] w K:=by
 refine aK Tryz.func49 (by kernel_rfl) ?_
 revert h
 delta gw eS
 exact fun h=>Eq.mp (by kernel_rfl) h
theorem vJ:bD Q 49:=⟨_,Tryz.func49,by kernel_rfl,by kernel_rfl⟩
section
variable {r0 k_1 r2 k_3 A0 A1 out6 in7 j8 less9 one10 more11 two12 A9 C0 C1 C2 C3 C4 C5 C6 C7 C8 C9 D0 D1 D2 D3 D4 D5 D6 D7 D8 D9 E0 E1 E2 E3 E4 E5 E6 E7 E8 E9 F0 F1 F2 F3 F4 F5 F6 F7 F8 F9 G0 G1 G2 G3 G4 G5 G6 G7 G8 G9 H0 H1 H2 H3 H4 H5 H6 H7 H8 H9 I0 I1:Value}
theorem tP {K:KV} {w:World} (Inv:Value→Value→Value→World→Prop) (μ:Value→Value→Value→World→Nat) (h0:Inv out6 in7 D9 w)
  (hs:∀ (out6' in7' D9':Value) (dd:Nat→Value) (w:World) (m:Nat),Inv out6' in7' D9' w→m=μ out6' in7' D9' w →
  bin Q BinOp.lss 3 false true D9' (ci 6) (fun E0 w=>cond E0 (aX (fun S w=>hld S (aj r0) fun E6=>hld S (aa Q 36 E6 3) fun E7=>hld S (af Q 34 E7 k_1) fun E8=>hld S (af Q 33 E8 D9') fun E9=>hld S (ld Q 2 E9) fun F0=>hld S (aj r0) fun F7=>hld S (aa Q 36 F7 3) fun F8=>hld S (af Q 34 F8 D9') fun F9=>hld S (af Q 33 F9 k_1) fun G0=>hld S (ld Q 2 G0) fun G1=>(aJ Q 115 1 #[(0,F0)] (fun F1=>dB S fun S w=>(blt Q Builtin.append #[115,115] 115 #[false,false] #[out6',F1] (fun F2=>dB S fun _=>aJ Q 115 1 #[(0,G1)] fun G2=>aX fun _=>blt Q Builtin.append #[115,115] 115 #[false,false] #[in7',G2] fun G3=>aX fun _=>bin Q BinOp.add 3 false true D9' (ci 1) fun G4 w=>(Inv F2 G3 G4 w)∧((μ F2 G3 G4 w)<m)) w)∧(aJ Q 115 1 #[(0,G1)] (fun G2=>aX fun _=>blt Q Builtin.append #[115,115] 115 #[false,false] #[out6',F1] fun F2=>aX fun _=>blt Q Builtin.append #[115,115] 115 #[false,false] #[in7',G2] fun G3=>aX fun _=>bin Q BinOp.add 3 false true D9' (ci 1) fun G4 w=>(Inv F2 G3 G4 w)∧((μ F2 G3 G4 w)<m)) w)) w)∧(aJ Q 115 1 #[(0,G1)] (fun G2=>dB S fun _=>aJ Q 115 1 #[(0,F0)] fun F1=>aX fun _=>blt Q Builtin.append #[115,115] 115 #[false,false] #[out6',F1] fun F2=>aX fun _=>blt Q Builtin.append #[115,115] 115 #[false,false] #[in7',G2] fun G3=>aX fun _=>bin Q BinOp.add 3 false true D9' (ci 1) fun G4 w=>(Inv F2 G3 G4 w)∧((μ F2 G3 G4 w)<m)) w)) w.drew) (eS K (r0::k_1::r2::k_3::A0::A1::out6'::in7'::(dd 8)::less9::one10::more11::two12::A9::C0::C1::C2::C3::C4::C5::C6::C7::C8::C9::D0::D1::D2::D3::D4::D5::D6::D7::D8::D9'::E0::(dd 35)::(dd 36)::(dd 37)::(dd 38)::(dd 39)::(dd 40)::(dd 41)::(dd 42)::(dd 43)::(dd 44)::(dd 45)::(dd 46)::(dd 47)::(dd 48)::(dd 49)::(dd 50)::(dd 51)::(dd 52)::(dd 53)::(dd 54)::(dd 55)::(dd 56)::(dd 57)::(dd 58)::G5::G6::G7::G8::G9::H0::H1::H2::H3::H4::H5::H6::H7::H8::H9::I0::I1::[]) w)) w) :
  gw K (r0::k_1::r2::k_3::A0::A1::out6::in7::j8::less9::one10::more11::two12::A9::C0::C1::C2::C3::C4::C5::C6::C7::C8::C9::D0::D1::D2::D3::D4::D5::D6::D7::D8::D9::E0::E1::E2::E3::E4::E5::E6::E7::E8::E9::F0::F1::F2::F3::F4::F5::F6::F7::F8::F9::G0::G1::G2::G3::G4::G5::G6::G7::G8::G9::H0::H1::H2::H3::H4::H5::H6::H7::H8::H9::I0::I1::[]) w:=by
 refine aB (cd Tryz.f49 [1,1,0,1,0,0]) [6,7,8,33,34,35,36,37,38,39,40,41,42,43,44,45,46,47,48,49,50,51,52,53,54,55,56,57,58] (by kernel_rfl) (fun e2 w2=>Inv (gd e2 6) (gd e2 7) (gd e2 33) w2) (fun e2 w2=>μ (gd e2 6) (gd e2 7) (gd e2 33) w2) h0 ?_
 intro e' w' hI
 have h:=hs (gd e' 6) (gd e' 7) (gd e' 33) (fun i=>gd e' i) w' _ hI rfl
 revert h
 generalize (eS K)=qc0
 exact fun h=>Eq.mp (by kernel_rfl) h
theorem tQ {K:KV} {w:World}
  (h:call Q 74 #[out6] (fun G7=>ext Q G7 0 fun G8=>ext Q G7 1 fun G9=>call Q 74 #[in7] fun H2=>ext Q H2 0 fun H3=>ext Q H2 1 fun H4=>bin Q BinOp.sub 2 false false H3 G8 fun H7 w=>au G9 true (fun k74=>k74 [H4] w) (fun k=>k [undef] w) fun us74=>pick G9 (gd us74 0) cF fun I1=>K (Value.tuple #[H7,I1])) w) :
  eS K (r0::k_1::r2::k_3::A0::A1::out6::in7::j8::less9::one10::more11::two12::A9::C0::C1::C2::C3::C4::C5::C6::C7::C8::C9::D0::D1::D2::D3::D4::D5::D6::D7::D8::D9::E0::E1::E2::E3::E4::E5::E6::E7::E8::E9::F0::F1::F2::F3::F4::F5::F6::F7::F8::F9::G0::G1::G2::G3::G4::G5::G6::G7::G8::G9::H0::H1::H2::H3::H4::H5::H6::H7::H8::H9::I0::I1::[]) w:=by
 delta eS
 revert h
 exact fun h=>Eq.mp (by kernel_rfl) h
attribute [irreducible] eS gw
end
end Go.Proofs.YtgpfkmdknlcemaaGreatDoor
namespace Go.Proofs.YtgpfkmdknlcemaaGreatDoor
set_option maxRecDepth 100000
open Go.RowKit
def iv (x:Int):Value:=.int .i64 x
attribute [local irreducible] bin un conv call bl blt slc aa fld af idx lkp bL bP eSt rng nxt ent ext alc box bld aJ ld sto aj bm mkS ifc pick rdy wts au sti cond aH Gives ac aW bA cOp
section
variable {w:World} {K:KV}
theorem zx {a:Option Addr} {n c:Nat} {l:List Int} (hr:RV w a n c (l.map iv)) (hn:n≤1000) (h:K (.tuple #[iv (fw l).1,.bool (fw l).2]) w):call Tryz.prog 74 #[.slice a n c] K w:=by
 have hl:l.length=n:=by simpa using hr.len
 refine aE yE (yD ?_)
 refine aI Tryz.underlying115 <|vG (Inv:=fun s i _ _ wr => ∃ j:Nat,s=iv (l.take j).sum∧i=.int .i64 (j:Nat)∧j≤n∧wr=w∧(l.take j).all okA=true) (μ:=fun _ i _ _ _=>n - (intOf i).toNat) ⟨0,by simp [iv],rfl,by omega,rfl,by simp⟩ ?_
 rintro _ _ _ _ dd _ m ⟨j,rfl,rfl,hj,rfl,hall⟩ hm
 by_cases hjn:j < n
 ·(repeat (first | refine aD ?_ | refine ai (by omega) ?_))
  have hv:(l.map iv)[j]? = some (iv (nA l j)):=by
   simp [nA,List.getD,List.getElem?_eq_getElem (show j < l.length by omega)]
  refine fD Tryz.underlying115 (fun _=>by kernel_rfl) (by omega) (by omega) hr.some_ ?_
  rw [Int.toNat_natCast]
  refine dp (fun _=>by kernel_rfl) (hr.cell _ _ hv) ?_
  have hx:nA l j=l[j]:=by simp [nA,List.getD,show j < l.length by omega]
  have hall':l.all okA=true→okA (nA l j)=true:=fun h=>by rw [hx]; exact List.all_eq_true.1 h _ (List.getElem_mem _)
  have bad:okA (nA l j)=false→fw l=(0,false):=fun hb=>by
   unfold fw
   cases hq:l.all okA with
   | false=>rfl
   | true=>rw [hall' hq] at hb; cases hb
  have ht:l.take (j+1)=l.take j++[nA l j]:=by rw [hx,List.take_append_getElem (by omega)]
  unfold iv
  refine aD ?_
  by_cases h0:nA l j < 0
  ·refine de h0 <|bp h0 <|aR ?_
   have:okA (nA l j)=false:=by
    cases hq:okA (nA l j) with
    | false=>rfl
    | true=>have:=jd.1 hq; omega
   rw [bad this] at h
   exact h
  ·refine cE h0 <|cD <|bt h0 ?_
   by_cases h1:nA l j > 1125899906842624
   ·refine ai h1 ?_
    have:okA (nA l j)=false:=by
     cases hq:okA (nA l j) with
     | false=>rfl
     | true=>have:=jd.1 hq; simp only [MXA] at this; omega
    rw [bad this] at h
    exact h
   ·refine ag h1 ?_
    have hok:okA (nA l j)=true:=jd.2 ⟨by omega,by simp only [MXA]; omega⟩
    have hsb:=qe hall
    have hlen:(l.take j).length=j:=by rw [List.length_take]; omega
    rw [hlen] at hsb
    simp only [MXA] at hsb
    refine aF (by omega) (by omega) <|aF (by omega) (by omega) ?_
    refine ⟨⟨j+1, ?_,by simp,by omega,rfl, ?_⟩, ?_⟩
    ·rw [ht]; simp [iv]
    ·rw [ht,List.all_append,hall]; simp [hok]
    ·rw [hm]; simp [intOf]; omega
 ·obtain rfl:j=n:=by omega
  (repeat (first | refine vH ?_ | refine aD ?_ | refine ag (by omega) ?_))
  rw [List.take_of_length_le (by omega)] at hall ⊢
  unfold fw at h
  rw [hall] at h
  exact h
/-! ## Rows of numbers of the call's own. -/
abbrev OI (w:World) (B p n c:Nat) (l:List Int):Prop:=OV w B 2 (some ⟨p,0,none⟩) n c (l.map iv)
theorem OI.lt {B p n c:Nat} {l:List Int} (h:OI w B p n c l):B≤p∧p < w.heap.size:=OV.block h p rfl
theorem OI.keep {w':World} {B p n c:Nat} {l:List Int} (h:OI w B p n c l) (hk:w'.heap[p]? = w.heap[p]?):OI w' B p n c l:=bj h fun k e=>by cases e; exact hk
theorem bl1 {x:Int} (h:∀ w',blk w' w.heap.size 2 [iv x]→Below w.heap.size w w'→w'.heap.size=w.heap.size+1→K (.slice (some ⟨w.heap.size,0,none⟩) 1 1) w'):aJ Tryz.prog 115 1 #[(0,iv x)] K w :=
 hH (vs:=[iv x]) Tryz.underlying115 (s:=1) (by kernel_rfl) (by kernel_rfl) (by omega) rfl (by simp) (by simp) (by simp) (by simp [Value.cells,iv]) fun w' hb b s=>h w' (by simpa [iv,Value.cells] using hb) b s
theorem bl2 {x y:Int} (h:∀ w',blk w' w.heap.size 2 [iv x,iv y]→Below w.heap.size w w'→w'.heap.size=w.heap.size+1→K (.slice (some ⟨w.heap.size,0,none⟩) 2 2) w'):aJ Tryz.prog 115 2 #[(0,iv x),(1,iv y)] K w :=
 hH (vs:=[iv x,iv y]) Tryz.underlying115 (s:=1) (by kernel_rfl) (by kernel_rfl) (by omega) rfl (by simp) (by simp) (by simp) (by simp [Value.cells,iv]) fun w' hb b s=>h w' (by simpa [iv,Value.cells] using hb) b s
theorem Fo:(Tryz.prog.info? 2).map (fun i=>(i.zero,i.size,i.bytes))=some (some (.int .i64 0),1,8):=by kernel_rfl
theorem ap1 {cs:Array Bool} {ty:TypeId} {B p n c g:Nat} {l:List Int} {x:Int} (ho:OI w B p n c l) (hg:blk w g 2 [iv x]) (hB:B≤w.heap.size) (hn:n≤1000)
  (h:∀ p' c' w',OI w' B p' (n+1) c' (l++[x])→(p'=p∨p'=w.heap.size)→(∀ k,k < w.heap.size→k≠p→w'.heap[k]? = w.heap[k]?)→Below B w w'→K (.slice (some ⟨p',0,none⟩) (n+1) c') w') :
  blt Tryz.prog .append #[115,115] ty cs #[.slice (some ⟨p,0,none⟩) n c,.slice (some ⟨g,0,none⟩) 1 1] K w:=by
 obtain ⟨i,hi,hz,hsz,hby⟩:=info_parts Fo
 refine Fm (base:=B) (s:=1) (m:=1) (ys:=[iv x]) Tryz.underlying115 hi hz hsz hby rfl (by omega) ho hg rfl (by simp [iv,Value.oneCell']) (by omega) (by omega) hB ?_
 intro a' c' w' ho' hgr hat
 have hb:Below B w w':=ce hgr hB (fun k hk=>by cases hk; exact ho.lt.1)
 have hne:∀ k,k < w.heap.size→k≠p→w'.heap[k]? = w.heap[k]? := fun k hk hkp=>hgr.block k hk fun e=>hkp (by cases e; rfl)
 have hq:∀ p',a'=some ⟨p',0,none⟩→K (.slice a' (n+1) c') w':=by
  rintro p' rfl
  refine h p' c' w' (by simpa [OV] using ho') ?_ hne hb
  rcases hat with e | e
  ·cases e; exact .inl rfl
  ·cases e; exact .inr rfl
 rcases ho'.2 with ⟨hv,hz'⟩ | ⟨g',cap,cur,hv,_⟩
 ·omega
 ·simp only [Value.slice.injEq] at hv
  exact hq g' hv.1
end
structure RtA (w:World) (b o:Nat) (E:TypeId) (cs:List Value) (A:List Int):Prop where
 bk:blk w b E cs
 cut:(cs.drop o).take 54=A.map iv
 len:A.length=54
theorem RtA.get {w:World} {b o i:Nat} {E:TypeId} {cs:List Value} {A:List Int} (h:RtA w b o E cs A) (hi:i < 54):cs[o+i]? = some (iv (nA A i)):=by
 have h1:((cs.drop o).take 54)[i]? = (A.map iv)[i]? := by rw [h.cut]
 rw [List.getElem?_take_of_lt hi,List.getElem?_drop] at h1
 rw [h1]
 have:=h.len
 simp [nA,List.getD,show i < A.length by omega]
theorem RtA.below {w w':World} {B b o:Nat} {E:TypeId} {cs:List Value} {A:List Int} (h:RtA w b o E cs A) (hb:Below B w w') (hB:b < B):RtA w' b o E cs A:=⟨ae hb h.bk hB,h.cut,h.len⟩
section
variable {w:World} {K:KV}
theorem Dv (A:List Int) (k j:Nat):iQ A k (j+1)=iQ A k j++[nA A (18+6 * k+j)]:=by simp [iQ,List.range_succ]
theorem Fp (A:List Int) (k j:Nat):inL A k (j+1)=inL A k j++[nA A (18+6 * j+k)]:=by simp [inL,List.range_succ]
theorem Fq (A:List Int) (k j:Nat):(iQ A k j).length=1+j:=by simp [iQ]; omega
theorem Ho (A:List Int) (k j:Nat):(inL A k j).length=2+j:=by simp [inL]; omega
def Two (w:World) (B p n c q m d:Nat) (l r:List Int):Prop:=p≠q∧OI w B p n c l∧OI w B q m d r
theorem Two.bel {w':World} {B p n c q m d:Nat} {l r:List Int} (h:Two w B p n c q m d l r) (hb:Below w.heap.size w w'):Two w' B p n c q m d l r :=
 ⟨h.1,h.2.1.keep (hb.block _ h.2.1.lt.2),h.2.2.keep (hb.block _ h.2.2.lt.2)⟩
theorem apL {cs:Array Bool} {ty:TypeId} {B p n c q m d g:Nat} {l r:List Int} {x:Int} (h2:Two w B p n c q m d l r) (hg:blk w g 2 [iv x]) (hB:B≤w.heap.size) (hn:n≤1000)
  (h:∀ p' c' w',Two w' B p' (n+1) c' q m d (l++[x]) r→(∀ k,k < w.heap.size→k≠p→w'.heap[k]? = w.heap[k]?)→Below B w w'→K (.slice (some ⟨p',0,none⟩) (n+1) c') w') :
  blt Tryz.prog .append #[115,115] ty cs #[.slice (some ⟨p,0,none⟩) n c,.slice (some ⟨g,0,none⟩) 1 1] K w:=by
 obtain ⟨hne,hl,hr⟩:=h2
 refine ap1 hl hg hB hn fun p' c' w' ho hp hk hb=>h p' c' w' ⟨?_,ho,hr.keep (hk q hr.lt.2 (Ne.symm hne))⟩ hk hb
 have:=hr.lt
 rcases hp with rfl | rfl <;> omega
theorem apR {cs:Array Bool} {ty:TypeId} {B p n c q m d g:Nat} {l r:List Int} {x:Int} (h2:Two w B p n c q m d l r) (hg:blk w g 2 [iv x]) (hB:B≤w.heap.size) (hn:m≤1000)
  (h:∀ q' d' w',Two w' B p n c q' (m+1) d' l (r++[x])→(∀ k,k < w.heap.size→k≠q→w'.heap[k]? = w.heap[k]?)→Below B w w'→K (.slice (some ⟨q',0,none⟩) (m+1) d') w') :
  blt Tryz.prog .append #[115,115] ty cs #[.slice (some ⟨q,0,none⟩) m d,.slice (some ⟨g,0,none⟩) 1 1] K w:=by
 obtain ⟨hne,hl,hr⟩:=h2
 refine ap1 hr hg hB hn fun q' d' w' ho hp hk hb=>h q' d' w' ⟨?_,hl.keep (hk p hl.lt.2 hne),ho⟩ hk hb
 have:=hl.lt
 rcases hp with rfl | rfl <;> omega
set_option maxHeartbeats 4000000 in
theorem vK {b o k B p q:Nat} {E:TypeId} {cs:List Value} {A:List Int} {r0 k_1 r2 k_3 t4 t5 out6 in7 j8 less9 one10 more11 two12 t13 t14 t15 t16 t17 t18 t19 t20 t21 t22 t23 t24 t25 t26 t27 t28 t29 t30 t31 t32 t33 t34 t35 t36 t37 t38 t39 t40 t41 t42 t43 t44 t45 t46 t47 t48 t49 t50 t51 t52 t53 t54 t55 t56 t57 t58 t59 t60 t61 t62 t63 t64 t65 t66 t67 t68 t69 t70 t71 t72 t73 t74 t75:Value} (hA:RtA w b o E cs A) (hbB:b < B) (hB:B≤w.heap.size) (hk:k < 6) (h2:Two w B p 1 1 q 2 2 (iQ A k 0) (inL A k 0))
  (h:∀ w',Below B w w'→K (.tuple #[iv (gH A k).1,.bool (gH A k).2]) w')
  (e0:r0=.pointer (some ⟨b,o,none⟩)) (e1:k_1=.int .i64 (k:Nat)) (e2:out6=.slice (some ⟨p,0,none⟩) 1 1) (e3:in7=.slice (some ⟨q,0,none⟩) 2 2) (e4:t33=.int .i64 0):gw K ((r0::k_1::r2::k_3::t4::t5::out6::in7::j8::less9::one10::more11::two12::t13::t14::t15::t16::t17::t18::t19::t20::t21::t22::t23::t24::t25::t26::t27::t28::t29::t30::t31::t32::t33::t34::t35::t36::t37::t38::t39::t40::t41::t42::t43::t44::t45::t46::t47::t48::t49::t50::t51::t52::t53::t54::t55::t56::t57::t58::t59::t60::t61::t62::t63::t64::t65::t66::t67::t68::t69::t70::t71::t72::t73::t74::t75::[])) w:=by
 subst e0 e1 e2 e3 e4
 refine tP (Inv:=fun a c i wr => ∃ (j p q c1 d1:Nat),j≤6∧a=.slice (some ⟨p,0,none⟩) (1+j) c1∧c=.slice (some ⟨q,0,none⟩) (2+j) d1∧i=.int .i64 (j:Nat)∧Two wr B p (1+j) c1 q (2+j) d1 (iQ A k j) (inL A k j)∧Below B w wr)
  (μ:=fun _ _ i _=>6 - (intOf i).toNat) ⟨0,p,q,1,2,by omega,rfl,rfl,rfl,h2,Below.refl _ _⟩ ?_
 rintro _ _ _ dd w1 m ⟨j,p1,q1,c1,d1,hj,rfl,rfl,rfl,ht,hb1⟩ hm
 have hA1:RtA w1 b o E cs A:=hA.below hb1 hbB
 have hB1:B≤w1.heap.size:=Nat.le_trans hB hb1.size
 refine aD ?_
 by_cases hj6:j < 6
 ·refine ai (by omega) ?_
  have fin:∀ {p2 q2 c2 d2:Nat} {w2:World},Two w2 B p2 (1+j+1) c2 q2 (2+j+1) d2 (iQ A k j++[nA A (18+6 * k+j)]) (inL A k j++[nA A (18+6 * j+k)])→Below B w1 w2 →
    (∃ (j' p q c1 d1:Nat),j'≤6∧Value.slice (some ⟨p2,0,none⟩) (1+j+1) c2=.slice (some ⟨p,0,none⟩) (1+j') c1∧Value.slice (some ⟨q2,0,none⟩) (2+j+1) d2=.slice (some ⟨q,0,none⟩) (2+j') d1∧Value.int .i64 ((j:Int)+1)=.int .i64 (j':Nat)∧Two w2 B p (1+j') c1 q (2+j') d1 (iQ A k j') (inL A k j')∧Below B w w2) ∧
     6 - (intOf (.int .i64 ((j:Int)+1))).toNat < m:=by
   intro p2 q2 c2 d2 w2 ht2 hb2
   refine ⟨⟨j+1,p2,q2,c2,d2,by omega,rfl,rfl,by simp, ?_,hb1.trans hb2⟩,by rw [hm]; simp [intOf]; omega⟩
   rw [Dv,Fp]
   exact ht2
  have sB:∀ {wa wb:World},B≤wa.heap.size→Below wa.heap.size wa wb→Below B wa wb:=fun h hb=>hb.mono h
  refine aC (fun x=>RtA x b o E cs A) ⟨hA1.bk.drew,hA1.cut,hA1.len⟩ ?_
  refine ab (fun x hx _=>ak) ?_
  refine ab (fun x hx _=>aq (off:=18) (by kernel_rfl)) ?_
  refine ab (fun x hx _=>aT Tryz.underlying34 (s:=6) (fun _=>by kernel_rfl) (by omega) (by omega)) ?_
  refine ab (fun x hx _=>aT Tryz.underlying33 (s:=1) (fun _=>by kernel_rfl) (by omega) (by omega)) ?_
  refine ab (v:=iv (nA A (18+6 * k+j))) (fun x hx _=>ld1 (fun _=>by kernel_rfl) hx.bk (by rw [← hx.get (i:=18+6 * k+j) (by omega)]; congr 1; simp; omega)) ?_
  refine ab (fun x hx _=>ak) ?_
  refine ab (fun x hx _=>aq (off:=18) (by kernel_rfl)) ?_
  refine ab (fun x hx _=>aT Tryz.underlying34 (s:=6) (fun _=>by kernel_rfl) (by omega) (by omega)) ?_
  refine ab (fun x hx _=>aT Tryz.underlying33 (s:=1) (fun _=>by kernel_rfl) (by omega) (by omega)) ?_
  refine ab (v:=iv (nA A (18+6 * j+k))) (fun x hx _=>ld1 (fun _=>by kernel_rfl) hx.bk (by rw [← hx.get (i:=18+6 * j+k) (by omega)]; congr 1; simp; omega)) ?_
  have htd:Two w1.drew B p1 (1+j) c1 q1 (2+j) d1 (iQ A k j) (inL A k j):=ht
  have hBd:B≤w1.drew.heap.size:=hB1
  have hAd:RtA w1.drew b o E cs A:=⟨hA1.bk.drew,hA1.cut,hA1.len⟩
  have b0:Below B w1 w1.drew:=(Below.refl B w1).drew
  generalize w1.drew=w2 at *
  refine ⟨?_, ?_⟩
  ·refine bl1 fun w3 g3 b3 s3 => ?_
   have t3:=htd.bel b3
   have B3:B≤w3.heap.size:=by omega
   have bb3:=b0.trans (sB hBd b3)
   refine bn (hAd.below (sB hBd b3) hbB) ?_
   refine ⟨?_, ?_⟩
   ·refine apL t3 g3 B3 (by omega) fun p4 c4 w4 t4 k4 b4 => ?_
    refine bn ((hAd.below (sB hBd b3) hbB).below b4 hbB) ?_
    refine bl1 fun w5 g5 b5 s5 => ?_
    have B4:=Nat.le_trans B3 b4.size
    refine aC (fun _=>True) trivial ?_
    refine apR (t4.bel b5) g5 (by omega) (by omega) fun q6 d6 w6 t6 k6 b6 => ?_
    refine aC (fun _=>True) trivial ?_
    refine aF (by omega) (by omega) ?_
    exact fin t6 (((bb3.trans b4).trans (sB B4 b5)).trans b6)
   ·refine bl1 fun w4 g4 b4 s4 => ?_
    refine aC (fun _=>True) trivial ?_
    have g3':blk w4 w2.heap.size 2 [iv (nA A (18+6 * k+j))]:=ae b4 g3 (by omega)
    refine apL (t3.bel b4) g3' (by omega) (by omega) fun p5 c5 w5 t5 k5 b5 => ?_
    refine aC (fun _=>True) trivial ?_
    have g4':blk w5 w3.heap.size 2 [iv (nA A (18+6 * j+k))]:=by
     unfold blk; rw [k5 _ (by omega) (by have:=t3.2.1.lt; omega)]; exact g4
    refine apR t5 g4' (by have:=b5.size; omega) (by omega) fun q6 d6 w6 t6 k6 b6 => ?_
    refine aC (fun _=>True) trivial ?_
    refine aF (by omega) (by omega) ?_
    exact fin t6 (((bb3.trans (sB B3 b4)).trans b5).trans b6)
  ·refine bl1 fun w3 g3 b3 s3 => ?_
   have t3:=htd.bel b3
   have B3:B≤w3.heap.size:=by omega
   have bb3:=b0.trans (sB hBd b3)
   refine bn (hAd.below (sB hBd b3) hbB) ?_
   refine bl1 fun w4 g4 b4 s4 => ?_
   refine aC (fun _=>True) trivial ?_
   refine apL (t3.bel b4) g4 (by omega) (by omega) fun p5 c5 w5 t5 k5 b5 => ?_
   refine aC (fun _=>True) trivial ?_
   have g3':blk w5 w2.heap.size 2 [iv (nA A (18+6 * j+k))]:=by
    unfold blk; rw [k5 _ (by omega) (by have:=htd.2.1.lt; omega)]; exact ae b4 g3 (by omega)
   refine apR t5 g3' (by have:=b5.size; omega) (by omega) fun q6 d6 w6 t6 k6 b6 => ?_
   refine aC (fun _=>True) trivial ?_
   refine aF (by omega) (by omega) ?_
   exact fin t6 (((bb3.trans (sB B3 b4)).trans b5).trans b6)
 ·obtain rfl:j=6:=by omega
  refine ag (by omega) ?_
  refine tQ ?_
  refine zx ht.2.1.rv (by omega) ?_
  refine fy ?_
  refine fz ?_
  refine zx ht.2.2.rv (by omega) ?_
  refine fy ?_
  refine fz ?_
  have bd:∀ l:List Int,l.length≤8→0≤(fw l).1∧(fw l).1≤9007199254740992:=by
   intro l hl
   unfold fw
   cases hq:l.all okA with
   | false=>simp
   | true =>
    have:=qe hq
    simp only [MXA] at this
    simp only
    omega
  have h1:=bd (iQ A k 6) (by rw [Fq]; omega)
  have h3:=bd (inL A k 6) (by rw [Ho]; omega)
  unfold iv at *
  refine bo (by omega) (by omega) ?_
  have hl:gH A k=((fw (inL A k 6)).1 - (fw (iQ A k 6)).1,(fw (iQ A k 6)).2 && (fw (inL A k 6)).2):=rfl
  cases hq:(fw (iQ A k 6)).2 with
  | true =>
   refine jo ?_
   refine bI ?_
   rw [hl,hq] at h
   exact h w1 hb1
  | false =>
   refine kx ?_
   refine fe ?_
   rw [hl,hq] at h
   exact h w1 hb1
set_option maxHeartbeats 2000000 in
theorem wX {b o k:Nat} {E:TypeId} {cs:List Value} {A:List Int} (hA:RtA w b o E cs A) (hk:k < 6) (h:∀ w',Below w.heap.size w w'→K (.tuple #[iv (gH A k).1,.bool (gH A k).2]) w') :
  call Tryz.prog 49 #[.pointer (some ⟨b,o,none⟩),.int .i64 (k:Nat)] K w:=by
 have hlt:=hA.bk.lt
 refine aE vJ (vI ?_)
 refine aC (fun x=>RtA x b o E cs A) ⟨hA.bk.drew,hA.cut,hA.len⟩ ?_
 refine ab (fun x hx _=>ak) ?_
 refine ab (fun x hx _=>aq (off:=6) (by kernel_rfl)) ?_
 refine ab (fun x hx _=>aT Tryz.underlying33 (s:=1) (fun _=>by kernel_rfl) (by omega) (by omega)) ?_
 refine ab (v:=iv (nA A (6+k))) (fun x hx _=>ld1 (fun _=>by kernel_rfl) hx.bk (by rw [← hx.get (i:=6+k) (by omega)]; congr 1; simp; omega)) ?_
 refine ab (fun x hx _=>ak) ?_
 refine ab (fun x hx _=>aq (off:=0) (by kernel_rfl)) ?_
 refine ab (fun x hx _=>aT Tryz.underlying33 (s:=1) (fun _=>by kernel_rfl) (by omega) (by omega)) ?_
 refine ab (v:=iv (nA A k)) (fun x hx _=>ld1 (fun _=>by kernel_rfl) hx.bk (by rw [← hx.get (i:=k) (by omega)]; congr 1; simp)) ?_
 refine ab (fun x hx _=>ak) ?_
 refine ab (fun x hx _=>aq (off:=12) (by kernel_rfl)) ?_
 refine ab (fun x hx _=>aT Tryz.underlying33 (s:=1) (fun _=>by kernel_rfl) (by omega) (by omega)) ?_
 refine ab (v:=iv (nA A (12+k))) (fun x hx _=>ld1 (fun _=>by kernel_rfl) hx.bk (by rw [← hx.get (i:=12+k) (by omega)]; congr 1; simp; omega)) ?_
 have hAd:RtA w.drew b o E cs A:=⟨hA.bk.drew,hA.cut,hA.len⟩
 have b0:Below w.heap.size w w.drew:=(Below.refl _ w).drew
 have s0:w.drew.heap.size=w.heap.size:=rfl
 generalize w.drew=w2 at *
 have two:∀ {p q:Nat} {wz:World},p≠q→blk wz p 2 [iv (nA A (6+k))]→blk wz q 2 [iv (nA A k),iv (nA A (12+k))]→w.heap.size≤p→w.heap.size≤q→Two wz w.heap.size p 1 1 q 2 2 (iQ A k 0) (inL A k 0) :=
  fun hne hp hq h1 h2=>⟨hne,Dt hp rfl h1 (by simp [maxLen]),Dt hq rfl h2 (by simp [maxLen])⟩
 refine ⟨?_, ?_⟩
 ·refine bl1 fun w3 g3 b3 s3 => ?_
  refine bn (hAd.below b3 (by omega)) ?_
  refine bl2 fun w4 g4 b4 s4 => ?_
  refine bn ((hAd.below b3 (by omega)).below b4 (by omega)) ?_
  refine vK ((hA.below b0 hlt).below (b3.trans (b4.mono (by omega))) (by omega)) hlt (by omega) hk (two (by omega) (ae b4 g3 (by omega)) g4 (by omega) (by omega)) (fun w' hb=>h w' ?_) rfl rfl rfl rfl rfl
  exact ((b0.trans (b3.mono (by omega))).trans (b4.mono (by omega))).trans hb
 ·refine bl2 fun w3 g3 b3 s3 => ?_
  refine bn (hAd.below b3 (by omega)) ?_
  refine bl1 fun w4 g4 b4 s4 => ?_
  refine aC (fun _=>True) trivial ?_
  refine vK ((hA.below b0 hlt).below (b3.trans (b4.mono (by omega))) (by omega)) hlt (by omega) hk (two (by omega) g4 (ae b4 g3 (by omega)) (by omega) (by omega)) (fun w' hb=>h w' ?_) rfl rfl rfl rfl rfl
  exact ((b0.trans (b3.mono (by omega))).trans (b4.mono (by omega))).trans hb
end
end Go.Proofs.YtgpfkmdknlcemaaGreatDoor
namespace Go.Proofs.YtgpfkmdknlcemaaGreatDoor
open Go.RowKit
set_option maxRecDepth 100000
theorem uJ {K:KV} {i0:Value} {w:World}
  (h:bin Q BinOp.geq 3 false true i0 (ci 1) (fun A1 w=>au A1 true (fun k6=>bin Q BinOp.leq 3 false true i0 (ci 6) (fun A4=>k6 [i0,A4]) w) (fun k=>k [undef,undef] w) fun us6=>pick A1 (gd us6 1) cF K) w) :
  Gives Q 47 #[i0] w K:=by
 refine aK Tryz.func47 (by kernel_rfl) ?_
 revert h
 exact fun h=>Eq.mp (by kernel_rfl) h
theorem uK:bD Q 47:=⟨_,Tryz.func47,by kernel_rfl,by kernel_rfl⟩
def fF (K:KV):KE:=ac Q (cd Tryz.f48 [1,1]) (rk Tryz.f48 K) xf (rk Tryz.f48 K)
def jY (K:KV):KE:=ac Q (cd Tryz.f48 [1,0,1,0]) (fF K) (xx xf (fF K) 0) (rk Tryz.f48 K)
theorem yF {K:KV} {r0:Value} {w:World}
  (h:box Q 36 r0 (fun r1=>jY K (r0::r1::cF::undef::undef::undef::undef::undef::(ci 0)::undef::undef::undef::undef::undef::undef::undef::undef::undef::undef::undef::undef::undef::undef::undef::undef::undef::undef::undef::undef::undef::undef::undef::undef::undef::undef::undef::undef::undef::undef::undef::undef::undef::undef::undef::undef::undef::undef::undef::undef::undef::undef::undef::undef::undef::[])) w) :
  Gives Q 48 #[r0] w K:=by
 refine aK Tryz.func48 (by kernel_rfl) ?_
 revert h
 delta jY fF
 exact fun h=>Eq.mp (by kernel_rfl) h
theorem yG:bD Q 48:=⟨_,Tryz.func48,by kernel_rfl,by kernel_rfl⟩
section
variable {r0 r1 A0 k_3 n4 is5 limit6 is7 A5 A6 A7 A8 A9 C0 C1 C2 C3 C4 C5 C6 C7 C8 C9 D0 D1 D2 D3 D4 D5 D6 D7 D8 D9 E0 E1 E2 E3 E4 E5 E6 E7 E8 E9 F0 F1 F2 F3 F4 F5 F6 F7 F8 F9 G0:Value}
theorem vL {K:KV} {w:World} (Inv:Value→Value→Value→Value→Value→Value→Value→Value→Value→Value→Value→Value→Value→Value→Value→Value→Value→Value→Value→World→Prop) (μ:Value→Value→Value→Value→Value→Value→Value→Value→Value→Value→Value→Value→Value→Value→Value→Value→Value→Value→Value→World→Nat) (h0:Inv A5 C6 C7 D0 D1 D2 D3 D4 D5 D6 D7 D8 E1 E2 E3 E4 E5 E6 E7 w)
  (hs:∀ (A5' C6' C7' D0' D1' D2' D3' D4' D5' D6' D7' D8' E1' E2' E3' E4' E5' E6' E7':Value) (dd:Nat→Value) (w:World) (m:Nat),Inv A5' C6' C7' D0' D1' D2' D3' D4' D5' D6' D7' D8' E1' E2' E3' E4' E5' E6' E7' w→m=μ A5' C6' C7' D0' D1' D2' D3' D4' D5' D6' D7' D8' E1' E2' E3' E4' E5' E6' E7' w →
  bin Q BinOp.lss 3 false true A5' (ci 6) (fun A6 w=>cond A6 (call Q 49 #[r1,A5'] (fun C0=>ext Q C0 0 fun C1=>ext Q C0 1 fun C2 w=>sti (un Q UnOp.not C2) (fun C4 w=>au C4 false (fun k19=>sti (bin Q BinOp.lss 2 false true C1 (ci 0)) (fun C7=>k19 [C1,C7]) w) (fun k=>k [undef,undef] w) fun us19=>sti (pick C4 cT (gd us19 1)) fun C8 w=>au C8 false (fun k23=>sti (aa Q 36 r1 2) (fun D1=>sti (af Q 33 D1 A5') fun D2=>sti (ld Q 2 D2) fun D3=>sti (aa Q 36 r1 1) fun D5=>sti (af Q 33 D5 A5') fun D6=>sti (ld Q 2 D6) fun D7=>sti (bin Q BinOp.gtr 2 false false D3 D7) fun D8=>k23 [A5',D1,D2,D3,A5',D5,D6,D7,D8]) w) (fun k=>k [undef,undef,undef,undef,undef,undef,undef,undef,undef] w) fun us23=>sti (pick C8 cT (gd us23 8)) fun D9 w=>au D9 false (fun k34=>sti (aa Q 36 r1 3) (fun E3=>sti (af Q 34 E3 A5') fun E4=>sti (af Q 33 E4 A5') fun E5=>sti (ld Q 2 E5) fun E6=>sti (bin Q BinOp.neq 2 false true E6 (ci 0)) fun E7=>k34 [A5',A5',E3,E4,E5,E6,E7]) w) (fun k=>k [undef,undef,undef,undef,undef,undef,undef] w) fun us34=>sti (pick D9 cT (gd us34 6)) fun E8 w=>cond E8 (K cF w) (bin Q BinOp.add 3 false true A5' (ci 1) (fun E9 w=>(Inv E9 (gd us19 0) (gd us19 1) (gd us23 0) (gd us23 1) (gd us23 2) (gd us23 3) (gd us23 4) (gd us23 5) (gd us23 6) (gd us23 7) (gd us23 8) (gd us34 0) (gd us34 1) (gd us34 2) (gd us34 3) (gd us34 4) (gd us34 5) (gd us34 6) w)∧((μ E9 (gd us19 0) (gd us19 1) (gd us23 0) (gd us23 1) (gd us23 2) (gd us23 3) (gd us23 4) (gd us23 5) (gd us23 6) (gd us23 7) (gd us23 8) (gd us34 0) (gd us34 1) (gd us34 2) (gd us34 3) (gd us34 4) (gd us34 5) (gd us34 6) w)<m)) w)) w.drew) w) (fF K (r0::r1::(dd 2)::(dd 3)::(dd 4)::(dd 5)::limit6::is7::A5'::A6::(dd 10)::(dd 11)::(dd 12)::(dd 13)::(dd 14)::(dd 15)::(dd 16)::(dd 17)::(dd 18)::C6'::C7'::(dd 21)::(dd 22)::D0'::D1'::D2'::D3'::D4'::D5'::D6'::D7'::D8'::(dd 32)::(dd 33)::E1'::E2'::E3'::E4'::E5'::E6'::E7'::(dd 41)::(dd 42)::F0::F1::F2::F3::F4::F5::F6::F7::F8::F9::G0::[]) w)) w) :
  jY K (r0::r1::A0::k_3::n4::is5::limit6::is7::A5::A6::A7::A8::A9::C0::C1::C2::C3::C4::C5::C6::C7::C8::C9::D0::D1::D2::D3::D4::D5::D6::D7::D8::D9::E0::E1::E2::E3::E4::E5::E6::E7::E8::E9::F0::F1::F2::F3::F4::F5::F6::F7::F8::F9::G0::[]) w:=by
 refine aB (cd Tryz.f48 [1,0,1,0,0]) [2,3,4,5,8,9,10,11,12,13,14,15,16,17,18,19,20,21,22,23,24,25,26,27,28,29,30,31,32,33,34,35,36,37,38,39,40,41,42] (by kernel_rfl) (fun e2 w2=>Inv (gd e2 8) (gd e2 19) (gd e2 20) (gd e2 23) (gd e2 24) (gd e2 25) (gd e2 26) (gd e2 27) (gd e2 28) (gd e2 29) (gd e2 30) (gd e2 31) (gd e2 34) (gd e2 35) (gd e2 36) (gd e2 37) (gd e2 38) (gd e2 39) (gd e2 40) w2) (fun e2 w2=>μ (gd e2 8) (gd e2 19) (gd e2 20) (gd e2 23) (gd e2 24) (gd e2 25) (gd e2 26) (gd e2 27) (gd e2 28) (gd e2 29) (gd e2 30) (gd e2 31) (gd e2 34) (gd e2 35) (gd e2 36) (gd e2 37) (gd e2 38) (gd e2 39) (gd e2 40) w2) h0 ?_
 intro e' w' hI
 have h:=hs (gd e' 8) (gd e' 19) (gd e' 20) (gd e' 23) (gd e' 24) (gd e' 25) (gd e' 26) (gd e' 27) (gd e' 28) (gd e' 29) (gd e' 30) (gd e' 31) (gd e' 34) (gd e' 35) (gd e' 36) (gd e' 37) (gd e' 38) (gd e' 39) (gd e' 40) (fun i=>gd e' i) w' _ hI rfl
 revert h
 generalize (fF K)=qc0
 exact fun h=>Eq.mp (by kernel_rfl) h
theorem vM {K:KV} {w:World}
  (h:aa Q 36 r1 0 (fun F1=>slc Q 33 F1 none none none fun F2=>call Q 74 #[F2] fun F3=>ext Q F3 0 fun F4=>ext Q F3 1 fun F5 w=>au F5 true (fun k51=>bin Q BinOp.leq 2 false true F4 (ci 1125899906842624) (fun F9=>k51 [F4,F9]) w) (fun k=>k [undef,undef] w) fun us51=>pick F5 (gd us51 1) cF K) w) :
  fF K (r0::r1::A0::k_3::n4::is5::limit6::is7::A5::A6::A7::A8::A9::C0::C1::C2::C3::C4::C5::C6::C7::C8::C9::D0::D1::D2::D3::D4::D5::D6::D7::D8::D9::E0::E1::E2::E3::E4::E5::E6::E7::E8::E9::F0::F1::F2::F3::F4::F5::F6::F7::F8::F9::G0::[]) w:=by
 delta fF
 revert h
 exact fun h=>Eq.mp (by kernel_rfl) h
attribute [irreducible] fF jY
end
theorem vN {K:KV} {r0 i1:Value} {w:World}
  (h:box Q 36 r0 (fun r2=>call Q 47 #[i1] fun A5=>un Q UnOp.not A5 fun A6 w=>au A6 false (fun k11=>ld Q 36 r2 (fun A8=>call Q 48 #[A8] fun A9=>un Q UnOp.not A9 fun C0=>k11 [A8,A9,C0]) w) (fun k=>k [undef,undef,undef] w) fun us11=>pick A6 cT (gd us11 2) fun C1 w=>cond C1 (K (ci 0) w) (bin Q BinOp.sub 3 false true i1 (ci 1) (fun C4=>call Q 49 #[r2,C4] fun C5=>ext Q C5 0 fun C6=>ext Q C5 1 fun _=>K C6) w)) w) :
  Gives Q 31 #[r0,i1] w K:=by
 refine aK Tryz.func31 (by kernel_rfl) ?_
 revert h
 exact fun h=>Eq.mp (by kernel_rfl) h
theorem vO:bD Q 31:=⟨_,Tryz.func31,by kernel_rfl,by kernel_rfl⟩
def ff (K:KV):KE:=ac Q (cd Tryz.f76 [1,1,1]) (rk Tryz.f76 K) xf (rk Tryz.f76 K)
def jJ (K:KV):KE:=ac Q (cd Tryz.f76 [1,1,0,1,0]) (ff K) (xx xf (ff K) 0) (rk Tryz.f76 K)
theorem wY {K:KV} {r0:Value} {w:World}
  (h:box Q 36 r0 (fun r1=>ld Q 36 r1 fun A2=>call Q 48 #[A2] fun A3=>un Q UnOp.not A3 fun A4 w=>cond A4 (K (Value.tuple #[ci 0,ci 0]) w) (jJ K [r0,r1,ci 0,ci 0,undef,A2,A3,A4,ci 0,undef,undef,undef,undef,undef,undef,undef,undef,undef,undef,undef,undef,undef,undef,undef,undef,undef,undef,undef,undef,undef,undef] w)) w) :
  Gives Q 76 #[r0] w K:=by
 refine aK Tryz.func76 (by kernel_rfl) ?_
 revert h
 delta jJ ff
 exact fun h=>Eq.mp (by kernel_rfl) h
theorem wZ:bD Q 76:=⟨_,Tryz.func76,by kernel_rfl,by kernel_rfl⟩
theorem uL {K:KV} {r0 r1 limit2 used3 k_4 A2 A3 A4 A5 A6 A7 A8 A9 C0 C1 C2 C3 C4 C5 C6 C7 C8 C9 D0 D1 D2 D3 D4 D5 D6 D7:Value} {w:World} (Inv:Value→Value→Value→World→Prop) (μ:Value→Value→Value→World→Nat) (h0:Inv limit2 used3 A5 w)
  (hs:∀ (limit2' used3' A5':Value) (dd:Nat→Value) (w:World) (m:Nat),Inv limit2' used3' A5' w→m=μ limit2' used3' A5' w →
  bin Q BinOp.lss 3 false true A5' (ci 6) (fun A6 w=>cond A6 (aa Q 36 r1 0 (fun C0=>af Q 33 C0 A5' fun C1=>ld Q 2 C1 fun C2=>bin Q BinOp.add 2 false false limit2' C2 fun C3 w=>sti (aa Q 36 r1 1) (fun C6=>sti (af Q 33 C6 A5') fun C7=>sti (ld Q 2 C7) fun C8=>sti (aa Q 36 r1 2) fun D0=>sti (af Q 33 D0 A5') fun D1=>sti (ld Q 2 D1) fun D2=>sti (bin Q BinOp.sub 2 false false C8 D2) fun D3=>sti (bin Q BinOp.add 2 false false used3' D3) fun D4=>bin Q BinOp.add 3 false true A5' (ci 1) fun D5 w=>(Inv C3 D4 D5 w)∧((μ C3 D4 D5 w)<m)) w.drew) w) (ff K [r0,r1,limit2',used3',dd 4,A2,A3,A4,A5',A6,dd 10,dd 11,dd 12,dd 13,dd 14,dd 15,dd 16,dd 17,dd 18,dd 19,dd 20,dd 21,dd 22,dd 23,dd 24,dd 25,dd 26,dd 27,dd 28,D6,D7] w)) w) :
  jJ K [r0,r1,limit2,used3,k_4,A2,A3,A4,A5,A6,A7,A8,A9,C0,C1,C2,C3,C4,C5,C6,C7,C8,C9,D0,D1,D2,D3,D4,D5,D6,D7] w:=by
 refine aB (cd Tryz.f76 [1,1,0,1,0,0]) [2,3,4,8,9,10,11,12,13,14,15,16,17,18,19,20,21,22,23,24,25,26,27,28] (by kernel_rfl) (fun e2 w2=>Inv (gd e2 2) (gd e2 3) (gd e2 8) w2) (fun e2 w2=>μ (gd e2 2) (gd e2 3) (gd e2 8) w2) h0 ?_
 intro e' w' hI
 have h:=hs (gd e' 2) (gd e' 3) (gd e' 8) (fun i=>gd e' i) w' _ hI rfl
 revert h
 generalize (ff K)=qc0
 exact fun h=>Eq.mp (by kernel_rfl) h
theorem uM {K:KV} {r0 r1 limit2 used3 k_4 A2 A3 A4 A5 A6 A7 A8 A9 C0 C1 C2 C3 C4 C5 C6 C7 C8 C9 D0 D1 D2 D3 D4 D5 D6 D7:Value} {w:World}
  (h:K (Value.tuple #[limit2,used3]) w) :
  ff K [r0,r1,limit2,used3,k_4,A2,A3,A4,A5,A6,A7,A8,A9,C0,C1,C2,C3,C4,C5,C6,C7,C8,C9,D0,D1,D2,D3,D4,D5,D6,D7] w:=by
 delta ff
 revert h
 exact fun h=>Eq.mp (by kernel_rfl) h
attribute [irreducible] ff jJ
end Go.Proofs.YtgpfkmdknlcemaaGreatDoor
namespace Go.Proofs.YtgpfkmdknlcemaaGreatDoor
set_option maxRecDepth 100000
open Go.RowKit
def okM (A:List Int) (k:Nat):Bool:=(gH A k).2 && decide (0≤(gH A k).1) && decide (nA A (12+k)≤nA A (6+k)) && decide (nA A (18+6 * k+k)=0)
theorem xc (A:List Int):jx A=((List.range 6).all (okM A) && ((fw (gL A)).2 && decide ((fw (gL A)).1≤MXA))):=rfl
theorem Fs {A:List Int} {k:Nat} (hk:k < 6) (h:okM A k=false):jx A=false:=by
 rw [xc]
 have:(List.range 6).all (okM A)=false:=by
  cases hq:(List.range 6).all (okM A) with
  | false=>rfl
  | true=>have:=List.all_eq_true.1 hq k (by simpa using hk); rw [this] at h; cases h
 rw [this]; rfl
theorem Dw {A:List Int} (h:∀ j,j < 6→okM A j=true):jx A=((fw (gL A)).2 && decide ((fw (gL A)).1≤MXA)):=by
 rw [xc]
 have:(List.range 6).all (okM A)=true:=List.all_eq_true.2 fun k hk=>h k (by simpa using hk)
 rw [this]; rfl
attribute [local irreducible] bin un conv call bl blt slc aa fld af idx lkp bL bP eSt rng nxt ent ext alc box bld aJ ld sto aj bm mkS ifc pick rdy wts au sti cond aH Gives ac aW bA cOp
section
variable {w:World} {K:KV}
theorem Iw {P:Program} {t e:TypeId} {b o n s:Nat} (ht:P.underlying t=some (.array n e)) (hs:∀ w,(sizeOf e).run P w=.ok s w) (h:K (.slice (some ⟨b,o,none⟩) n n) w):slc P t (.pointer (some ⟨b,o,none⟩)) none none none K w:=by
 unfold slc
 refine bF (w':=w) ?_ h
 simp only [Instr.sliceAt,Instr.sureAddr,Instr.sliceBounds,Sem.run_bind,Sem.run_pure,Result.andThen_ok,run_underlying ht,hs]
 by_cases hn:n=0 <;> simp [hn,Addr.add]
theorem RtA.rvG {b:Nat} {E:TypeId} {cs:List Value} {A:List Int} (h:RtA w b 0 E cs A):RV w (some ⟨b,0,none⟩) 6 6 ((gL A).map iv) :=
 ⟨by simp [gL],Nat.le_refl _,fun _=>⟨b,0,rfl⟩,(fun h=>by cases h),fun i v hv=>by
  have hi:i < 6:=by have:=(List.getElem?_eq_some_iff.1 hv).1; simpa [gL] using this
  rw [show gu (some ⟨b,0,none⟩) i=⟨b,0+i,none⟩ from rfl,h.bk.cell,h.get (by omega)]
  rw [← hv]
  simp [gL,hi]⟩
theorem Ft {i:Int} (h:K (.bool (f6 i)) w):call Tryz.prog 47 #[.int .i64 i] K w:=by
 refine aE uK (uJ ?_)
 unfold f6 at h
 refine dI ?_
 by_cases h1:i ≥ 1
 ·refine dz h1 <|fB <|bp h1 ?_
  rw [show decide (1≤i)=true from decide_eq_true h1,Bool.true_and] at h
  exact h
 ·refine eK h1 <|bt h1 ?_
  rw [show decide (1≤i)=false from decide_eq_false h1,Bool.false_and] at h
  exact h
set_option maxHeartbeats 2000000 in
theorem Dx {A:List Int} (hA:A.length=54) (h:∀ w',Below w.heap.size w w'→K (.bool (jx A)) w'):call Tryz.prog 48 #[.agg (A.map iv).toArray] K w:=by
 refine aE yG (yF ?_)
 refine bh fun w1 hb b1 s1 => ?_
 have hb:blk w1 w.heap.size 36 (A.map iv):=by simpa [Value.cells] using hb
 have hR:RtA w1 w.heap.size 0 36 (A.map iv) A:=⟨hb,by rw [List.drop_zero,List.take_of_length_le (by simp [hA])],hA⟩
 have hlt0:=hb.lt
 refine vL (Inv:=fun i _ _ _ _ _ _ _ _ _ _ _ _ _ _ _ _ _ _ wr => ∃ k:Nat,i=.int .i64 (k:Nat)∧k≤6∧Below w1.heap.size w1 wr∧∀ j,j < k→okM A j=true)
  (μ:=fun i _ _ _ _ _ _ _ _ _ _ _ _ _ _ _ _ _ _ _=>6 - (intOf i).toNat) ⟨0,rfl,by omega,Below.refl _ _,fun j hj=>by omega⟩ ?_
 rintro _ _ _ _ _ _ _ _ _ _ _ _ _ _ _ _ _ _ _ dd w2 m ⟨k,rfl,hk6,b2,hall⟩ hm
 have hR2:=hR.below b2 hlt0
 have hsz2:=b2.size
 refine aD ?_
 by_cases hk:k < 6
 ·refine ai (by omega) ?_
  refine wX hR2 hk fun w3 b3 => ?_
  refine fy ?_
  refine fz ?_
  have hR3:RtA w3.drew w.heap.size 0 36 (A.map iv) A:=by have:=hR2.below b3 (by omega); exact ⟨this.bk.drew,this.cut,this.len⟩
  have hB:Below w1.heap.size w1 w3.drew:=(b2.trans (b3.mono hsz2)).drew
  have no:okM A k=false→K (.bool false) w3.drew:=fun hq=>by
   have:=h w3.drew (b1.trans (hB.mono (by omega)))
   rw [Fs hk hq] at this
   exact this
  generalize w3.drew=w4 at *
  cases hq:(gH A k).2 with
  | false =>
   refine a8 (fun _=>cU) ?_
   refine d8 ?_
   refine a8 (fun _=>bI) ?_
   refine d8 ?_
   refine a8 (fun _=>bI) ?_
   refine d8 ?_
   refine a8 (fun _=>bI) ?_
   refine aR ?_
   exact no (by unfold okM; rw [hq]; rfl)
  | true =>
   refine a8 (fun _=>cU) ?_
   refine jH ?_
   unfold iv
   refine a8 (fun _=>aD) ?_
   refine a8 (fun _=>fe) ?_
   by_cases h0:(gH A k).1 < 0
   ·refine de h0 ?_
    refine a8 (fun _=>bp h0) ?_
    refine d8 ?_
    refine a8 (fun _=>bI) ?_
    refine aR ?_
    refine no ?_
    unfold okM
    rw [show decide (0≤(gH A k).1)=false from decide_eq_false (by omega)]; simp
   ·refine cE h0 ?_
    refine a8 (fun _=>aq (off:=12) (by kernel_rfl)) ?_
    refine a8 (fun _=>aT Tryz.underlying33 (s:=1) (fun _=>by kernel_rfl) (by omega) (by omega)) ?_
    refine a8 (v:=iv (nA A (12+k))) (fun _=>ld1 (fun _=>by kernel_rfl) hR3.bk (by rw [← hR3.get (i:=12+k) (by omega)]; congr 1; simp)) ?_
    refine a8 (fun _=>aq (off:=6) (by kernel_rfl)) ?_
    refine a8 (fun _=>aT Tryz.underlying33 (s:=1) (fun _=>by kernel_rfl) (by omega) (by omega)) ?_
    refine a8 (v:=iv (nA A (6+k))) (fun _=>ld1 (fun _=>by kernel_rfl) hR3.bk (by rw [← hR3.get (i:=6+k) (by omega)]; congr 1; simp)) ?_
    unfold iv
    refine a8 (fun _=>cD) ?_
    refine a8 (fun _=>bt h0) ?_
    by_cases h1:nA A (6+k) < nA A (12+k)
    ·refine de h1 ?_
     refine a8 (fun _=>bp h1) ?_
     refine aR ?_
     refine no ?_
     unfold okM
     rw [show decide (nA A (12+k)≤nA A (6+k))=false from decide_eq_false (by omega)]; simp
    ·refine cE h1 ?_
     refine a8 (fun _=>aq (off:=18) (by kernel_rfl)) ?_
     refine a8 (fun _=>aT Tryz.underlying34 (s:=6) (fun _=>by kernel_rfl) (by omega) (by omega)) ?_
     refine a8 (fun _=>aT Tryz.underlying33 (s:=1) (fun _=>by kernel_rfl) (by omega) (by omega)) ?_
     refine a8 (v:=iv (nA A (18+6 * k+k))) (fun _=>ld1 (fun _=>by kernel_rfl) hR3.bk (by rw [← hR3.get (i:=18+6 * k+k) (by omega)]; congr 1; simp; omega)) ?_
     unfold iv
     refine a8 (fun _=>dn) ?_
     refine a8 (fun _=>bt h1) ?_
     by_cases h2:nA A (18+6 * k+k)≠0
     ·refine ai h2 ?_
      refine no ?_
      unfold okM
      rw [show decide (nA A (18+6 * k+k)=0)=false from decide_eq_false h2]; simp
     ·refine ag h2 ?_
      refine aF (by omega) (by omega) ?_
      refine ⟨⟨k+1,by simp,by omega,hB,fun j hj => ?_⟩,by rw [hm]; simp [intOf]; omega⟩
      by_cases hjk:j=k
      ·subst hjk
       unfold okM
       rw [hq,decide_eq_true (by omega:0≤(gH A j).1),decide_eq_true (by omega:nA A (12+j)≤nA A (6+j)),decide_eq_true (Classical.not_not.1 h2)]; rfl
      ·exact hall j (by omega)
 ·refine ag (by omega) ?_
  obtain rfl:k=6:=by omega
  refine vM ?_
  refine aq (off:=0) (by kernel_rfl) ?_
  refine Iw Tryz.underlying33 (s:=1) (fun _=>by kernel_rfl) ?_
  refine zx (l:=gL A) hR2.rvG (by omega) ?_
  refine fy ?_
  refine fz ?_
  have hres:=h w2 (b1.trans (b2.mono (by omega)))
  rw [Dw hall] at hres
  cases hq:(fw (gL A)).2 with
  | false =>
   refine kx ?_
   refine fe ?_
   rw [hq] at hres
   exact hres
  | true =>
   refine jo ?_
   unfold iv
   refine fB ?_
   refine bI ?_
   rw [hq] at hres
   exact hres
theorem Fu {A:List Int} {i:Int} (hA:A.length=54) (h:∀ w',Below w.heap.size w w'→K (iv (if f6 i then jR A (i - 1).toNat else 0)) w'):call Tryz.prog 31 #[.agg (A.map iv).toArray,.int .i64 i] K w:=by
 refine aE vO (vN ?_)
 refine bh fun w1 hb b1 s1 => ?_
 have hb:blk w1 w.heap.size 36 (A.map iv):=by simpa [Value.cells] using hb
 have hR:RtA w1 w.heap.size 0 36 (A.map iv) A:=⟨hb,by rw [List.drop_zero,List.take_of_length_le (by simp [hA])],hA⟩
 refine Ft ?_
 refine cU ?_
 cases hr:f6 i with
 | false =>
  refine d8 ?_
  refine bI ?_
  refine aR ?_
  rw [hr] at h
  exact h w1 b1
 | true =>
  have hi:1≤i∧i≤6:=by simpa [f6] using hr
  refine jH ?_
  refine ldA (n:=54) (vs:=A.map iv) Tryz.underlying36 rfl (by kernel_rfl) hb (by rw [List.drop_zero,List.take_of_length_le (by simp [hA])]) (by simp [hA]) ?_
  refine Dx hA fun w2 b2 => ?_
  refine cU ?_
  refine fe ?_
  rw [hr,if_pos rfl] at h
  cases hm:jx A with
  | false =>
   refine aR ?_
   have:=h w2 (b1.trans (b2.mono (by omega)))
   unfold jR at this
   rw [hm] at this
   exact this
  | true =>
   refine cW ?_
   refine bo (by omega) (by omega) ?_
   have hk:i - 1=(((i - 1).toNat:Nat):Int):=by omega
   rw [hk]
   refine wX (hR.below b2 hb.lt) (by omega) fun w3 b3 => ?_
   refine fy ?_
   refine fz ?_
   have:=h w3 (b1.trans ((b2.mono (by omega)).trans (b3.mono (by have:=b2.size; omega))))
   unfold jR at this
   rw [hm] at this
   exact this
end
end Go.Proofs.YtgpfkmdknlcemaaGreatDoor
namespace Go.Proofs.YtgpfkmdknlcemaaGreatDoor
open Go.RowKit
set_option maxRecDepth 100000
def dh (K:KV):KE:=ac Q (cd Tryz.f12 [1,1]) (rk Tryz.f12 K) xf (rk Tryz.f12 K)
def jK (K:KV):KE:=ac Q (cd Tryz.f12 [1,0,1,0]) (dh K) (xx xf (dh K) 0) (rk Tryz.f12 K)
def fg (K:KV) (B1:KE):KE:=ac Q (cd Tryz.f12 [1,0,1,0,0,1,1,1]) B1 (xx xf (dh K) 0) (rk Tryz.f12 K)
def iz (K:KV) (B1:KE):KE:=ac Q (cd Tryz.f12 [1,0,1,0,0,1,1,0]) (fg K B1) (xx xf (dh K) 0) (rk Tryz.f12 K)
theorem xd {K:KV} {s0:Value} {w:World}
  (h:box Q 30 s0 (fun s1=>aa Q 30 s1 0 fun A0=>ld Q 23 A0 fun A1=>jK K [s0,s1,cN,undef,undef,A0,A1,ci 0,undef,undef,undef,undef,undef,undef,undef,undef,undef,undef,undef,undef,undef,undef,undef,undef,undef,undef]) w) :
  Gives Q 12 #[s0] w K:=by
 refine aK Tryz.func12 (by kernel_rfl) ?_
 revert h
 delta jK dh
 exact fun h=>Eq.mp (by kernel_rfl) h
theorem xe:bD Q 12:=⟨_,Tryz.func12,by kernel_rfl,by kernel_rfl⟩
theorem uN {K:KV} {s0 s1 l2 k_3 in4 A0 A1 A2 A3 A4 A5 A6 A7 A8 A9 C0 C1 C2 C3 C4 C5 C6 C7 C8 C9 D0:Value} {w:World} (Inv:Value→Value→Value→Value→Value→Value→Value→World→Prop) (μ:Value→Value→Value→Value→Value→Value→Value→World→Nat) (h0:Inv l2 A2 A8 A9 C0 C1 C2 w)
  (hs:∀ (l2' A2' A8' A9' C0' C1' C2':Value) (dd:Nat→Value) (w:World) (m:Nat),Inv l2' A2' A8' A9' C0' C1' C2' w→m=μ l2' A2' A8' A9' C0' C1' C2' w →
  bin Q BinOp.lss 3 false true A2' (ci 6) (fun A3 w=>cond A3 (iz K (fun e2 w2=>(Inv (gd e2 2) (gd e2 7) (gd e2 13) (gd e2 14) (gd e2 15) (gd e2 16) (gd e2 17) w2)∧((μ (gd e2 2) (gd e2 7) (gd e2 13) (gd e2 14) (gd e2 15) (gd e2 16) (gd e2 17) w2)<m)) [s0,s1,l2',dd 3,dd 4,A0,A1,A2',A3,dd 9,dd 10,dd 11,dd 12,A8',A9',C0',C1',C2',dd 18,dd 19,dd 20,dd 21,dd 22,dd 23,dd 24,D0] w) (dh K [s0,s1,l2',dd 3,dd 4,A0,A1,A2',A3,dd 9,dd 10,dd 11,dd 12,A8',A9',C0',C1',C2',dd 18,dd 19,dd 20,dd 21,dd 22,dd 23,dd 24,D0] w)) w) :
  jK K [s0,s1,l2,k_3,in4,A0,A1,A2,A3,A4,A5,A6,A7,A8,A9,C0,C1,C2,C3,C4,C5,C6,C7,C8,C9,D0] w:=by
 refine aB (cd Tryz.f12 [1,0,1,0,0]) [2,3,4,7,8,9,10,11,12,13,14,15,16,17,18,19,20,21,22,23,24] (by kernel_rfl) (fun e2 w2=>Inv (gd e2 2) (gd e2 7) (gd e2 13) (gd e2 14) (gd e2 15) (gd e2 16) (gd e2 17) w2) (fun e2 w2=>μ (gd e2 2) (gd e2 7) (gd e2 13) (gd e2 14) (gd e2 15) (gd e2 16) (gd e2 17) w2) h0 ?_
 intro e' w' hI
 have h:=hs (gd e' 2) (gd e' 7) (gd e' 13) (gd e' 14) (gd e' 15) (gd e' 16) (gd e' 17) (fun i=>gd e' i) w' _ hI rfl
 refine Eq.mp (congrArg (fun c=>ac Q c _ _ _ _ w') (by kernel_rfl:(rep [1,1,0] (cd Tryz.f12 [1,0,1,0,0,1,1,0]) (cd Tryz.f12 [1,0,1,0,0]))=(cd Tryz.f12 [1,0,1,0,0]))) ?_
 revert h
 delta iz fg
 generalize (cd Tryz.f12 [1,0,1,0,0,1,1,0])=xc0
 generalize (dh K)=qc0
 exact fun h=>Eq.mp (by kernel_rfl) h
theorem uO {K:KV} {B1:KE} {s0 s1 l2 k_3 in4 A0 A1 A2 A3 A4 A5 A6 A7 A8 A9 C0 C1 C2 C3 C4 C5 C6 C7 C8 C9 D0:Value} {w:World}
  (h:idx Q 23 A1 A2 (fun A5 w=>au A5 true (fun k13=>aa Q 30 s1 1 (fun A9=>af Q 23 A9 A2 fun C0=>ld Q 4 C0 fun C1=>un Q UnOp.not C1 fun C2=>k13 [A2,A9,C0,C1,C2]) w) (fun k=>k [undef,undef,undef,undef,undef] w) fun us13=>pick A5 (gd us13 4) cF fun C3 w=>cond C3 (bin Q BinOp.add 3 false true A2 (ci 1) (fun C6=>aJ Q 56 1 #[(0,C6)] fun C7=>blt Q Builtin.append #[56,56] 56 #[false,false] #[l2,C7] fun C8=>fg K B1 [s0,s1,C8,A2,A5,A0,A1,A2,A3,A2,A5,A5,A5,gd us13 0,gd us13 1,gd us13 2,gd us13 3,gd us13 4,C3,l2,A2,C6,C7,C8,C9,D0]) w) (fg K B1 [s0,s1,l2,A2,A5,A0,A1,A2,A3,A2,A5,A5,A5,gd us13 0,gd us13 1,gd us13 2,gd us13 3,gd us13 4,C3,C4,C5,C6,C7,C8,C9,D0] w)) w) :
  iz K B1 [s0,s1,l2,k_3,in4,A0,A1,A2,A3,A4,A5,A6,A7,A8,A9,C0,C1,C2,C3,C4,C5,C6,C7,C8,C9,D0] w:=by
 delta iz
 revert h
 generalize (fg K B1)=qc0
 generalize (dh K)=qc1
 exact fun h=>Eq.mp (by kernel_rfl) h
theorem uP {K:KV} {s0 s1 l2 k_3 in4 A0 A1 A2 A3 A4 A5 A6 A7 A8 A9 C0 C1 C2 C3 C4 C5 C6 C7 C8 C9 D0:Value} {w:World}
  (h:K l2 w) :
  dh K [s0,s1,l2,k_3,in4,A0,A1,A2,A3,A4,A5,A6,A7,A8,A9,C0,C1,C2,C3,C4,C5,C6,C7,C8,C9,D0] w:=by
 delta dh
 revert h
 exact fun h=>Eq.mp (by kernel_rfl) h
theorem km {K:KV} {B1:KE} {s0 s1 l2 k_3 in4 A0 A1 A2 A3 A4 A5 A6 A7 A8 A9 C0 C1 C2 C3 C4 C5 C6 C7 C8 C9 D0:Value} {w:World}
  (h:bin Q BinOp.add 3 false true A2 (ci 1) (fun C9=>B1 [s0,s1,l2,k_3,in4,A0,A1,C9,A3,A4,A5,A6,A7,A8,A9,C0,C1,C2,C3,C4,C5,C6,C7,C8,C9,D0]) w) :
  fg K B1 [s0,s1,l2,k_3,in4,A0,A1,A2,A3,A4,A5,A6,A7,A8,A9,C0,C1,C2,C3,C4,C5,C6,C7,C8,C9,D0] w:=by
 delta fg
 revert h
 generalize (dh K)=qc0
 exact fun h=>Eq.mp (by kernel_rfl) h
attribute [irreducible] dh jK fg iz
end Go.Proofs.YtgpfkmdknlcemaaGreatDoor
namespace Go.Proofs.YtgpfkmdknlcemaaGreatDoor
open Go.RowKit
set_option maxRecDepth 100000
theorem vP {K:KV} {n0 A0:Value} {w:World}
  (h:box Q 38 n0 (fun n2=>aa Q 38 n2 0 fun A1=>ld Q 24 A1 fun A2=>ld Q 24 A0 fun A3=>bin Q BinOp.eql 24 false false A2 A3 K) w) :
  Gives Q 102 #[n0,A0] w K:=by
 refine aK Tryz.func102 (by kernel_rfl) ?_
 revert h
 exact fun h=>Eq.mp (by kernel_rfl) h
theorem vQ:bD Q 102:=⟨_,Tryz.func102,by kernel_rfl,by kernel_rfl⟩
theorem yH {K:KV} {s0 id1:Value} {w:World}
  (h:box Q 30 s0 (fun s2=>box Q 24 id1 fun id3=>aa Q 30 s2 3 fun A2=>ld Q 27 A2 fun A3=>call Q 101 #[A3,Value.func (Fn.func 102) #[] #[id3]] K) w) :
  Gives Q 75 #[s0,id1] w K:=by
 refine aK Tryz.func75 (by kernel_rfl) ?_
 revert h
 exact fun h=>Eq.mp (by kernel_rfl) h
theorem yI:bD Q 75:=⟨_,Tryz.func75,by kernel_rfl,by kernel_rfl⟩
def gI (K:KV):KE:=ac Q (cd Tryz.f50 [1,1,1,1,1,1]) (rk Tryz.f50 K) xf (rk Tryz.f50 K)
def lw (K:KV):KE:=ac Q (cd Tryz.f50 [1,1,1,1,1,0,1,0]) (gI K) (xx xf (gI K) 0) (rk Tryz.f50 K)
theorem AN {K:KV} {s0 node1:Value} {w:World}
  (h:box Q 30 s0 (fun s2=>alc Q 135 fun q4=>ld Q 30 s2 fun A4=>call Q 75 #[A4,node1] fun A6=>bin Q BinOp.lss 3 false true A6 (ci 0) fun A8 w=>cond A8 (ld Q 135 q4 (fun A9=>sto Q 135 q4 A9 fun _=>aH Q [(some 135,q4),(none,ci 9)] K) w) (aa Q 30 s2 3 (fun C0=>ld Q 27 C0 fun C1=>af Q 27 C1 A6 fun C3=>aa Q 38 C3 2 fun C4=>ld Q 36 C4 fun C5=>alc Q 36 fun r7=>sto Q 36 r7 C5 fun _=>ld Q 36 r7 fun C7=>call Q 76 #[C7] fun C8=>ext Q C8 0 fun C9=>ext Q C8 1 fun D0=>aa Q 135 q4 0 fun D1=>sto Q 2 D1 C9 fun _=>aa Q 135 q4 1 fun D2=>sto Q 2 D2 D0 fun _=>lw K [s0,node1,s2,undef,q4,ci 0,A6,r7,undef,A4,node1,A6,A6,A8,undef,C0,C1,A6,C3,C4,C5,C8,C7,C8,C9,D0,D1,D2,ci 0,undef,undef,undef,undef,undef,undef,undef,undef,undef,undef,undef]) w)) w) :
  Gives Q 50 #[s0,node1] w K:=by
 refine aK Tryz.func50 (by kernel_rfl) ?_
 revert h
 delta lw gI
 exact fun h=>Eq.mp (by kernel_rfl) h
theorem AP:bD Q 50:=⟨_,Tryz.func50,by kernel_rfl,by kernel_rfl⟩
theorem yJ {K:KV} {s0 node1 s2 node3 q4 e5 k_6 r7 i8 A4 A5 A6 A7 A8 A9 C0 C1 C2 C3 C4 C5 C6 C7 C8 C9 D0 D1 D2 D3 D4 D5 D6 D7 D8 D9 E0 E1 E2 E3 E4:Value} {w:World} (Inv:Value→World→Prop) (μ:Value→World→Nat) (h0:Inv D3 w)
  (hs:∀ (D3':Value) (dd:Nat→Value) (w:World) (m:Nat),Inv D3' w→m=μ D3' w →
  bin Q BinOp.lss 3 false true D3' (ci 6) (fun D4 w=>cond D4 (ld Q 36 r7 (fun D7=>bin Q BinOp.add 3 false true D3' (ci 1) fun D9=>call Q 31 #[D7,D9] fun E0=>aa Q 135 q4 2 fun E1=>af Q 33 E1 D3' fun E2=>sto Q 2 E2 E0 fun _=>bin Q BinOp.add 3 false true D3' (ci 1) fun E3 w=>(Inv E3 w)∧((μ E3 w)<m)) w) (gI K [s0,node1,s2,node3,q4,e5,k_6,r7,dd 8,A4,A5,A6,A7,A8,A9,C0,C1,C2,C3,C4,C5,C6,C7,C8,C9,D0,D1,D2,D3',D4,dd 30,dd 31,dd 32,dd 33,dd 34,dd 35,dd 36,dd 37,dd 38,E4] w)) w) :
  lw K [s0,node1,s2,node3,q4,e5,k_6,r7,i8,A4,A5,A6,A7,A8,A9,C0,C1,C2,C3,C4,C5,C6,C7,C8,C9,D0,D1,D2,D3,D4,D5,D6,D7,D8,D9,E0,E1,E2,E3,E4] w:=by
 refine aB (cd Tryz.f50 [1,1,1,1,1,0,1,0,0]) [8,28,29,30,31,32,33,34,35,36,37,38] (by kernel_rfl) (fun e2 w2=>Inv (gd e2 28) w2) (fun e2 w2=>μ (gd e2 28) w2) h0 ?_
 intro e' w' hI
 have h:=hs (gd e' 28) (fun i=>gd e' i) w' _ hI rfl
 revert h
 generalize (gI K)=qc0
 exact fun h=>Eq.mp (by kernel_rfl) h
theorem yK {K:KV} {s0 node1 s2 node3 q4 e5 k_6 r7 i8 A4 A5 A6 A7 A8 A9 C0 C1 C2 C3 C4 C5 C6 C7 C8 C9 D0 D1 D2 D3 D4 D5 D6 D7 D8 D9 E0 E1 E2 E3 E4:Value} {w:World}
  (h:ld Q 135 q4 (fun E4=>sto Q 135 q4 E4 fun _=>aH Q [(some 135,q4),(none,ci 0)] K) w) :
  gI K [s0,node1,s2,node3,q4,e5,k_6,r7,i8,A4,A5,A6,A7,A8,A9,C0,C1,C2,C3,C4,C5,C6,C7,C8,C9,D0,D1,D2,D3,D4,D5,D6,D7,D8,D9,E0,E1,E2,E3,E4] w:=by
 delta gI
 revert h
 exact fun h=>Eq.mp (by kernel_rfl) h
attribute [irreducible] gI lw
end Go.Proofs.YtgpfkmdknlcemaaGreatDoor
namespace Go.Proofs.YtgpfkmdknlcemaaGreatDoor
open Go.RowKit
set_option maxRecDepth 100000
def aV (K:KV):KE:=ac Q (cd Tryz.f101 [1,1]) (rk Tryz.f101 K) xf (rk Tryz.f101 K)
def dg (K:KV):KE:=ac Q (cd Tryz.f101 [1,0,1,0]) (aV K) (xx xf (aV K) 0) (rk Tryz.f101 K)
theorem jl {K:KV} {s0 f1:Value} {w:World}
  (h:blt Q Builtin.len #[27] 3 #[false] #[s0] (fun A2=>dg K [s0,f1,undef,undef,ci 0,undef,s0,A2,ci 0,undef,undef,undef,undef,undef,undef,undef,undef,undef,undef]) w) :
  Gives Q 101 #[s0,f1] w K:=by
 refine aK Tryz.func101 (by kernel_rfl) ?_
 revert h
 delta dg aV
 exact fun h=>Eq.mp (by kernel_rfl) h
theorem jm:bD Q 101:=⟨_,Tryz.func101,by kernel_rfl,by kernel_rfl⟩
theorem j6 {K:KV} {s0 f1 s2 f3 A0 i5 A1 A2 A3 A4 A5 A6 A7 A8 A9 C0 C1 C2 C3:Value} {w:World} (Inv:Value→World→Prop) (μ:Value→World→Nat) (h0:Inv A3 w)
  (hs:∀ (A3':Value) (dd:Nat→Value) (w:World) (m:Nat),Inv A3' w→m=μ A3' w →
  bin Q BinOp.lss 3 false false A3' A2 (fun A4 w=>cond A4 (af Q 27 s0 A3' (fun A9=>ld Q 38 A9 fun C0=>bl Q f1 #[C0] fun C1 w=>cond C1 (K A3' w) (bin Q BinOp.add 3 false true A3' (ci 1) (fun C3 w=>(Inv C3 w)∧((μ C3 w)<m)) w)) w) (aV K [s0,f1,s2,f3,dd 4,dd 5,A1,A2,A3',A4,dd 10,dd 11,dd 12,dd 13,dd 14,dd 15,dd 16,dd 17,dd 18] w)) w) :
  dg K [s0,f1,s2,f3,A0,i5,A1,A2,A3,A4,A5,A6,A7,A8,A9,C0,C1,C2,C3] w:=by
 refine aB (cd Tryz.f101 [1,0,1,0,0]) [4,5,8,9,10,11,12,13,14,15,16,17,18] (by kernel_rfl) (fun e2 w2=>Inv (gd e2 8) w2) (fun e2 w2=>μ (gd e2 8) w2) h0 ?_
 intro e' w' hI
 have h:=hs (gd e' 8) (fun i=>gd e' i) w' _ hI rfl
 revert h
 generalize (aV K)=qc0
 exact fun h=>Eq.mp (by kernel_rfl) h
theorem j9 {K:KV} {s0 f1 s2 f3 A0 i5 A1 A2 A3 A4 A5 A6 A7 A8 A9 C0 C1 C2 C3:Value} {w:World}
  (h:K (ci (-1)) w) :
  aV K [s0,f1,s2,f3,A0,i5,A1,A2,A3,A4,A5,A6,A7,A8,A9,C0,C1,C2,C3] w:=by
 delta aV
 revert h
 exact fun h=>Eq.mp (by kernel_rfl) h
attribute [irreducible] aV dg
end Go.Proofs.YtgpfkmdknlcemaaGreatDoor
namespace Go.Proofs.YtgpfkmdknlcemaaGreatDoor
set_option maxRecDepth 100000
open Go.RowKit
def ndC (x:ND):List Value:=.int .u64 x.id::.int .u64 x.par::x.A.map iv
theorem xg {x:ND} (h:x.A.length=54):(ndC x).length=56:=by simp [ndC,h]
structure NR (w:World) (a:Option Addr) (n c:Nat) (L:List ND):Prop where
 len:L.length=n
 cap:n≤c
 some_:0 < n→∃ b o,a=some ⟨b,o,none⟩
 A54:∀ x ∈ L,x.A.length=54
 cell:∀ (i:Nat) (x:ND),L[i]? = some x→∀ b o,a=some ⟨b,o,none⟩→∀ (j:Nat) (u:Value),(ndC x)[j]? = some u→w.cell? ⟨b,o+i * 56+j,none⟩=some u
theorem NR.bel {w w':World} {B:Nat} {a:Option Addr} {n c:Nat} {L:List ND} (h:NR w a n c L) (hb:Below B w w') (hB:w.heap.size≤B):NR w' a n c L :=
 ⟨h.len,h.cap,h.some_,h.A54,fun i x hx b o ha j u hu=>by
  have:=h.cell i x hx b o ha j u hu
  have hlt:=World.block_lt_of_cell? w _ this
  rw [hb.cell (p:=⟨b,o+i * 56+j,none⟩) (Nat.lt_of_lt_of_le hlt hB)]; exact this⟩
structure STA where
 I:List Bool
 L:List Bool
 V:List Int
 nodes:List ND
 na:Option Addr
 nc:Nat
 gv:Value
def saC (s:STA):List Value:=s.I.map .bool++s.L.map .bool++s.V.map (.int .u64)++[.slice s.na s.nodes.length s.nc,s.gv]
structure SK (w:World) (s:STA):Prop where
 i6:s.I.length=6
 l6:s.L.length=6
 v6:s.V.length=6
 nr:NR w s.na s.nodes.length s.nc s.nodes
 few:s.nodes.length≤1000000
 gv:s.gv.oneCell'=true
theorem SK.bel {w w':World} {B:Nat} {s:STA} (h:SK w s) (hb:Below B w w') (hB:w.heap.size≤B):SK w' s:=⟨h.i6,h.l6,h.v6,h.nr.bel hb hB,h.few,h.gv⟩
theorem SK.len {w:World} {s:STA} (h:SK w s):(saC s).length=20:=by simp [saC,h.i6,h.l6,h.v6]
theorem Jw {w:World} {s:STA} (h:SK w s) {k:Nat} (hk:k < 6):(saC s)[k]? = some (.bool (s.I.getD k false)):=by
 have:=h.i6
 unfold saC
 rw [List.append_assoc,List.append_assoc,List.getElem?_append_left (by simp; omega),List.getElem?_map,List.getElem?_eq_getElem (by omega)]
 simp [List.getD,show k < s.I.length by omega]
theorem GA {w:World} {s:STA} (h:SK w s) {k:Nat} (hk:k < 6):(saC s)[6+k]? = some (.bool (s.L.getD k false)):=by
 have:=h.i6
 have:=h.l6
 unfold saC
 rw [List.append_assoc,List.append_assoc,List.getElem?_append_right (by simp; omega),List.getElem?_append_left (by simp; omega),List.getElem?_map]
 rw [show 6+k - (s.I.map Value.bool).length=k by simp; omega,List.getElem?_eq_getElem (by omega)]
 simp [List.getD,show k < s.L.length by omega]
theorem jZ {w:World} {s:STA} (h:SK w s):(saC s)[18]? = some (.slice s.na s.nodes.length s.nc):=by
 have:=h.i6
 have:=h.l6
 have:=h.v6
 unfold saC
 rw [List.getElem?_append_right (by simp; omega)]
 rw [show 18 - (s.I.map Value.bool++s.L.map Value.bool++s.V.map (Value.int .u64)).length=0 by simp; omega]
 rfl
theorem xh {L:List ND} {id:Int} {k:Nat} {x:ND} (hx:L[k]? = some x) (hid:x.id=id) (hb:∀ j y,j < k→L[j]? = some y→y.id≠id):posN L id=k:=by
 obtain ⟨hk,rfl⟩:=List.getElem?_eq_some_iff.1 hx
 unfold posN
 rw [List.findIdx_eq hk]
 refine ⟨by simp [hid],fun j hj => ?_⟩
 have:=hb j _ hj (List.getElem?_eq_getElem (by omega))
 simpa using this
theorem rX {L:List ND} {id:Int} (hb:∀ (j:Nat) y,L[j]? = some y→y.id≠id) : ¬ posN L id < L.length:=by
 intro h
 unfold posN at h
 have:=List.findIdx_getElem (w:=h)
 exact hb _ _ (List.getElem?_eq_getElem h) (by simpa using this)
def gz (A:List Int):Int × Int:=match jx A with | true=>((gL A).sum,((List.range 6).map fun k=>nA A (6+k) - nA A (12+k)).sum) | false=>(0,0)
def quA (A:List Int):List Value:=iv (gz A).1::iv (gz A).2::(List.range 6).map fun k=>iv (jR A k)
theorem kX {w:World} {K:KV} {b o:Nat} (h:K (.pointer (some ⟨b,o+0,none⟩)) w):aa Tryz.prog 30 (.pointer (some ⟨b,o,none⟩)) 0 K w:=aq (by kernel_rfl) h
theorem pX {w:World} {K:KV} {b o:Nat} (h:K (.pointer (some ⟨b,o+6,none⟩)) w):aa Tryz.prog 30 (.pointer (some ⟨b,o,none⟩)) 1 K w:=aq (by kernel_rfl) h
theorem iK {w:World} {K:KV} {b o:Nat} (h:K (.pointer (some ⟨b,o+12,none⟩)) w):aa Tryz.prog 30 (.pointer (some ⟨b,o,none⟩)) 2 K w:=aq (by kernel_rfl) h
theorem aU {w:World} {K:KV} {b o:Nat} (h:K (.pointer (some ⟨b,o+18,none⟩)) w):aa Tryz.prog 30 (.pointer (some ⟨b,o,none⟩)) 3 K w:=aq (by kernel_rfl) h
theorem dA {w:World} {K:KV} {b o:Nat} (h:K (.pointer (some ⟨b,o+19,none⟩)) w):aa Tryz.prog 30 (.pointer (some ⟨b,o,none⟩)) 4 K w:=aq (by kernel_rfl) h
theorem gC {w:World} {K:KV} {b o:Nat} (h:K (.pointer (some ⟨b,o+0,none⟩)) w):aa Tryz.prog 38 (.pointer (some ⟨b,o,none⟩)) 0 K w:=aq (by kernel_rfl) h
theorem fP {w:World} {K:KV} {b o:Nat} (h:K (.pointer (some ⟨b,o+2,none⟩)) w):aa Tryz.prog 38 (.pointer (some ⟨b,o,none⟩)) 2 K w:=aq (by kernel_rfl) h
theorem zy {w:World} {K:KV} {b o:Nat} (h:K (.pointer (some ⟨b,o+0,none⟩)) w):aa Tryz.prog 135 (.pointer (some ⟨b,o,none⟩)) 0 K w:=aq (by kernel_rfl) h
theorem zz {w:World} {K:KV} {b o:Nat} (h:K (.pointer (some ⟨b,o+1,none⟩)) w):aa Tryz.prog 135 (.pointer (some ⟨b,o,none⟩)) 1 K w:=aq (by kernel_rfl) h
theorem pY {w:World} {K:KV} {b o:Nat} (h:K (.pointer (some ⟨b,o+2,none⟩)) w):aa Tryz.prog 135 (.pointer (some ⟨b,o,none⟩)) 2 K w:=aq (by kernel_rfl) h
attribute [local irreducible] bin un conv call bl blt slc aa fld af idx lkp bL bP eSt rng nxt ent ext alc box bld aJ ld sto aj bm mkS ifc pick rdy wts au sti cond aH Gives ac aW bA cOp
section
variable {w:World} {K:KV}
theorem Ix {a:Option Addr} {n c i b o:Nat} {L:List ND} {x:ND} (h:NR w a n c L) (ha:a=some ⟨b,o,none⟩) (hx:L[i]? = some x) (hK:K (.agg (ndC x).toArray) w):ld Tryz.prog 38 (.pointer (some ⟨b,o+i * 56,none⟩)) K w :=
 pW (run_loadVar_mid w b (o+i * 56) 38 (ndC x) _ (fun j v hj=>h.cell i x hx b o ha j v hj) Tryz.underlying38 rfl (by rw [xg (h.A54 x (List.mem_of_getElem? hx))]; kernel_rfl)) hK
theorem Jx {x:ND} {g:Nat} {id:Int} (hA:x.A.length=54) (hg:blk w g 24 [.int .u64 id]) (h:∀ w',Below w.heap.size w w'→K (.bool (decide (x.id=id))) w') :
  call Tryz.prog 102 #[.agg (ndC x).toArray,.pointer (some ⟨g,0,none⟩)] K w:=by
 refine aE vQ (vP ?_)
 refine bh fun w1 hb b1 s1 => ?_
 have hb:blk w1 w.heap.size 38 (ndC x):=by simpa [Value.cells] using hb
 refine gC <|ld1 (v:=.int .u64 x.id) (fun _=>by kernel_rfl) hb rfl <|ld1 (v:=.int .u64 id) (fun _=>by kernel_rfl) (ae b1 hg hg.lt) rfl <|aN ?_
 exact h w1 b1
theorem Jy {a:Option Addr} {n c g:Nat} {L:List ND} {id:Int} (hr:NR w a n c L) (hn:n≤1000000) (hg:blk w g 24 [.int .u64 id]) (h:∀ w',Below w.heap.size w w'→K (.int .i64 (fdN L id)) w') :
  call Tryz.prog 101 #[.slice a n c,.func (.func 102) #[] #[.pointer (some ⟨g,0,none⟩)]] K w:=by
 refine aE jm (jl ?_)
 refine aI Tryz.underlying27 <|j6 (Inv:=fun i wr => ∃ k:Nat,i=.int .i64 (k:Nat)∧k≤n∧Below w.heap.size w wr∧∀ j y,j < k→L[j]? = some y→y.id≠id) (μ:=fun i _=>n - (intOf i).toNat) ⟨0,rfl,by omega,Below.refl _ _,fun j y hj=>by omega⟩ ?_
 rintro _ dd w2 m ⟨k,rfl,hk,b2,hall⟩ hm
 have hr2:=hr.bel b2 (Nat.le_refl _)
 refine aD ?_
 by_cases hkn:k < n
 ·refine ai (by omega) ?_
  obtain ⟨b,o,hbo⟩:=hr.some_ (by omega)
  have hx:L[k]? = some (L[k]'(by rw [hr.len]; exact hkn)):=List.getElem?_eq_getElem _
  generalize L[k]'(by rw [hr.len]; exact hkn)=x at hx
  rw [hbo]
  refine bJ Tryz.underlying27 (s:=56) (fun _=>by kernel_rfl) (by omega) (by omega) ?_
  rw [Int.toNat_natCast]
  refine Ix hr2 hbo hx ?_
  refine Fl rfl (Jx (hr.A54 x (List.mem_of_getElem? hx)) (ae b2 hg hg.lt) fun w3 b3 => ?_)
  have hB:Below w.heap.size w w3:=b2.trans (b3.mono b2.size)
  by_cases hid:x.id=id
  ·refine ai hid ?_
   have:=h w3 hB
   have hp:=xh hx hid (fun j y hj hy=>hall j y hj hy)
   unfold fdN at this
   rw [hp,if_pos (by rw [hr.len]; exact hkn)] at this
   exact this
  ·refine ag hid <|aF (by omega) (by omega) ?_
   refine ⟨⟨k+1,by simp,by omega,hB,fun j y hj hy => ?_⟩,by rw [hm]; simp [intOf]; omega⟩
   by_cases hjk:j=k
   ·subst hjk; rw [hx] at hy; cases hy; exact hid
   ·exact hall j y (by omega) hy
 ·refine ag (by omega) ?_
  obtain rfl:k=n:=by omega
  refine j9 ?_
  have:=h w2 b2
  have hp:=rX (L:=L) (id:=id) (fun j y hy=>hall j y (by have:=(List.getElem?_eq_some_iff.1 hy).1; rw [hr.len] at this; exact this) hy)
  unfold fdN at this
  rw [if_neg hp] at this
  exact this
theorem Iy {s:STA} {id:Int} (hs:SK w s) (h:∀ w',Below w.heap.size w w'→K (.int .i64 (fdN s.nodes id)) w'):call Tryz.prog 75 #[.agg (saC s).toArray,.int .u64 id] K w:=by
 refine aE yI (yH ?_)
 refine bh fun w1 hb b1 s1 => ?_
 have hb:blk w1 w.heap.size 30 (saC s):=by simpa [Value.cells] using hb
 refine bh fun w2 hg b2 s2 => ?_
 have hg:blk w2 w1.heap.size 24 [.int .u64 id]:=hg
 refine aU <|ld1 (v:=.slice s.na s.nodes.length s.nc) (fun _=>by kernel_rfl) (ae b2 hb hb.lt) (jZ hs) ?_
 have b12:Below w.heap.size w w2:=b1.trans (b2.mono (by omega))
 refine Jy (hs.nr.bel b12 (Nat.le_refl _)) hs.few hg fun w3 b3 => ?_
 exact h w3 (b12.trans (b3.mono (by omega)))
end
end Go.Proofs.YtgpfkmdknlcemaaGreatDoor
namespace Go.Proofs.YtgpfkmdknlcemaaGreatDoor
set_option maxRecDepth 100000
open Go.RowKit
theorem uQ {A:List Int} (h:jx A=true):∀ k,k < 6→0≤nA A k∧nA A k≤MXA∧0≤nA A (12+k)∧nA A (12+k)≤nA A (6+k)∧nA A (6+k)≤MXA:=by
 intro k hk
 rw [xc,Bool.and_eq_true] at h
 have:=List.all_eq_true.1 h.1 k (by simpa using hk)
 unfold okM at this
 simp only [Bool.and_eq_true,decide_eq_true_eq] at this
 obtain ⟨h1,h2,h3,_⟩:=xr.1 this.1.1.1
 have h1:=jd.1 h1
 have h2:=jd.1 h2
 have h3:=jd.1 h3
 exact ⟨h1.1,h1.2,h3.1,this.1.2,h2.2⟩
def sG (A:List Int) (k:Nat):Int:=((List.range k).map fun k=>nA A k).sum
def sU (A:List Int) (k:Nat):Int:=((List.range k).map fun k=>nA A (6+k) - nA A (12+k)).sum
theorem ph (A:List Int) (k:Nat):sG A (k+1)=sG A k+nA A k:=by simp [sG,List.range_succ]
theorem xi (A:List Int) (k:Nat):sU A (k+1)=sU A k+(nA A (6+k) - nA A (12+k)):=by simp [sU,List.range_succ]
theorem sGU {A:List Int} (h:jx A=true):∀ k,k≤6→0≤sG A k∧sG A k≤k * MXA∧0≤sU A k∧sU A k≤k * MXA
 | 0,_=>by simp [sG,sU]
 | k+1,hk=>by
  have h1:=sGU h k (by omega)
  have h2:=uQ h k (by omega)
  rw [ph,xi]
  have h3:(((k+1:Nat):Int)) * MXA=(k:Int) * MXA+MXA:=by simp only [MXA]; omega
  rw [h3]
  omega
def qz:List Value:=List.replicate 8 (iv 0)
def ofN (L:List ND) (id:Int):List Value × Int:=match L[posN L id]? with | some x=>(quA x.A,0) | none=>(qz,9)
def nL (A:List Int) (k:Nat):List Value:=(List.range 6).map fun j=>if j < k then iv (jR A j) else iv 0
theorem zA {A:List Int} {k:Nat} (hk:k < 6) {x y:Value}:(x::y::nL A k).set (2+k) (iv (jR A k))=x::y::nL A (k+1):=by
 match k,hk with
 | 0,_=>rfl
 | 1,_=>rfl
 | 2,_=>rfl
 | 3,_=>rfl
 | 4,_=>rfl
 | 5,_=>rfl
theorem kY (A:List Int) (k:Nat):(nL A k).length=6:=by simp [nL]
attribute [local irreducible] bin un conv call bl blt slc aa fld af idx lkp bL bP eSt rng nxt ent ext alc box bld aJ ld sto aj bm mkS ifc pick rdy wts au sti cond aH Gives ac aW bA cOp
section
variable {w:World} {K:KV}
theorem Hp {A:List Int} (hA:A.length=54) (h:∀ w',Below w.heap.size w w'→K (.tuple #[iv (gz A).1,iv (gz A).2]) w'):call Tryz.prog 76 #[.agg (A.map iv).toArray] K w:=by
 refine aE wZ (wY ?_)
 refine bh fun w1 hb b1 s1 => ?_
 have hb:blk w1 w.heap.size 36 (A.map iv):=by simpa [Value.cells] using hb
 have hR:RtA w1 w.heap.size 0 36 (A.map iv) A:=⟨hb,by rw [List.drop_zero,List.take_of_length_le (by simp [hA])],hA⟩
 refine ldA (n:=54) (vs:=A.map iv) Tryz.underlying36 rfl (by kernel_rfl) hb (by rw [List.drop_zero,List.take_of_length_le (by simp [hA])]) (by simp [hA]) <|Dx hA fun w2 b2 => ?_
 have hR2:=hR.below b2 hb.lt
 refine cU ?_
 have B2:Below w.heap.size w w2:=b1.trans (b2.mono (by omega))
 cases hm:jx A with
 | false =>
  refine aR ?_
  have:=h w2 B2
  unfold gz at this
  rw [hm] at this
  exact this
 | true =>
  refine cW <|uL (Inv:=fun l u i wr => ∃ k:Nat,l=iv (sG A k)∧u=iv (sU A k)∧i=.int .i64 (k:Nat)∧k≤6∧Below w2.heap.size w2 wr) (μ:=fun _ _ i _=>6 - (intOf i).toNat) ⟨0,rfl,rfl,rfl,by omega,Below.refl _ _⟩ ?_
  rintro _ _ _ dd w3 m ⟨k,rfl,rfl,rfl,hk6,b3⟩ hmm
  have hR3:=hR2.below b3 hR2.bk.lt
  refine aD ?_
  by_cases hk:k < 6
  ·refine ai (by omega) ?_
   have hn:=uQ hm k hk
   have hg:=sGU hm k hk6
   simp only [MXA] at hn hg
   refine aq (off:=0) (by kernel_rfl) <|aT Tryz.underlying33 (s:=1) (fun _=>by kernel_rfl) (by omega) (by omega) <|ld1 (v:=iv (nA A k)) (fun _=>by kernel_rfl) hR3.bk (by rw [← hR3.get (i:=k) (by omega)]; congr 1; simp) ?_
   unfold iv
   refine aF (by omega) (by omega) ?_
   have hR4:RtA w3.drew w.heap.size 0 36 (A.map iv) A:=⟨hR3.bk.drew,hR3.cut,hR3.len⟩
   have b4:Below w2.heap.size w2 w3.drew:=b3.drew
   generalize w3.drew=w4 at *
   refine a8 (fun _=>aq (off:=6) (by kernel_rfl)) <|a8 (fun _=>aT Tryz.underlying33 (s:=1) (fun _=>by kernel_rfl) (by omega) (by omega)) <|a8 (v:=iv (nA A (6+k))) (fun _=>ld1 (fun _=>by kernel_rfl) hR4.bk (by rw [← hR4.get (i:=6+k) (by omega)]; congr 1; simp)) <|a8 (fun _=>aq (off:=12) (by kernel_rfl)) <|a8 (fun _=>aT Tryz.underlying33 (s:=1) (fun _=>by kernel_rfl) (by omega) (by omega)) <|a8 (v:=iv (nA A (12+k))) (fun _=>ld1 (fun _=>by kernel_rfl) hR4.bk (by rw [← hR4.get (i:=12+k) (by omega)]; congr 1; simp)) ?_
   unfold iv
   refine a8 (fun _=>bo (by omega) (by omega)) <|a8 (fun _=>aF (by omega) (by omega)) <|aF (by omega) (by omega) ?_
   exact ⟨⟨k+1,by rw [ph],by rw [xi],by simp,by omega,b4⟩,by rw [hmm]; simp [intOf]; omega⟩
  ·refine ag (by omega) ?_
   obtain rfl:k=6:=by omega
   refine uM ?_
   have:=h w3 (B2.trans (b3.mono (by have:=B2.size; omega)))
   unfold gz at this
   rw [hm] at this
   exact this
theorem Iz {q:Nat} {e:Int} {cs:List Value} (hq:blk w q 135 cs) (hl:cs.length=8) (h1:∀ v ∈ cs,v.oneCell'=true) (h:∀ w',Below q w w'→K (.tuple #[.agg cs.toArray,.int .i64 e]) w') :
  ld Tryz.prog 135 (.pointer (some ⟨q,0,none⟩)) (fun t w=>sto Tryz.prog 135 (.pointer (some ⟨q,0,none⟩)) t (fun _t w=>aH Tryz.prog [(some 135,.pointer (some ⟨q,0,none⟩)),(none,.int .i64 e)] K w) w) w:=by
 refine ldA (n:=8) (vs:=cs) Tryz.underlying135 rfl (by kernel_rfl) hq (by rw [List.drop_zero,List.take_of_length_le (by omega)]) hl <|eM (n:=8) (vs:=cs) (by kernel_rfl) hl hq (by omega) h1 fun w1 hq1 o1 => ?_
 have hq1:blk w1 q 135 cs:=by
  rw [List.take_zero,List.nil_append,List.drop_of_length_le (by omega),List.append_nil] at hq1
  exact hq1
 have hr:=run_loadVar_mid (P:=Tryz.prog) w1 q 0 135 cs _ (fun j v hj=>by rw [hq1.cell,Nat.zero_add]; exact hj) Tryz.underlying135 rfl (by rw [hl]; kernel_rfl)
 have e:(dD [(some 135,.pointer (some ⟨q,0,none⟩)),(none,.int .i64 e)]).run Tryz.prog w1=.ok (.tuple #[.agg cs.toArray,.int .i64 e]) w1:=by
  simp [dD,asAddr,Sem.run_bind,hr]
 unfold aH
 rw [e]
 exact ⟨rfl,h w1 o1.below⟩
set_option maxHeartbeats 2000000 in
theorem Jz {s:STA} {id:Int} (hs:SK w s) (h:∀ w',Below w.heap.size w w'→K (.tuple #[.agg (ofN s.nodes id).1.toArray,.int .i64 (ofN s.nodes id).2]) w'):call Tryz.prog 50 #[.agg (saC s).toArray,.int .u64 id] K w:=by
 refine aE AP (AN ?_)
 refine bh fun w1 hb b1 s1 => ?_
 have hb:blk w1 w.heap.size 30 (saC s):=by simpa [Value.cells] using hb
 refine cH (z:=.agg qz.toArray) (by kernel_rfl) fun w2 hq b2 s2 => ?_
 have hq:blk w2 w1.heap.size 135 qz:=hq
 have hb2:=ae b2 hb hb.lt
 have B2:Below w.heap.size w w2:=b1.trans (b2.mono (by omega))
 refine ldA (n:=20) (vs:=saC s) Tryz.underlying30 rfl (by kernel_rfl) hb2 (by rw [List.drop_zero,List.take_of_length_le (by rw [hs.len]; omega)]) hs.len ?_
 refine Iy (hs.bel B2 (Nat.le_refl _)) fun w3 b3 => ?_
 have hq3:=ae b3 hq hq.lt
 have hb3:=ae b3 hb2 hb2.lt
 have B3:Below w.heap.size w w3:=B2.trans (b3.mono B2.size)
 have hS3:=hs.bel B3 (Nat.le_refl _)
 have hsz3:=b3.size
 refine aD ?_
 by_cases hp:posN s.nodes id < s.nodes.length
 ·rw [show fdN s.nodes id=((posN s.nodes id:Nat):Int) from if_pos hp]
  refine ag (by omega) ?_
  have hx:s.nodes[posN s.nodes id]? = some (s.nodes[posN s.nodes id]'hp):=List.getElem?_eq_getElem hp
  generalize s.nodes[posN s.nodes id]'hp=x at hx
  have hof:ofN s.nodes id=(quA x.A,0):=by unfold ofN; rw [hx]
  rw [hof] at h
  have hA:=hs.nr.A54 x (List.mem_of_getElem? hx)
  obtain ⟨b,o,hbo⟩:=hs.nr.some_ (by omega)
  refine aU ?_
  refine ld1 (v:=.slice s.na s.nodes.length s.nc) (fun _=>by kernel_rfl) hb3 (jZ hs) ?_
  rw [hbo]
  refine bJ Tryz.underlying27 (s:=56) (fun _=>by kernel_rfl) (by omega) (by omega) ?_
  rw [Int.toNat_natCast]
  refine fP ?_
  refine pW (run_loadVar_mid w3 b (o+posN s.nodes id * 56+2) 36 (x.A.map iv) _ (fun j v hj=>by
   have:=hS3.nr.cell _ x hx b o hbo (2+j) v (by unfold ndC; rw [show 2+j=j+1+1 by omega]; exact hj)
   rw [show o+posN s.nodes id * 56+2+j=o+posN s.nodes id * 56+(2+j) by omega]; exact this) Tryz.underlying36 rfl (by rw [List.length_map,hA]; kernel_rfl)) ?_
  refine cH (z:=.agg (List.replicate 54 (iv 0)).toArray) (by kernel_rfl) fun w4 hr b4 s4 => ?_
  have hr:blk w4 w3.heap.size 36 (List.replicate 54 (iv 0)):=hr
  refine eM (n:=54) (vs:=x.A.map iv) (by kernel_rfl) (by simp [hA]) hr (by simp) (by simp [iv,Value.oneCell']) fun w5 hr5 o5 => ?_
  have hr5:blk w5 w3.heap.size 36 (x.A.map iv):=by
   rw [List.take_zero,List.nil_append,List.drop_of_length_le (by simp),List.append_nil] at hr5
   exact hr5
  have b45:Below w3.heap.size w3 w5:=b4.trans (o5.below)
  have hq5:=ae b45 hq3 (by omega)
  have cutA:((x.A.map iv).drop 0).take 54=x.A.map iv:=by rw [List.drop_zero,List.take_of_length_le (by simp [hA])]
  refine ldA (n:=54) (vs:=x.A.map iv) Tryz.underlying36 rfl (by kernel_rfl) hr5 cutA (by simp [hA]) ?_
  refine Hp hA fun w6 b6 => ?_
  refine fy ?_
  refine fz ?_
  have hq6:=ae b6 hq5 hq5.lt
  have hr6:=ae b6 hr5 hr5.lt
  have b46:Below w3.heap.size w3 w6:=b45.trans (b6.mono b45.size)
  refine zy ?_
  refine eD (fun _=>by kernel_rfl) hq6 (by simp [qz]) rfl fun w7 hq7 o7 => ?_
  refine zz ?_
  refine eD (fun _=>by kernel_rfl) hq7 (by simp [qz]) rfl fun w8 hq8 o8 => ?_
  have hr8:=o8.blk (o7.blk hr6 (by omega)) (by omega)
  have hq8:blk w8 w1.heap.size 135 (iv (gz x.A).1::iv (gz x.A).2::nL x.A 0):=hq8
  have b38:Below w1.heap.size w3 w8:=((b46.mono (by omega)).trans o7.below).trans o8.below
  refine yJ (Inv:=fun i wr => ∃ k:Nat,i=.int .i64 (k:Nat)∧k≤6∧blk wr w1.heap.size 135 (iv (gz x.A).1::iv (gz x.A).2::nL x.A k)∧blk wr w3.heap.size 36 (x.A.map iv)∧Below w1.heap.size w3 wr) (μ:=fun i _=>6 - (intOf i).toNat)
   ⟨0,rfl,by omega,hq8,hr8,b38⟩ ?_
  rintro _ dd w9 m ⟨k,rfl,hk6,hq9,hr9,b9⟩ hmm
  have hsz9:=b9.size
  refine aD ?_
  by_cases hk:k < 6
  ·refine ai (by omega) ?_
   refine ldA (n:=54) (vs:=x.A.map iv) Tryz.underlying36 rfl (by kernel_rfl) hr9 cutA (by simp [hA]) ?_
   refine aF (by omega) (by omega) ?_
   refine Fu hA fun w10 b10 => ?_
   have hq10:=ae b10 hq9 hq9.lt
   have hr10:=ae b10 hr9 hr9.lt
   rw [show f6 ((k:Int)+1)=true by simp [f6]; omega,if_pos rfl,show ((k:Int)+1 - 1).toNat=k by omega]
   refine pY ?_
   refine aT Tryz.underlying33 (s:=1) (fun _=>by kernel_rfl) (by omega) (by omega) ?_
   refine eD (fun _=>by kernel_rfl) hq10 (by simp [kY]; omega) rfl fun w11 hq11 o11 => ?_
   refine aF (by omega) (by omega) ?_
   refine ⟨⟨k+1,by simp,by omega, ?_,o11.blk hr10 (by omega),(b9.trans (b10.mono (by omega))).trans o11.below⟩,by rw [hmm]; simp [intOf]; omega⟩
   rw [show 0+2+(k:Int).toNat * 1=2+k by omega,zA hk] at hq11
   exact hq11
  ·refine ag (by omega) ?_
   obtain rfl:k=6:=by omega
   refine yK ?_
   refine Iz hq9 (by simp [kY]) (by simp [iv,nL,Value.oneCell',List.range,List.range.loop]) fun w12 b12 => ?_
   exact h w12 ((B3.trans (b9.mono (by omega))).trans (b12.mono (by omega)))
 ·rw [show fdN s.nodes id = -1 from if_neg hp]
  refine ai (by omega) ?_
  have hof:ofN s.nodes id=(qz,9):=by unfold ofN; rw [List.getElem?_eq_none (by omega)]
  rw [hof] at h
  refine Iz hq3 rfl (by simp [qz,iv,Value.oneCell']) fun w4 b4 => ?_
  exact h w4 (B3.trans (b4.mono (by omega)))
end
end Go.Proofs.YtgpfkmdknlcemaaGreatDoor
