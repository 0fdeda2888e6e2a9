import Derived.WalkKit
import Derived.WalkSpells
import Derived.WalkLawsBesides
import Derived.KernelRfl
import Derived.Still
import Derived.StillTail
import Derived.OrdersHeld
import Derived.RegionTactic
namespace Go.Proofs.YtgpfkmdknlcemaaGreatDoor
set_option maxRecDepth 100000
open Go.RowKit
def kZ (l:List UInt8):ByteArray:=⟨l.toArray⟩
abbrev Env:=List Value
abbrev KV:=Value→World→Prop
abbrev KE:=Env→World→Prop
def gd (e:Env) (t:Nat):Value:=e.getD t undef
def ev (e:Env):Operand→Value
 | .tmp t=>gd e t
 | .const v=>v
 | .global g => .pointer (some ⟨g,0,none⟩)
 | .func f => .func (.func f) #[] #[]
def pt (e:Env) (d:Option Tmp) (v:Value):Env:=match d with | some d=>e.set d v | none=>e
def Gives (P:Program) (f:FuncId) (args:Array Value) (w:World) (K:KV):Prop :=
 Calls P f args w fun e w' => ∃ v,e=.returned v∧K v w'
theorem Gives.mono {P:Program} {f:FuncId} {args:Array Value} {w:World} {K K':KV} (h:Gives P f args w K) (hk:∀ v w',K v w'→K' v w'):Gives P f args w K' :=
 Calls.mono h fun _ _ ⟨v,he,hv⟩=>⟨v,he,hk v _ hv⟩
def okV (P:Program) (s:Sem Value) (K:KV) (w:World):Prop:=match s.run P w with | .ok v w' => K v w' | .halt _ _=>False
def okU (P:Program) (s:Sem Unit) (K:KV) (w:World):Prop:=match s.run P w with | .ok _ w' => K undef w' | .halt _ _=>False
theorem Fv {P:Program} {s:Sem Value} {K K':KV} {w:World} (hk:∀ v w',K v w'→K' v w') (h:okV P s K w):okV P s K' w:=by
 unfold okV at *
 split at h
 ·exact hk _ _ h
 ·exact h.elim
theorem Fw {P:Program} {s:Sem Unit} {K K':KV} {w:World} (hk:∀ v w',K v w'→K' v w') (h:okU P s K w):okU P s K' w:=by
 unfold okU at *
 split at h
 ·exact hk _ _ h
 ·exact h.elim
theorem bF {P:Program} {s:Sem Value} {K:KV} {w w':World} {v:Value} (h:s.run P w=.ok v w') (hk:K v w'):okV P s K w:=by
 unfold okV; rw [h]; exact hk
theorem vR {P:Program} {s:Sem Unit} {K:KV} {w w':World} {u:Unit} (h:s.run P w=.ok u w') (hk:K undef w'):okU P s K w:=by
 unfold okU; rw [h]; exact hk
def isC:Operand→Bool | .const _=>true | _=>false
def IA (c:Bool) (v:Value):Operand:=match c with | true => .const v | false => .tmp 0
def eqG (op:BinOp) (t:TypeId) (cx cy:Bool) (a b:Value):Sem Unit:=eqGuard op t (IA cx a) (IA cy b) a b
theorem Dy (op:BinOp) (t:TypeId) (x y:Operand) (a b:Value):eqGuard op t x y a b=eqG op t (isC x) (isC y) a b:=by
 unfold eqG eqGuard
 cases x <;> cases y <;> rfl
section ops
variable (P:Program)
def bin (op:BinOp) (t:TypeId) (cx cy:Bool) (x y:Value) (K:KV) (w:World):Prop:=okV P (do eqG op t cx cy x y; binOp op t x y) K w
def un (op:UnOp) (x:Value) (K:KV) (w:World):Prop:=okV P (Op.unary op x) K w
def conv (s d:TypeId) (x:Value) (K:KV) (w:World):Prop:=okV P (convert s d x) K w
def bD (f:FuncId):Prop := ∃ fn,P.funcs[f]? = some fn∧(fn.name == "runtime.NumGoroutine")=false∧fn.body.isNone=false
def call (f:FuncId) (args:Array Value) (K:KV) (w:World):Prop:=bD P f∧Gives P f args w K
def bl (fv:Value) (args:Array Value) (K:KV) (w:World):Prop := ∃ f first cap,fv=.func (.func f) first cap∧call P f (first++args++cap) K w
def blt (b:Builtin) (ats:Array TypeId) (ty:TypeId) (cs:Array Bool) (args:Array Value) (K:KV) (w:World):Prop :=
 match (builtin b ats ty cs args).run P w with | .ok (.value v) w' => K v w' | _=>False
def slc (t:TypeId) (x:Value) (lo hi mx:Option Value) (K:KV) (w:World):Prop:=okV P (Instr.sliceAt t x lo hi mx) K w
def aa (s:TypeId) (x:Value) (f:Nat) (K:KV) (w:World):Prop:=okV P (Instr.fieldAt s x f) K w
def fld (s:TypeId) (x:Value) (f:Nat) (K:KV) (w:World):Prop:=okV P (Instr.field s x f) K w
def af (t:TypeId) (x i:Value) (K:KV) (w:World):Prop:=okV P (Instr.indexAt t x i) K w
def idx (t:TypeId) (x i:Value) (K:KV) (w:World):Prop:=okV P (Instr.index t x i) K w
def lkp (t:TypeId) (x i:Value) (ok:Bool) (K:KV) (w:World):Prop:=okV P (Instr.lookup t x i ok) K w
def bL (t:TypeId) (m k x:Value) (K:KV) (w:World):Prop:=okU P (Instr.mapUpdate t m k x) K w
def bP (t:TypeId) (m k:Value) (K:KV) (w:World):Prop:=okV P (Instr.mapEntry t m k) K w
def eSt (t:TypeId) (m s x:Value) (K:KV) (w:World):Prop:=okU P (Instr.entryStore t m s x) K w
def rng (t:TypeId) (x:Value) (K:KV) (w:World):Prop:=okV P (Instr.range t x) K w
def nxt (it:Value) (str:Bool) (ty:TypeId) (K:KV) (w:World):Prop:=okV P (Instr.next it str ty) K w
def ent (it:Value) (K:KV) (w:World):Prop:=okV P (Instr.entry it) K w
def ext (t:Value) (i:Nat) (K:KV) (w:World):Prop:=okV P (Instr.extract t i) K w
def alc (t:TypeId) (K:KV) (w:World):Prop:=okV P (Instr.alloc t true (.tuple #[])) K w
def box (t:TypeId) (x:Value) (K:KV) (w:World):Prop:=okV P (Instr.box t x) K w
def bld (t:TypeId) (ps:Array (Nat × Value)) (K:KV) (w:World):Prop:=okV P (Instr.build t ps) K w
def aJ (t:TypeId) (n:Nat) (ps:Array (Nat × Value)) (K:KV) (w:World):Prop:=okV P (Instr.buildSlice t n ps) K w
def ld (t:TypeId) (a:Value) (K:KV) (w:World):Prop:=okV P (Instr.loadAt t a) K w
def sto (t:TypeId) (a x:Value) (K:KV) (w:World):Prop:=okU P (Instr.storeAt t a x) K w
def aj (x:Value) (K:KV) (w:World):Prop :=
 match x with
 | .pointer (some a)=>K (.pointer (some a)) w
 | .func (.func f) first cap=>K (.func (.func f) first cap) w
 | _=>False
def bm (t:TypeId) (r:Option Value) (K:KV) (w:World):Prop:=okV P (Instr.makeMap t r) K w
def mkS (t:TypeId) (l c:Value) (K:KV) (w:World):Prop:=okV P (Instr.makeSlice t l c) K w
def ifc (t:TypeId) (x:Value) (K:KV) (w:World):Prop:=okV P (Instr.makeInterface t x) K w
def pick (c x y:Value) (K:KV) (w:World):Prop := ∃ b,c=.bool b∧K (if b then x else y) w
def rdy (g:Nat) (K:KV) (w:World):Prop:=okU P (Instr.ready g) K w
def wts (g:Nat) (K:KV) (w:World):Prop:=okV P (Instr.waits g) K w
def cOp (r:Operand→Value) (o:Oper) (K:KV) (w:World):Prop :=
 match o.op with
 | .move x=>K (r x) w
 | .assign x=>K (r x) w
 | .pick c a b=>pick (r c) (r a) (r b) K w
 | .alloc t=>alc P t K w
 | .box t x=>box P t (r x) K w
 | .build t ps=>bld P t (ps.toList.map fun p=>(p.1,r p.2)).toArray K w
 | .buildSlice t n ps=>aJ P t n (ps.toList.map fun p=>(p.1,r p.2)).toArray K w
 | .load t a=>ld P t (r a) K w
 | .store t a x=>sto P t (r a) (r x) K w
 | .ready g=>rdy P g K w
 | .waits g=>wts P g K w
 | .nilCheck x=>aj (r x) K w
 | .binOp op t x y _=>bin P op t (isC x) (isC y) (r x) (r y) K w
 | .unOp op _ x=>un P op (r x) K w
 | .convert s d x=>conv P s d (r x) K w
 | .makeInterface t x=>ifc P t (r x) K w
 | .makeFunc fn first cap=>K (.func fn (first.toList.map r).toArray (cap.toList.map r).toArray) w
 | .makeMap t rs=>bm P t (rs.map r) K w
 | .makeSlice t l c=>mkS P t (r l) (r c) K w
 | .slice t x lo hi mx=>slc P t (r x) (lo.map r) (hi.map r) (mx.map r) K w
 | .fieldAddr s x f=>aa P s (r x) f K w
 | .field s x f=>fld P s (r x) f K w
 | .indexAddr t x i=>af P t (r x) (r i) K w
 | .index t x i=>idx P t (r x) (r i) K w
 | .lookup t x i ok=>lkp P t (r x) (r i) ok K w
 | .mapUpdate t m k x=>bL P t (r m) (r k) (r x) K w
 | .insert t m k x=>bL P t (r m) (r k) (r x) K w
 | .mapEntry t m k=>bP P t (r m) (r k) K w
 | .entryStore t m s x=>eSt P t (r m) (r s) (r x) K w
 | .range t x=>rng P t (r x) K w
 | .next it s=>nxt P (r it) s o.type K w
 | .entry it=>ent P (r it) K w
 | .extract t i=>ext P (r t) i K w
 | .call c =>
  match c.callee with
  | .value (.func f)=>call P f (c.args.toList.map r).toArray K w
  | .value x=>bl P (r x) (c.args.toList.map r).toArray K w
  | .builtin b=>blt P b c.argTypes o.type (c.args.toList.map isC).toArray (c.args.toList.map r).toArray K w
  | .invoke _ _=>False
 | _=>False
def asB:Value→Option Bool
 | .bool b=>some b
 | _=>none
def fX (ops:List Oper) (e:Env) (j:Nat):Value:=match (ops[j]?).bind (·.dst) with | some d=>gd e d | none=>undef
def bc (l:List Oper):List Nat:=l.filterMap (·.dst)
def grp:List Oper→List (Option (Nat × Bool) × List Oper)
 | []=>[]
 | o::rest =>
  match grp rest with
  | []=>[(o.guard,[o])]
  | (g,l)::gs=>if o.guard=g then (g,o::l)::gs else (o.guard,[o])::(g,l)::gs
def bA:List Oper→KE→Env→World→Prop
 | [],K,e,w=>K e w
 | o::r,K,e,w=>cOp P (ev e) o (fun v w' => bA r K (pt e o.dst v) w') w
def au (v:Value) (want:Bool) (A B:(List Value→World→Prop)→Prop) (K:List Value→World→Prop):Prop:=(asB v=some want→A K)∧(asB v≠some want→B K)
def iL (us:List Value):List Nat→Nat→Env→Env
 | [],_,e=>e
 | d::ds,k,e=>iL us ds (k+1) (e.set d (gd us k))
def iO (e:Env) (ds:List Nat) (us:List Value):Env:=iL us ds 0 e
def aW (ops:List Oper):List (Option (Nat × Bool) × List Oper)→KE→Env→World→Prop
 | [],K=>K
 | (none,l)::gs,K=>bA P l (aW ops gs K)
 | (some (j,want),l)::gs,K=>fun e w =>
  @Bool.rec (fun _=>Prop) (au (fX ops e j) want (fun k=>bA P l (fun e' w' => k ((bc l).map (gd e')) w') e w) (fun k=>k ((bc l).map fun _=>undef) w) (fun us w' => aW ops gs K (iO e (bc l) us) w')) False (((ops[j]?).bind (·.dst)).any ((bc l).contains ·))
def sti (s:KV→World→Prop) (k:KV) (w:World):Prop := ∃ v,s (fun v' w' => v'=v∧w'=w) w∧k v w
def sOp (e:Env) (o:Oper) (k:KV) (w:World):Prop :=
 match o.op with
 | .move x=>k (ev e x) w
 | .assign x=>k (ev e x) w
 | _=>sti (fun k w=>cOp P (ev e) o k w) k w
def pZ:List Oper→KE→Env→World→Prop
 | [],K,e,w=>K e w
 | o::r,K,e,w=>sOp P e o (fun v w' => pZ r K (pt e o.dst v) w') w
def im (ops:List Oper):List (Option (Nat × Bool) × List Oper)→KE→Env→World→Prop
 | [],K=>K
 | (none,l)::gs,K=>pZ P l (im ops gs K)
 | (some (j,want),l)::gs,K=>fun e w =>
  @Bool.rec (fun _=>Prop) (au (fX ops e j) want (fun k=>pZ P l (fun e' w' => k ((bc l).map (gd e')) w') e w) (fun k=>k ((bc l).map fun _=>undef) w) (fun us w' => im ops gs K (iO e (bc l) us) w')) False (((ops[j]?).bind (·.dst)).any ((bc l).contains ·))
def jr (ops:Array Oper):Nat→Nat
 | 0=>ops.size+1
 | n+1=>match Region.lexTailB .any ops n with | true=>n | false=>jr ops n
def JA:Op→Bool | .store .. => true | _=>false
def Cw (ops:Array Oper):Nat:=ops.toList.findIdx fun o=>JA o.op
def cR (ops:Array Oper):Nat :=
 match Nat.ble (Cw ops+1) ops.size with
 | true=>jr ops (Cw ops+1)
 | false=>match Region.lexB .any ops with | true=>ops.size | false=>jr ops ops.size
def pi (o:Oper):Bool :=
 match o.op with
 | .move _=>true | .assign _=>true | .pick .. => true | .build .. => true | .load .. => true | .nilCheck _=>true | .binOp .. => true | .unOp .. => true | .convert .. => true
 | .makeInterface .. => true | .makeFunc .. => true | .slice .. => true | .fieldAddr .. => true | .field .. => true | .indexAddr .. => true | .index .. => true | .extract .. => true | .lookup .. => true
 | .call c=>match c.callee with | .builtin .len=>true | .builtin .cap=>true | _=>false
 | _=>false
def rY (o:Oper):Bool :=
 match o.guard with
 | some _=>false
 | none=>match o.op with
  | .move _=>true
  | .binOp .sub _ _ _ _=>true
  | .binOp .add _ _ _ _=>true
  | _=>false
def JW (o:Oper):Bool :=
 match o.op with
 | .store .. => true | .alloc _=>true | .box .. => true | .buildSlice .. => true | .makeSlice .. => true | .makeMap .. => true | .mapUpdate .. => true | .insert .. => true | .mapEntry .. => true | .entryStore .. => true
 | .call c=>match c.callee with | .builtin .append=>true | .builtin .copy=>true | .builtin .clear=>true | .builtin .delete=>true | _=>false
 | _=>false
def oG:Nat→Code→Bool
 | 0,_=>false
 | n+1,.region _ ops false=>ops.toList.all fun o =>
  match pi o with
  | true=>true
  | false=>match o.op with
   | .call c=>match c.callee with
    | .value (.func f)=>match P.funcs[f]? with
     | some fn=>match fn.body with | some b=>oG n b | none=>false
     | none=>false
    | .builtin .max=>true
    | .builtin .min=>true
    | _=>false
   | _=>false
 | n+1,.seq a b=>match oG n a with | true=>oG n b | false=>false
 | n+1,.cond _ a b=>match oG n a with | true=>oG n b | false=>false
 | n+1,.block _ c=>oG n c
 | n+1,.loop c=>oG n c
 | _+1,.skip=>true
 | _+1,.exit _=>true
 | _+1,.ret=>true
 | _+1,_=>false
def JB (o:Oper):Bool :=
 match JW o with
 | true=>true
 | false=>match o.op with
  | .call c=>match c.callee with
   | .value (.func f)=>match P.funcs[f]? with
    | some fn=>match fn.body with | some b=>(match oG P 60 b with | true=>false | false=>true) | none=>true
    | none=>true
   | .value _=>true
   | .invoke _ _=>true
   | _=>false
  | _=>false
def ky (ops:Array Oper):Bool :=
 Region.noSelect ops && (match ops.toList.all (fun o=>match o.guard with | none=>true | some _=>false) with
  | true=>(ops.toList.take (Nat.min (cR ops) ops.size)).any (fun o=>match pi o with | true=>false | false=>true)
  | false=>(ops.toList.take (Nat.min (cR ops) ops.size)).any (JB P))
def hld (S:World→Prop) (s:KV→World→Prop) (k:Value→Prop):Prop := ∃ v,(∀ w,S w→s (fun v' w' => v'=v∧w'=w) w)∧k v
def hOp (S:World→Prop) (e:Env) (o:Oper) (k:Value→Prop):Prop :=
 match o.op with
 | .move x=>k (ev e x)
 | .assign x=>k (ev e x)
 | .makeFunc fn first cap=>k (.func fn (first.toList.map (ev e)).toArray (cap.toList.map (ev e)).toArray)
 | _=>hld S (fun k w=>cOp P (ev e) o k w) k
def hG (v:Value) (want:Bool) (S:World→Prop) (s:KV→World→Prop) (k:Value→Prop):Prop := ∃ x,(asB v=some want→∀ w,S w→s (fun v' w' => v'=x∧w'=w) w)∧(asB v≠some want→x=undef)∧k x
def xG (v:Value) (want:Bool) (s:KV→World→Prop) (K:KV) (w:World):Prop:=(asB v=some want→s K w)∧(asB v≠some want→K undef w)
def xj (ops:Array Oper) (S:World→Prop) (e:Env) (o:Oper) (k:Value→Prop):Prop :=
 match o.guard with
 | none=>hOp P S e o k
 | some (j,want)=>hG (fX ops.toList e j) want S (fun k w=>cOp P (ev e) o k w) k
def nM (ops:Array Oper) (e:Env) (o:Oper) (K:KV) (w:World):Prop :=
 match o.guard with
 | none=>cOp P (ev e) o K w
 | some (j,want)=>xG (fX ops.toList e j) want (fun k w=>cOp P (ev e) o k w) K w
def oH:List Nat→(Nat→Prop)→Prop
 | [],_=>True
 | i::r,f=>match r with | []=>f i | _::_=>f i∧oH r f
def hAt (ops:Array Oper) (i:Nat) (f:Oper→Prop):Prop:=match ops[i]? with | some o=>f o | none=>False
def rZ (ops:Array Oper) (listed:Array Bool) (i:Nat):Bool:=(match ops[i]? with | some o=>pi o | none=>false) && Region.free .any ops listed i
def aX (b:(World→Prop)→World→Prop) (w:World):Prop := ∃ S,S w∧b S w
def dB (S:World→Prop) (b:(World→Prop)→World→Prop) (w:World):Prop := ∃ S',(∀ x,S' x→S x)∧S' w∧b S' w
theorem bn {S:World→Prop} {b:(World→Prop)→World→Prop} {w:World} (hS:S w) (h:b S w):dB S b w:=⟨S,fun _ h=>h,hS,h⟩
def xk (k:Nat):List Nat→Bool
 | []=>false
 | i::r=>Nat.beq k i || xk k r
def xm (ops:Array Oper) (j:Nat):List Nat:=match ops[j]? with | some o=>(o.after.toList.filter fun e=>Region.binds .any e).map (·.on) | none=>[]
def xn (ops:Array Oper):Nat→List Nat→List Nat→List Nat
 | 0,_,seen=>seen
 | _+1,[],seen=>seen
 | f+1,j::todo,seen=>match xk j seen with | true=>xn ops f todo seen | false=>xn ops f (xm ops j++todo) (j::seen)
def ep (ops:Array Oper) (pend:List Nat) (i:Nat):List Nat:=pend.filter fun k=>match xk k (xn ops 1000 (xm ops i) []) with | true=>false | false=>true
def bQ (ops:Array Oper) (K:KE):Nat→Array Bool→List Nat→(World→Prop)→Env→World→Prop
  | 0,listed,_,_,e,w => @Bool.rec (fun _=>Prop) False (K e w) (Region.ready .any ops listed).isEmpty
  | f+1,listed,pend,S,e,w =>
    @Bool.rec (fun _=>Prop)
      (match (Region.ready .any ops listed).find? (rZ ops listed) with
       | some i=>hAt ops i fun o =>
         match rY o with
         | true=>hOp P (fun _=>True) e o fun v=>bQ ops K f (listed.setIfInBounds i true) pend S (pt e o.dst v) w
         | false=>xj P ops S e o fun v=>bQ ops K f (listed.setIfInBounds i true) (i::pend) S (pt e o.dst v) w
       | none=>oH (Region.ready .any ops listed) fun i=>hAt ops i fun o=>nM P ops e o (fun v w' =>
           match ep ops pend i with
           | [] =>
             match (Region.ready .any ops (listed.setIfInBounds i true)).isEmpty with
             | true=>bQ ops K f (listed.setIfInBounds i true) [] S (pt e o.dst v) w'
             | false=>aX (fun S w=>bQ ops K f (listed.setIfInBounds i true) [] S (pt e o.dst v) w) w'
           | p::ps=>dB S (fun S w=>bQ ops K f (listed.setIfInBounds i true) (p::ps) S (pt e o.dst v) w) w') w)
      (K e w) (Region.ready .any ops listed).isEmpty

def cond (v:Value) (p q:Prop):Prop := ∃ b,v=.bool b∧(b=true→p)∧(b=false→q)
def JC (body:KE→Env→World→Prop) (e:Env) (w:World):Prop :=
 ∃ (I:KE) (μ:Env→World→Nat),I e w∧∀ e' w',I e' w'→body (fun e2 w2=>I e2 w2∧μ e2 w2 < μ e' w') e' w'
def ac:Code→KE→(Nat→KE)→KE→Env→World→Prop
 | .skip,N,_,_=>N
 | .region _ ops false,N,_,_=>aW P ops.toList (grp ops.toList) N
 | .region _ ops true,N,_,_=>fun e w =>
  @Bool.rec (fun _=>Prop)
   (@Bool.rec (fun _=>Prop) False
    (im P ops.toList (grp (ops.toList.take (cR ops))) (aW P ops.toList (grp (ops.toList.drop (cR ops))) N) e w.drew)
    (P.follows .mixedOrders && Nat.ble (cR ops) ops.size))
   (aX (fun S w=>bQ P ops N ops.size (Array.replicate ops.size false) [] S e w) w.drew)
   (P.follows .mixedOrders && ky P ops)
 | .seq a b,N,X,R=>ac a (ac b N X R) X R
 | .cond c x y,N,X,R=>fun e w=>cond (ev e c) (ac x N X R e w) (ac y N X R e w)
 | .block id c,N,X,R=>ac c N (fun i => @Bool.rec (fun _=>KE) (X i) N (Nat.beq i id)) R
 | .loop c,_,X,R=>JC fun N' => ac c N' X R
 | .exit i,_,X,_=>X i
 | .ret,_,_,R=>R
 | _,_,_,_=>fun _ _=>False
end ops
/-! ## It implies the model's own. -/
section sound
variable {P:Program} {ds:List Deferred}
theorem nN (e:Env) (t:Nat):e.toArray.getD t undef=gd e t:=by
 simp [gd,Array.getD,List.getD]
 split <;> simp_all
theorem gD (e:Env) (ds:List Deferred) (x:Operand):Act.eval ⟨e.toArray,ds⟩ x=ev e x:=by
 cases x with
 | tmp t=>exact nN e t
 | _=>rfl
theorem jL (e:Env) (ds:List Deferred) (d:Option Tmp) (v:Value):Act.put ⟨e.toArray,ds⟩ d v=⟨(pt e d v).toArray,ds⟩:=by
 cases d <;> simp [Act.put,pt]
def QQ (ds:List Deferred) (N:KE) (X:Nat→KE) (R:KE):Exit→Act→World→Prop
 | .normal,a,w => ∃ e:Env,a=⟨e.toArray,ds⟩∧N e w
 | .exit i,a,w => ∃ e:Env,a=⟨e.toArray,ds⟩∧X i e w
 | .ret,a,w => ∃ e:Env,a=⟨e.toArray,ds⟩∧R e w
 | _,_,_=>False
theorem ye (s:Sem Value) (w:World):(do pure (.value (← s)):Sem Next).run P w=(s.run P w).andThen fun v w' => .ok (.value v) w':=by
 simp [Sem.run_bind,Sem.run_pure]
def tu (P:Program) (o:Oper) (a:Act) (K:KV) (w:World):Prop :=
 (∃ v w',(execOp a.eval o).run P w=.ok (.value v) w'∧K v w')∨(∃ w',(execOp a.eval o).run P w=.ok .skip w'∧K undef w') ∨
 (∃ f args,(execOp a.eval o).run P w=.ok (.enter f args) w∧Gives P f args w K)
theorem eF {o:Oper} {a:Act} {w:World} {K:KV} (s:Sem Value) (hs:execOp a.eval o=(do pure (.value (← s)):Sem Next)) (h:okV P s K w):tu P o a K w:=by
 unfold okV at h
 split at h
 ·rename_i v w' he
  exact .inl ⟨v,w',by rw [hs,ye,he]; rfl,h⟩
 ·exact h.elim
theorem s6 {o:Oper} {a:Act} {w:World} {K:KV} (s:Sem Unit) (hs:execOp a.eval o=(do s; pure .skip:Sem Next)) (h:okU P s K w):tu P o a K w:=by
 unfold okU at h
 split at h
 ·rename_i u w' he
  exact .inr (.inl ⟨w',by rw [hs]; simp only [Sem.run_bind,he,Result.andThen,Sem.run_pure],h⟩)
 ·exact h.elim
theorem s9 {f:FuncId} (hf:bD P f) (args:Array Value) (w:World):(callFunc f args).run P w=.ok (.enter f args) w:=by
 obtain ⟨fn,h1,h2,h3⟩:=hf
 have h2' : ¬ fn.name = "runtime.NumGoroutine" := by simpa using h2
 cases hb:fn.body with
 | none=>simp [hb] at h3
 | some c=>simp [callFunc,h1,h2',hb]
theorem Bn {o:Oper} {a:Act} {w:World} {K:KV} (f:FuncId) (args:Array Value)
  (hs:(execOp a.eval o).run P w=(callFunc f args).run P w) (h:call P f args K w):tu P o a K w :=
 .inr (.inr ⟨f,args,by rw [hs,s9 h.1],h.2⟩)
theorem uR (e:Env) (ps:Array (Nat × Operand)):(ps.map fun (i,x)=>(i,ev e x))=(ps.toList.map fun p=>(p.1,ev e p.2)).toArray:=by
 rw [← Array.toList_map]
set_option maxHeartbeats 1000000 in
theorem yf {o:Oper} {e:Env} {w:World} {K:KV} (h:cOp P (ev e) o K w):tu P o ⟨e.toArray,ds⟩ K w:=by
 have he:Act.eval ⟨e.toArray,ds⟩=ev e:=funext (gD e ds)
 obtain ⟨dst,op,ty,pos,after,guard⟩:=o
 cases op <;> simp only [cOp] at h
 case move x=>exact .inl ⟨_,w,by rw [he]; rfl,h⟩
 case assign x=>exact .inl ⟨_,w,by rw [he]; rfl,h⟩
 case pick c x y =>
  obtain ⟨b,hb,hk⟩:=h
  exact .inl ⟨_,w,by unfold execOp; simp only [he,hb,asBool,Sem.run_bind,Sem.run_pure,Result.andThen],hk⟩
 case alloc t=>exact eF _ rfl h
 case box t x=>exact eF (Instr.box t (ev e x)) (by rw [he]; rfl) h
 case build t ps=>exact eF (Instr.build t (ps.toList.map fun p:Nat × Operand=>(p.1,ev e p.2)).toArray) (by rw [he]; exact congrArg (fun l=>(do pure (.value (← Instr.build t l)):Sem Next)) (uR e ps)) h
 case buildSlice t n ps=>exact eF (Instr.buildSlice t n (ps.toList.map fun p:Nat × Operand=>(p.1,ev e p.2)).toArray) (by rw [he]; exact congrArg (fun l=>(do pure (.value (← Instr.buildSlice t n l)):Sem Next)) (uR e ps)) h
 case load t x=>exact eF (Instr.loadAt t (ev e x)) (by rw [he]; rfl) h
 case store t x y=>exact s6 (Instr.storeAt t (ev e x) (ev e y)) (by rw [he]; rfl) h
 case ready g=>exact s6 _ rfl h
 case waits g=>exact eF _ rfl h
 case nilCheck x =>
  unfold aj at h
  split at h
  ·rename_i a ha; exact .inl ⟨_,w,by unfold execOp; simp only [he,ha]; rfl,h⟩
  ·rename_i f first cap ha; exact .inl ⟨_,w,by unfold execOp; simp only [he,ha]; rfl,h⟩
  ·exact h.elim
 case binOp op t x y yt=>exact eF (do eqG op t (isC x) (isC y) (ev e x) (ev e y); binOp op t (ev e x) (ev e y)) (by rw [he, ← Dy]; rfl) h
 case unOp op t x=>exact eF (Op.unary op (ev e x)) (by rw [he]; rfl) h
 case convert s d x=>exact eF (Go.convert s d (ev e x)) (by rw [he]; rfl) h
 case makeInterface t x=>exact eF (Instr.makeInterface t (ev e x)) (by rw [he]; rfl) h
 case makeFunc fn first cap =>
  have e1:first.map (ev e)=(first.toList.map (ev e)).toArray:=by rw [← Array.toList_map]
  have e2:cap.map (ev e)=(cap.toList.map (ev e)).toArray:=by rw [← Array.toList_map]
  exact .inl ⟨_,w,by unfold execOp; simp only [he,Instr.makeFunc,Sem.run_bind,Sem.run_pure,Result.andThen]; rw [e1,e2],h⟩
 case makeMap t r=>exact eF (Instr.makeMap t (r.map (ev e))) (by rw [he]; rfl) h
 case makeSlice t l c=>exact eF (Instr.makeSlice t (ev e l) (ev e c)) (by rw [he]; rfl) h
 case slice t x lo hi mx=>exact eF (Instr.sliceAt t (ev e x) (lo.map (ev e)) (hi.map (ev e)) (mx.map (ev e))) (by rw [he]; rfl) h
 case fieldAddr s x f=>exact eF (Instr.fieldAt s (ev e x) f) (by rw [he]; rfl) h
 case field s x f=>exact eF (Instr.field s (ev e x) f) (by rw [he]; rfl) h
 case indexAddr t x i=>exact eF (Instr.indexAt t (ev e x) (ev e i)) (by rw [he]; rfl) h
 case index t x i=>exact eF (Instr.index t (ev e x) (ev e i)) (by rw [he]; rfl) h
 case lookup t x i ok=>exact eF (Instr.lookup t (ev e x) (ev e i) ok) (by rw [he]; rfl) h
 case mapUpdate t m k x=>exact s6 (Instr.mapUpdate t (ev e m) (ev e k) (ev e x)) (by rw [he]; rfl) h
 case insert t m k x=>exact s6 (Instr.mapUpdate t (ev e m) (ev e k) (ev e x)) (by rw [he]; rfl) h
 case mapEntry t m k=>exact eF (Instr.mapEntry t (ev e m) (ev e k)) (by rw [he]; rfl) h
 case entryStore t m s x=>exact s6 (Instr.entryStore t (ev e m) (ev e s) (ev e x)) (by rw [he]; rfl) h
 case range t x=>exact eF (Instr.range t (ev e x)) (by rw [he]; rfl) h
 case next it s=>exact eF (Instr.next (ev e it) s ty) (by rw [he]; rfl) h
 case entry it=>exact eF (Instr.entry (ev e it)) (by rw [he]; rfl) h
 case extract t i=>exact eF (Instr.extract (ev e t) i) (by rw [he]; rfl) h
 case call c =>
  obtain ⟨callee,args,ats⟩:=c
  have ea:args.map (ev e)=(args.toList.map (ev e)).toArray:=by rw [← Array.toList_map]
  cases callee with
  | invoke r m=>exact h.elim
  | builtin b =>
   have hx:execOp (Act.eval ⟨e.toArray,ds⟩) { dst,op:=.call { callee:=.builtin b,args,argTypes:=ats },type:=ty,pos,after,guard } = builtin b ats ty (args.map isC) (args.map (ev e)):=by rw [he]; rfl
   have hc:args.map isC=(args.toList.map isC).toArray:=by rw [← Array.toList_map]
   have h:blt P b ats ty (args.toList.map isC).toArray (args.toList.map (ev e)).toArray K w:=h
   unfold blt at h
   split at h
   ·rename_i v w' hr; exact .inl ⟨v,w',by rw [hx,hc,ea]; exact hr,h⟩
   ·exact h.elim
  | value f =>
   cases f with
   | func f =>
    refine Bn f (args.toList.map (ev e)).toArray ?_ h
    simp only [execOp,resolve,Deferred.ofValue,invoke,Sem.run_bind,Sem.run_pure,Result.andThen_ok,he,ea]
    simp [ev]
   | _ =>
    obtain ⟨f,first,cap,hf,hc⟩:=h
    refine Bn f _ ?_ hc
    simp only [execOp,resolve,Deferred.ofValue,invoke,Sem.run_bind,Sem.run_pure,Result.andThen_ok,he,ea,hf]
 all_goals exact h.elim
theorem jt {o:Oper} {e:Env} {w:World} {K:KV} {next:Act→World→Prop} {Q:Exit→Act→World→Prop} (h:cOp P (ev e) o K w)
  (hn:∀ v w',K v w'→next ⟨(pt e o.dst v).toArray,ds⟩ w'):o.wp P ⟨e.toArray,ds⟩ w next Q:=by
 have hn':∀ v w',K v w'→next (Act.put ⟨e.toArray,ds⟩ o.dst v) w':=fun v w' hv=>by rw [jL]; exact hn v w' hv
 unfold Oper.wp
 rcases yf h with ⟨v,w',hr,hk⟩ | ⟨w',hr,hk⟩ | ⟨f,args,hr,hk⟩
 ·rw [hr]; exact hn' _ _ hk
 ·rw [hr]; exact hn' _ _ hk
 ·rw [hr]
  refine Calls.mono hk ?_
  rintro e w' ⟨v,rfl,hv⟩
  exact hn' _ _ hv
theorem ju (ops:List Oper) (e:Env) (o:Oper) (j:Nat) (want:Bool) (hg:o.guard=some (j,want)) :
  Region.wanted o (yielded ops.toArray e.toArray)=(asB (fX ops e j) == some want):=by
 simp only [Region.wanted,hg]
 have:yielded ops.toArray e.toArray j=asB (fX ops e j):=by
  unfold yielded fX
  simp only [List.getElem?_toArray]
  cases h:(ops[j]?).bind (·.dst) with
  | none=>simp [undef,asB]
  | some d =>
   simp only [Option.bind_some,List.getElem?_toArray,gd,List.getD]
   cases h2:e[d]? with
   | none=>simp [undef,asB]
   | some v=>cases v <;> simp [asB]
 rw [this]
theorem tw {ops:List Oper} {e:Env} {j:Nat} {d:Option Tmp} {v:Value} (h:((ops[j]?).bind (·.dst)).any (d.toList.contains ·)=false):fX ops (pt e d v) j=fX ops e j:=by
 unfold fX
 cases hj:(ops[j]?).bind (·.dst) with
 | none=>rfl
 | some dj =>
  cases d with
  | none=>rfl
  | some d =>
   have hne:dj≠d:=by
    intro he
    subst he
    simp [hj] at h
   have:d≠dj:=fun e=>hne e.symm
   simp [pt,gd,List.getD,List.getElem?_set_ne this]
theorem qb {ops:List Oper} {j:Nat} {o:Oper} {l:List Oper} (h:((ops[j]?).bind (·.dst)).any ((bc (o::l)).contains ·)=false) :
  ((ops[j]?).bind (·.dst)).any (o.dst.toList.contains ·)=false∧((ops[j]?).bind (·.dst)).any ((bc l).contains ·)=false:=by
 cases hj:(ops[j]?).bind (·.dst) with
 | none=>simp
 | some d =>
  rw [hj] at h
  unfold bc at *
  rw [List.filterMap_cons] at h
  cases ho:o.dst with
  | none=>rw [ho] at h; simpa using h
  | some d' => rw [ho] at h; simpa using h
theorem Dz {ops:List Oper} {K:KE} {Q:Exit→Act→World→Prop} {rest:List Oper} (hK:∀ e w,K e w→wpList P ops.toArray Q rest ⟨e.toArray,ds⟩ w) :
  ∀ (l:List Oper) (e:Env) (w:World),(∀ o ∈ l,o.guard=none)→bA P l K e w→wpList P ops.toArray Q (l++rest) ⟨e.toArray,ds⟩ w:=by
 intro l
 induction l with
 | nil=>intro e w _ h; exact hK e w h
 | cons o l ih =>
  intro e w hg h
  refine wpList_step fun KK hKK => ?_
  rw [if_pos (by simp [Region.wanted,hg o (List.mem_cons_self ..)])]
  exact jt h fun v w' hv=>hKK _ _ (ih _ _ (fun o' ho' => hg o' (List.mem_cons_of_mem _ ho')) hv)
theorem Cx {ops:List Oper} {K:KE} {Q:Exit→Act→World→Prop} {rest:List Oper} {j:Nat} {want:Bool} (hK:∀ e w,K e w→wpList P ops.toArray Q rest ⟨e.toArray,ds⟩ w) :
  ∀ (l:List Oper) (e:Env) (w:World),(∀ o ∈ l,o.guard=some (j,want))→((ops[j]?).bind (·.dst)).any ((bc l).contains ·)=false→asB (fX ops e j)=some want→bA P l K e w →
   wpList P ops.toArray Q (l++rest) ⟨e.toArray,ds⟩ w:=by
 intro l
 induction l with
 | nil=>intro e w _ _ _ h; exact hK e w h
 | cons o l ih =>
  intro e w hg hd hv h
  obtain ⟨hd1,hd2⟩:=qb hd
  refine wpList_step fun KK hKK => ?_
  have hw:=ju ops e o j want (hg o (List.mem_cons_self ..))
  dsimp only at hw ⊢
  rw [hw,if_pos (by simp [hv])]
  exact jt h fun v w' hv' => hKK _ _ (ih _ _ (fun o' ho' => hg o' (List.mem_cons_of_mem _ ho')) hd2 (by rw [tw hd1]; exact hv) hv')
theorem um (us:List Value) (hu:∀ i,gd us i=undef):∀ (ds:List Nat) (k k':Nat) (e:Env) (us':List Value),(∀ i,gd us' i=undef)→iL us ds k e=iL us' ds k' e:=by
 intro ds
 induction ds with
 | nil=>intro k k' e us' _; rfl
 | cons d ds ih=>intro k k' e us' h; simp only [iL,hu,h]; exact ih _ _ _ _ h
theorem mc (ds:List Nat) (i:Nat):gd (ds.map fun _=>undef) i=undef:=by
 simp only [gd,List.getD,List.getElem?_map]
 cases ds[i]? <;> rfl
theorem AQ {ops:List Oper} {Q:Exit→Act→World→Prop} {rest:List Oper} {j:Nat} {want:Bool} :
  ∀ (l:List Oper) (e:Env) (w:World),(∀ o ∈ l,o.guard=some (j,want))→((ops[j]?).bind (·.dst)).any ((bc l).contains ·)=false→asB (fX ops e j)≠some want →
   wpList P ops.toArray Q rest ⟨(iO e (bc l) ((bc l).map fun _=>undef)).toArray,ds⟩ w→wpList P ops.toArray Q (l++rest) ⟨e.toArray,ds⟩ w:=by
 intro l
 induction l with
 | nil=>intro e w _ _ _ h; exact h
 | cons o l ih =>
  intro e w hg hd hv h
  obtain ⟨hd1,hd2⟩:=qb hd
  refine wpList_step fun KK hKK => ?_
  have hw:=ju ops e o j want (hg o (List.mem_cons_self ..))
  dsimp only at hw ⊢
  rw [hw,if_neg (by simpa using hv),jL]
  refine hKK _ _ (ih _ _ (fun o' ho' => hg o' (List.mem_cons_of_mem _ ho')) hd2 (by rw [tw hd1]; exact hv) ?_)
  have he:iO e (bc (o::l)) ((bc (o::l)).map fun _=>undef)=iO (pt e o.dst undef) (bc l) ((bc l).map fun _=>undef):=by
   have hu:=fun ds=>mc ds
   unfold bc
   rw [List.filterMap_cons]
   cases o.dst with
   | none=>rfl
   | some d =>
    simp only [iO,iL,hu,pt]
    exact um _ (hu _) _ _ _ _ _ (hu _)
  rw [← he]; exact h
theorem DA (us:List Value):∀ (ds:List Nat) (k:Nat) (e:Env) (i:Nat),i ∉ ds→(iL us ds k e)[i]? = e[i]? := by
 intro ds
 induction ds with
 | nil=>intro k e i _; rfl
 | cons d ds ih =>
  intro k e i hi
  simp only [List.mem_cons,not_or] at hi
  simp only [iL]
  rw [ih _ _ _ hi.2,List.getElem?_set_ne (fun h=>hi.1 h.symm)]
theorem Cy (us:List Value) (e':Env):∀ (ds:List Nat) (k:Nat) (e:Env),(∀ i d,ds[i]? = some d→gd us (k+i)=gd e' d)→e'.length=e.length→(∀ i,i ∉ ds→e'[i]? = e[i]?)→iL us ds k e=e':=by
 intro ds
 induction ds with
 | nil=>intro k e _ hl h; exact (List.ext_getElem? fun i=>h i (by simp)).symm
 | cons d ds ih =>
  intro k e hu hl h
  simp only [iL]
  refine ih (k+1) _ (fun i d' hd=>by rw [show k+1+i=k+(i+1) by omega]; exact hu (i+1) d' (by simpa using hd)) (by simp [hl]) ?_
  have h0:=hu 0 d (by simp)
  rw [Nat.add_zero] at h0
  intro i hi
  by_cases hid:i=d
  ·subst hid
   by_cases hlt:i < e.length
   ·rw [List.getElem?_set_self hlt,h0]
    have:i < e'.length:=by omega
    simp [gd,List.getD,this]
   ·rw [List.getElem?_eq_none (show e'.length≤i by omega),List.getElem?_eq_none (by simp; omega)]
  ·rw [List.getElem?_set_ne (fun h=>hid h.symm)]
   exact h i (by simp [hid,hi])
theorem DB (ds:List Nat) (e e':Env) (hl:e'.length=e.length) (h:∀ i,i ∉ ds→e'[i]? = e[i]?):iO e ds (ds.map (gd e'))=e':=by
 refine Cy _ e' ds 0 e (fun i d hd => ?_) hl h
 rw [Nat.zero_add]
 simp [gd,List.getD,List.getElem?_map,hd]
theorem iP:∀ (l:List Oper),((grp l).flatMap (·.2))=l∧∀ g ∈ grp l, ∀ o ∈ g.2,o.guard=g.1:=by
 intro l
 induction l with
 | nil=>simp [grp]
 | cons o l ih =>
  obtain ⟨h1,h2⟩:=ih
  unfold grp
  split
  ·rename_i hg
   rw [hg] at h1
   simp at h1
   subst h1
   simp
  ·rename_i g l' gs hg
   rw [hg] at h1 h2
   split
   ·rename_i he
    refine ⟨by simpa using h1, ?_⟩
    intro x hx o' ho'
    simp only [List.mem_cons] at hx
    rcases hx with rfl | hx
    ·simp only [List.mem_cons] at ho'
     rcases ho' with rfl | ho'
     ·exact he
     ·exact h2 (g,l') (by simp) o' ho'
    ·exact h2 x (by simp [hx]) o' ho'
   ·refine ⟨by simpa using h1, ?_⟩
    intro x hx o' ho'
    simp only [List.mem_cons] at hx
    rcases hx with rfl | rfl | hx
    ·simp only [List.mem_singleton] at ho'; rw [ho']
    ·exact h2 (g,l') (by simp) o' ho'
    ·exact h2 x (by simp [hx]) o' ho'
def agree (ws:List Nat) (e e':Env):Prop:=e'.length=e.length∧∀ i,i ∉ ws→gd e' i=gd e i
theorem agree.refl (ws:List Nat) (e:Env):agree ws e e:=⟨rfl,fun _ _=>rfl⟩
theorem agree.trans {ws ws':List Nat} {a b c:Env} (h:agree ws a b) (k:agree ws' b c):agree (ws++ws') a c :=
 ⟨k.1.trans h.1,fun i hi=>by
  simp only [List.mem_append,not_or] at hi
  rw [k.2 i hi.2,h.2 i hi.1]⟩
theorem agree.mono {ws ws':List Nat} {a b:Env} (h:agree ws a b) (hs:∀ i ∈ ws,i ∈ ws'):agree ws' a b:=⟨h.1,fun i hi=>h.2 i fun hh=>hi (hs i hh)⟩
theorem qd (e:Env) (d:Option Tmp) (v:Value):agree d.toList e (pt e d v):=by
 cases d with
 | none=>exact agree.refl _ _
 | some d =>
  refine ⟨by simp [pt],fun i hi => ?_⟩
  have:d≠i:=by simpa [eq_comm] using hi
  simp [pt,gd,List.getD,List.getElem?_set_ne this]
theorem yg {f:FuncId} {args:Array Value} {K K':KV} {w:World} (hk:∀ v w',K v w'→K' v w') (h:call P f args K w):call P f args K' w:=⟨h.1,h.2.mono hk⟩
theorem uS {r:Operand→Value} {o:Oper} {K K':KV} {w:World} (hk:∀ v w',K v w'→K' v w') (h:cOp P r o K w):cOp P r o K' w:=by
 unfold cOp at *
 split at h <;> first
  | exact hk _ _ h
  | exact Fv hk h
  | exact Fw hk h
  | exact h.elim
  | skip
 ·obtain ⟨b,hb,h⟩:=h; exact ⟨b,hb,hk _ _ h⟩
 ·unfold aj at *
  split at h
  ·exact hk _ _ h
  ·exact hk _ _ h
  ·exact h.elim
 ·split at h
  ·exact yg hk h
  ·obtain ⟨f,first,cap,hf,hc⟩:=h; exact ⟨f,first,cap,hf,yg hk hc⟩
  ·unfold blt at *
   split at h
   ·exact hk _ _ h
   ·exact h.elim
  ·exact h.elim
theorem mZ:∀ (l:List Oper) {K K':KE} {e:Env} {w:World},bA P l K e w→(∀ e2 w2,agree (bc l) e e2→K e2 w2→K' e2 w2)→bA P l K' e w:=by
 intro l
 induction l with
 | nil=>intro K K' e w h hk; exact hk _ _ (agree.refl _ _) h
 | cons o rest ih =>
  intro K K' e w h hk
  exact uS (fun v w' h=>ih h fun e2 w2 ha hK=>hk e2 w2 (((qd e o.dst v).trans ha).mono (by
   intro i hi
   simp only [List.mem_append] at hi
   unfold bc
   rw [List.filterMap_cons]
   rcases hi with hi | hi
   ·cases hd:o.dst with
    | none=>simp [hd] at hi
    | some d=>simp [hd] at hi; simp [hi]
   ·cases hd:o.dst with
    | none=>exact hi
    | some d=>exact List.mem_cons_of_mem _ hi)) hK) h
theorem kz {ds:List Nat} {e e':Env} (h:agree ds e e'):iO e ds (ds.map (gd e'))=e':=by
 refine DB ds e e' h.1 fun i hi => ?_
 have h2:=h.2 i hi
 by_cases hl:i < e.length
 ·have hl':i < e'.length:=by rw [h.1]; exact hl
  simp only [gd,List.getD,List.getElem?_eq_getElem hl,List.getElem?_eq_getElem hl',Option.getD_some] at h2 ⊢
  rw [h2]
 ·simp [List.getElem?_eq_none (Nat.le_of_not_lt hl),List.getElem?_eq_none (show e'.length≤i by rw [h.1]; omega)]
theorem n5 {ops:List Oper} {K:KE} {Q:Exit→Act→World→Prop} (hK:∀ e w,K e w→Q .normal ⟨e.toArray,ds⟩ w) :
  ∀ (gs:List (Option (Nat × Bool) × List Oper)) (e:Env) (w:World),(∀ g ∈ gs, ∀ o ∈ g.2,o.guard=g.1)→aW P ops gs K e w→wpList P ops.toArray Q (gs.flatMap (·.2)) ⟨e.toArray,ds⟩ w:=by
 intro gs
 induction gs with
 | nil=>intro e w _ h; exact hK e w h
 | cons g gs ih =>
  intro e w hg h
  obtain ⟨gd',l⟩:=g
  have hgs:∀ g ∈ gs, ∀ o ∈ g.2,o.guard=g.1:=fun g hh=>hg g (List.mem_cons_of_mem _ hh)
  have hl:=hg (gd',l) (List.mem_cons_self ..)
  rw [List.flatMap_cons]
  cases gd' with
  | none=>exact Dz (fun e w h=>ih e w hgs h) l e w hl h
  | some jw =>
   obtain ⟨j,want⟩:=jw
   simp only [aW] at h
   cases hd:((ops[j]?).bind (·.dst)).any ((bc l).contains ·)
   case true=>rw [hd] at h; exact h.elim
   case false =>
    rw [hd] at h
    have h:au _ _ _ _ _:=h
    by_cases hv:asB (fX ops e j)=some want
    ·refine Cx (K:=fun e' w' => aW P ops gs K e' w') (fun e w h=>ih e w hgs h) l e w hl hd hv <|mZ l (h.1 hv) ?_
     intro e2 w2 ha h2
     dsimp only at h2
     rw [kz ha] at h2
     exact h2
    ·exact AQ l e w hl hd hv (ih _ w hgs (h.2 hv))
theorem Cz {o:Oper} {e:Env} {w:World} {k:KV} (h:sOp P e o k w):sti (fun k w=>cOp P (ev e) o k w) k w:=by
 unfold sOp at h
 split at h
 ·rename_i x ho; exact ⟨_,by unfold cOp; simp only [ho]; exact ⟨(by first | trivial | rfl),(by first | trivial | rfl)⟩,h⟩
 ·rename_i x ho; exact ⟨_,by unfold cOp; simp only [ho]; exact ⟨(by first | trivial | rfl),(by first | trivial | rfl)⟩,h⟩
 ·exact h
theorem Fx {o:Oper} {e:Env} {w:World} {k k':KV} (hk:∀ v,k v w→k' v w) (h:sOp P e o k w):sOp P e o k' w:=by
 unfold sOp at *
 split at h
 ·exact hk _ h
 ·exact hk _ h
 ·obtain ⟨v,hv,h⟩:=h; exact ⟨v,hv,hk _ h⟩
theorem zB {o:Oper} {e:Env} {w:World} {k:KV} {next:Act→Prop} (h:sOp P e o k w)
  (hn:∀ v,k v w→next ⟨(pt e o.dst v).toArray,ds⟩):o.still P ⟨e.toArray,ds⟩ w next:=by
 obtain ⟨v,hv,hk⟩:=Cz h
 have hput:∀ v',Act.put ⟨e.toArray,ds⟩ o.dst v'=⟨(pt e o.dst v').toArray,ds⟩:=fun v' => jL e ds o.dst v'
 unfold Oper.still
 rcases yf hv with ⟨v',w',hr,rfl,rfl⟩ | ⟨w',hr,hvu,rfl⟩ | ⟨f,args,hr,hc⟩
 ·rw [hr]; exact ⟨rfl,by rw [hput]; exact hn _ hk⟩
 ·rw [hr]; exact ⟨rfl,by rw [hput,hvu]; exact hn _ hk⟩
 ·rw [hr]; exact ⟨rfl,v,Calls.mono hc (by rintro e' w' ⟨v',rfl,rfl,rfl⟩; exact ⟨rfl,rfl⟩),by rw [hput]; exact hn _ hk⟩
theorem CA {ops:List Oper} {K:KE} {Q:Act→Prop} {w:World} {rest:List Oper} (hK:∀ e,K e w→wpStill P ops.toArray w Q rest ⟨e.toArray,ds⟩) :
  ∀ (l:List Oper) (e:Env),(∀ o ∈ l,o.guard=none)→pZ P l K e w→wpStill P ops.toArray w Q (l++rest) ⟨e.toArray,ds⟩:=by
 intro l
 induction l with
 | nil=>intro e _ h; exact hK e h
 | cons o l ih =>
  intro e hg h
  simp only [List.cons_append,wpStill]
  rw [if_pos (by simp [Region.wanted,hg o (List.mem_cons_self ..)])]
  exact zB h fun v hv=>ih _ (fun o' ho' => hg o' (List.mem_cons_of_mem _ ho')) hv
theorem AS {ops:List Oper} {K:KE} {Q:Act→Prop} {w:World} {rest:List Oper} {j:Nat} {want:Bool} (hK:∀ e,K e w→wpStill P ops.toArray w Q rest ⟨e.toArray,ds⟩) :
  ∀ (l:List Oper) (e:Env),(∀ o ∈ l,o.guard=some (j,want))→((ops[j]?).bind (·.dst)).any ((bc l).contains ·)=false→asB (fX ops e j)=some want→pZ P l K e w →
   wpStill P ops.toArray w Q (l++rest) ⟨e.toArray,ds⟩:=by
 intro l
 induction l with
 | nil=>intro e _ _ _ h; exact hK e h
 | cons o l ih =>
  intro e hg hd hv h
  obtain ⟨hd1,hd2⟩:=qb hd
  have hw:=ju ops e o j want (hg o (List.mem_cons_self ..))
  simp only [List.cons_append,wpStill]
  rw [hw,if_pos (by simp [hv])]
  exact zB h fun v hv' => ih _ (fun o' ho' => hg o' (List.mem_cons_of_mem _ ho')) hd2 (by rw [tw hd1]; exact hv) hv'
theorem AT {ops:List Oper} {Q:Act→Prop} {w:World} {rest:List Oper} {j:Nat} {want:Bool} :
  ∀ (l:List Oper) (e:Env),(∀ o ∈ l,o.guard=some (j,want))→((ops[j]?).bind (·.dst)).any ((bc l).contains ·)=false→asB (fX ops e j)≠some want →
   wpStill P ops.toArray w Q rest ⟨(iO e (bc l) ((bc l).map fun _=>undef)).toArray,ds⟩→wpStill P ops.toArray w Q (l++rest) ⟨e.toArray,ds⟩:=by
 intro l
 induction l with
 | nil=>intro e _ _ _ h; exact h
 | cons o l ih =>
  intro e hg hd hv h
  obtain ⟨hd1,hd2⟩:=qb hd
  have hw:=ju ops e o j want (hg o (List.mem_cons_self ..))
  simp only [List.cons_append,wpStill]
  rw [hw,if_neg (by simpa using hv),jL]
  refine ih _ (fun o' ho' => hg o' (List.mem_cons_of_mem _ ho')) hd2 (by rw [tw hd1]; exact hv) ?_
  have he:iO e (bc (o::l)) ((bc (o::l)).map fun _=>undef)=iO (pt e o.dst undef) (bc l) ((bc l).map fun _=>undef):=by
   have hu:=fun ds=>mc ds
   unfold bc
   rw [List.filterMap_cons]
   cases o.dst with
   | none=>rfl
   | some d =>
    simp only [iO,iL,hu,pt]
    exact um _ (hu _) _ _ _ _ _ (hu _)
  rw [← he]; exact h
theorem nf:∀ (l:List Oper) {K K':KE} {e:Env} {w:World},pZ P l K e w→(∀ e2,agree (bc l) e e2→K e2 w→K' e2 w)→pZ P l K' e w:=by
 intro l
 induction l with
 | nil=>intro K K' e w h hk; exact hk _ (agree.refl _ _) h
 | cons o rest ih =>
  intro K K' e w h hk
  refine Fx (fun v h=>ih h fun e2 ha hK=>hk e2 (((qd e o.dst v).trans ha).mono ?_) hK) h
  intro i hi
  simp only [List.mem_append] at hi
  unfold bc
  rw [List.filterMap_cons]
  rcases hi with hi | hi
  ·cases hd:o.dst with
   | none=>simp [hd] at hi
   | some d=>simp [hd] at hi; simp [hi]
  ·cases hd:o.dst with
   | none=>exact hi
   | some d=>exact List.mem_cons_of_mem _ hi
theorem ng {ops:List Oper} {K:KE} {Q:Act→Prop} {w:World} (hK:∀ e,K e w→Q ⟨e.toArray,ds⟩) :
  ∀ (gs:List (Option (Nat × Bool) × List Oper)) (e:Env),(∀ g ∈ gs, ∀ o ∈ g.2,o.guard=g.1)→im P ops gs K e w→wpStill P ops.toArray w Q (gs.flatMap (·.2)) ⟨e.toArray,ds⟩:=by
 intro gs
 induction gs with
 | nil=>intro e _ h; exact hK e h
 | cons g gs ih =>
  intro e hg h
  obtain ⟨gd',l⟩:=g
  have hgs:∀ g ∈ gs, ∀ o ∈ g.2,o.guard=g.1:=fun g hh=>hg g (List.mem_cons_of_mem _ hh)
  have hl:=hg (gd',l) (List.mem_cons_self ..)
  rw [List.flatMap_cons]
  cases gd' with
  | none=>exact CA (fun e h=>ih e hgs h) l e hl h
  | some jw =>
   obtain ⟨j,want⟩:=jw
   simp only [im] at h
   cases hd:((ops[j]?).bind (·.dst)).any ((bc l).contains ·)
   case true=>rw [hd] at h; exact h.elim
   case false =>
    rw [hd] at h
    have h:au _ _ _ _ _:=h
    by_cases hv:asB (fX ops e j)=some want
    ·refine AS (K:=fun e' w' => im P ops gs K e' w') (fun e h=>ih e hgs h) l e hl hd hv <|nf l (h.1 hv) ?_
     intro e2 ha h2
     dsimp only at h2
     rw [kz ha] at h2
     exact h2
    ·exact AT l e hl hd hv (ih _ hgs (h.2 hv))
theorem vS (ops:Array Oper) (h:Nat.ble (cR ops) ops.size=true):(Region.lexB .any ops=true∧cR ops=ops.size)∨(Region.lexTailB .any ops (cR ops)=true∧cR ops < ops.size):=by
 have key:∀ n,n≤ops.size→Nat.ble (jr ops n) ops.size=true→Region.lexTailB .any ops (jr ops n)=true∧jr ops n < ops.size:=by
  intro n
  induction n with
  | zero=>intro _ h; simp only [jr] at h; have:=Nat.le_of_ble_eq_true h; omega
  | succ n ih =>
   intro hn h
   simp only [jr] at h ⊢
   cases ht:Region.lexTailB .any ops n
   case true=>exact ⟨ht,by show n < _; omega⟩
   case false=>rw [ht] at h; exact ih (by omega) h
 unfold cR at *
 cases hs:Nat.ble (Cw ops+1) ops.size
 case true =>
  right
  rw [hs] at h
  exact key _ (Nat.le_of_ble_eq_true hs) h
 case false =>
  rw [hs] at h
  cases hl:Region.lexB .any ops
  case true=>left; exact ⟨rfl,rfl⟩
  case false =>
   right
   rw [hl] at h
   exact key ops.size (Nat.le_refl _) h
theorem iA {o:Oper} {a:Act} {w:World} {K:KV} (s:Sem Value) (hs:execOp a.eval o=(do pure (.value (← s)):Sem Next)) (h:okV P s K w):∃ v w',(execOp a.eval o).run P w=.ok (.value v) w'∧K v w':=by
 unfold okV at h
 split at h
 ·rename_i v w' he
  exact ⟨v,w',by rw [hs,ye,he]; rfl,h⟩
 ·exact h.elim
set_option maxHeartbeats 1000000 in
theorem xo {o:Oper} {e:Env} {w:World} {K:KV} (hr:pi o=true) (h:cOp P (ev e) o K w):∃ v w',(execOp (Act.eval ⟨e.toArray,ds⟩) o).run P w=.ok (.value v) w'∧K v w':=by
 have he:Act.eval ⟨e.toArray,ds⟩=ev e:=funext (gD e ds)
 obtain ⟨dst,op,ty,pos,after,guard⟩:=o
 cases op <;> simp only [cOp] at h
 case move x=>exact ⟨_,w,by rw [he]; rfl,h⟩
 case assign x=>exact ⟨_,w,by rw [he]; rfl,h⟩
 case pick c x y =>
  obtain ⟨b,hb,hk⟩:=h
  exact ⟨_,w,by unfold execOp; simp only [he,hb,asBool,Sem.run_bind,Sem.run_pure,Result.andThen],hk⟩
 case build t ps=>exact iA (a:=⟨e.toArray,ds⟩) (Instr.build t (ps.toList.map fun p:Nat × Operand=>(p.1,ev e p.2)).toArray) (by rw [he]; exact congrArg (fun l=>(do pure (.value (← Instr.build t l)):Sem Next)) (uR e ps)) h
 case load t x=>exact iA (a:=⟨e.toArray,ds⟩) (Instr.loadAt t (ev e x)) (by rw [he]; rfl) h
 case nilCheck x =>
  unfold aj at h
  split at h
  ·rename_i a ha; exact ⟨_,w,by unfold execOp; simp only [he,ha]; rfl,h⟩
  ·rename_i f first cap ha; exact ⟨_,w,by unfold execOp; simp only [he,ha]; rfl,h⟩
  ·exact h.elim
 case binOp op t x y yt=>exact iA (a:=⟨e.toArray,ds⟩) (do eqG op t (isC x) (isC y) (ev e x) (ev e y); binOp op t (ev e x) (ev e y)) (by rw [he, ← Dy]; rfl) h
 case unOp op t x=>exact iA (a:=⟨e.toArray,ds⟩) (Op.unary op (ev e x)) (by rw [he]; rfl) h
 case convert s d x=>exact iA (a:=⟨e.toArray,ds⟩) (Go.convert s d (ev e x)) (by rw [he]; rfl) h
 case makeInterface t x=>exact iA (a:=⟨e.toArray,ds⟩) (Instr.makeInterface t (ev e x)) (by rw [he]; rfl) h
 case makeFunc fn first cap =>
  have e1:first.map (ev e)=(first.toList.map (ev e)).toArray:=by rw [← Array.toList_map]
  have e2:cap.map (ev e)=(cap.toList.map (ev e)).toArray:=by rw [← Array.toList_map]
  exact ⟨_,w,by unfold execOp; simp only [he,Instr.makeFunc,Sem.run_bind,Sem.run_pure,Result.andThen]; rw [e1,e2],h⟩
 case slice t x lo hi mx=>exact iA (a:=⟨e.toArray,ds⟩) (Instr.sliceAt t (ev e x) (lo.map (ev e)) (hi.map (ev e)) (mx.map (ev e))) (by rw [he]; rfl) h
 case fieldAddr s x f=>exact iA (a:=⟨e.toArray,ds⟩) (Instr.fieldAt s (ev e x) f) (by rw [he]; rfl) h
 case field s x f=>exact iA (a:=⟨e.toArray,ds⟩) (Instr.field s (ev e x) f) (by rw [he]; rfl) h
 case indexAddr t x i=>exact iA (a:=⟨e.toArray,ds⟩) (Instr.indexAt t (ev e x) (ev e i)) (by rw [he]; rfl) h
 case index t x i=>exact iA (a:=⟨e.toArray,ds⟩) (Instr.index t (ev e x) (ev e i)) (by rw [he]; rfl) h
 case lookup t x i ok=>exact iA (a:=⟨e.toArray,ds⟩) (Instr.lookup t (ev e x) (ev e i) ok) (by rw [he]; rfl) h
 case extract t i=>exact iA (a:=⟨e.toArray,ds⟩) (Instr.extract (ev e t) i) (by rw [he]; rfl) h
 case call c =>
  obtain ⟨callee,args,ats⟩:=c
  have ea:args.map (ev e)=(args.toList.map (ev e)).toArray:=by rw [← Array.toList_map]
  cases callee with
  | invoke r m=>exact h.elim
  | builtin b =>
   have hx:execOp (Act.eval ⟨e.toArray,ds⟩) { dst,op:=.call { callee:=.builtin b,args,argTypes:=ats },type:=ty,pos,after,guard } = builtin b ats ty (args.map isC) (args.map (ev e)):=by rw [he]; rfl
   have hc:args.map isC=(args.toList.map isC).toArray:=by rw [← Array.toList_map]
   have h:blt P b ats ty (args.toList.map isC).toArray (args.toList.map (ev e)).toArray K w:=h
   unfold blt at h
   split at h
   ·rename_i v w' hr; exact ⟨v,w',by rw [hx,hc,ea]; exact hr,h⟩
   ·exact h.elim
  | value f=>simp [pi] at hr
 all_goals first | exact h.elim | (simp [pi] at hr)
theorem Bo {S:World→Prop} {e:Env} {o:Oper} {k:Value→Prop} (h:hOp P S e o k):hld S (fun k w=>cOp P (ev e) o k w) k:=by
 unfold hOp at h
 split at h
 ·rename_i x ho; exact ⟨_,fun w _=>by unfold cOp; simp only [ho]; exact ⟨(by first | trivial | rfl),(by first | trivial | rfl)⟩,h⟩
 ·rename_i x ho; exact ⟨_,fun w _=>by unfold cOp; simp only [ho]; exact ⟨(by first | trivial | rfl),(by first | trivial | rfl)⟩,h⟩
 ·rename_i fn first cap ho; exact ⟨_,fun w _=>by unfold cOp; simp only [ho]; exact ⟨(by first | trivial | rfl),(by first | trivial | rfl)⟩,h⟩
 ·exact h
theorem DC {f:Nat→Prop}:∀ (l:List Nat),oH l f→∀ i ∈ l,f i:=by
 intro l
 induction l with
 | nil=>intro _ i hi; cases hi
 | cons j r ih =>
  intro h i hi
  cases r with
  | nil =>
   rcases List.mem_cons.1 hi with rfl | hi
   ·exact h
   ·cases hi
  | cons j2 r2 =>
   have h:f j∧oH (j2::r2) f:=h
   rcases List.mem_cons.1 hi with rfl | hi
   ·exact h.1
   ·exact ih h.2 i hi
theorem CB {f g:Nat→Prop} (hfg:∀ i,f i→g i):∀ (l:List Nat),oH l f→oH l g:=by
 intro l
 induction l with
 | nil=>exact id
 | cons j r ih =>
  intro h
  cases r with
  | nil=>exact hfg _ h
  | cons j2 r2 =>
   have h:f j∧oH (j2::r2) f:=h
   exact ⟨hfg _ h.1,ih h.2⟩
/-! ### A reading may be taken ahead of what does not turn it. -/
section taken
variable {ops:Array Oper} {Q:Exit→Act→World→Prop} {S:World→Prop}
def me (ops:Array Oper) (listed:Array Bool):Prop := ∀ (j:Nat) (o:Oper),ops[j]? = some o→listed.getD j false=true→∀ e ∈ o.after,Region.binds .any e=true→listed.getD e.on false=true
theorem yL {listed:Array Bool} {i j:Nat} (h:(listed.setIfInBounds i true).getD j false=true):listed.getD j false=true∨j=i:=by
 by_cases hij:j=i
 ·exact .inr hij
 ·left; rw [getD_set_ne false (Ne.symm hij)] at h; exact h
theorem jM {listed:Array Bool} {i:Nat} (hc:me ops listed) (hr:i ∈ Region.ready .any ops listed):me ops (listed.setIfInBounds i true):=by
 intro j o ho hl e he hb
 rcases yL hl with h | rfl
 ·exact getD_set_true (hc j o ho h e he hb)
 ·obtain ⟨_,o',ho',hall⟩:=mem_ready.1 hr
  rw [ho] at ho'; cases ho'
  exact getD_set_true (hall e he hb)
theorem uo {listed:Array Bool} {j:Nat} (hj:∀ o,ops[j]? = some o→∀ e ∈ o.after,Region.binds .any e=true→listed.getD e.on false=true):∀ x ∈ xm ops j,listed.getD x false=true:=by
 intro x hx
 unfold xm at hx
 split at hx
 ·rename_i o ho
  simp only [List.mem_map,List.mem_filter] at hx
  obtain ⟨e,⟨he,hb⟩,rfl⟩:=hx
  exact hj o ho e (by simpa using he) hb
 ·cases hx
theorem AU {listed:Array Bool} (hc:me ops listed):∀ (f:Nat) (todo seen:List Nat),(∀ x ∈ todo,listed.getD x false=true)→(∀ x ∈ seen,listed.getD x false=true)→∀ x ∈ xn ops f todo seen,listed.getD x false=true:=by
 intro f
 induction f with
 | zero=>intro todo seen _ h2; exact h2
 | succ f ih =>
  intro todo seen h1 h2
  cases todo with
  | nil=>exact h2
  | cons j todo =>
   simp only [xn]
   split
   ·exact ih _ _ (fun x hx=>h1 x (List.mem_cons_of_mem _ hx)) h2
   ·refine ih _ _ (fun x hx => ?_) (fun x hx => ?_)
    ·rcases List.mem_append.1 hx with hx | hx
     ·exact uo (fun o ho e he hb=>hc j o ho (h1 j (List.mem_cons_self ..)) e he hb) x hx
     ·exact h1 x (List.mem_cons_of_mem _ hx)
    ·rcases List.mem_cons.1 hx with rfl | hx
     ·exact h1 _ (List.mem_cons_self ..)
     ·exact h2 x hx
theorem Fy {k:Nat}:∀ {l:List Nat},xk k l=true→k ∈ l:=by
 intro l
 induction l with
 | nil=>intro h; cases h
 | cons i r ih =>
  intro h
  simp only [xk,Bool.or_eq_true] at h
  rcases h with h | h
  ·rw [Nat.eq_of_beq_eq_true h]; exact List.mem_cons_self ..
  ·exact List.mem_cons_of_mem _ (ih h)
theorem AW {listed:Array Bool} {i j:Nat} {pend:List Nat} (hc:me ops listed) (hj:j ∈ Region.ready .any ops listed) (hi:i ∈ Region.ready .any ops listed):ep ops (i::pend) j=i::ep ops pend j:=by
 unfold ep
 rw [List.filter_cons_of_pos]
 cases hm:xk i (xn ops 1000 (xm ops j) []) with
 | false=>rfl
 | true =>
  obtain ⟨_,o,ho,hall⟩:=mem_ready.1 hj
  have h1:=AU hc 1000 (xm ops j) [] (uo fun o' ho' => by rw [ho] at ho'; cases ho'; exact hall) (fun x hx=>by cases hx) i (Fy hm)
  have h0:=(mem_ready.1 hi).1
  rcases Nat.lt_or_ge i listed.size with h' | h'
  ·simp [h'] at h0 h1; rw [h0] at h1; cases h1
  ·simp [Array.getElem?_eq_none h'] at h1
def hJ (P:Program) (ops:Array Oper) (Q:Exit→Act→World→Prop) (S:World→Prop):Nat→Array Bool→List Nat→Act→World→Prop
 | 0,listed,_,a,w=>Region.ready .any ops listed=[]∧Q .normal a w
 | fuel+1,listed,pend,a,w =>
  (Region.ready .any ops listed=[]→Q .normal a w) ∧
  ∀ i ∈ Region.ready .any ops listed,wpOp P ops Q i (fun a' w' => (ep ops pend i≠[]→S w')∧hJ P ops Q S fuel (listed.setIfInBounds i true) (ep ops pend i) a' w') a w
theorem nh:∀ (fuel:Nat) (listed:Array Bool) (pend:List Nat) (a:Act) (w:World),hJ P ops Q S fuel listed pend a w→wpAny P .any ops Q fuel listed a w
 | 0,_,_,_,_,h=>h
 | fuel+1,_,_,_,_,h=>⟨h.1,fun i hi=>wpOp_mono (fun a' w' h' => nh fuel _ _ a' w' h'.2) (h.2 i hi)⟩
theorem yh:∀ (fuel:Nat) (listed:Array Bool) (a:Act) (w:World),wpAny P .any ops Q fuel listed a w→hJ P ops Q S fuel listed [] a w
 | 0,_,_,_,h=>h
 | fuel+1,_,_,_,h=>⟨h.1,fun i hi=>wpOp_mono (fun a' w' h' => ⟨fun hh=>absurd rfl hh,yh fuel _ a' w' h'⟩) (h.2 i hi)⟩
theorem zC {S2:World→Prop} (hS:∀ x,S2 x→S x):∀ (fuel:Nat) (listed:Array Bool) (pend:List Nat) (a:Act) (w:World),hJ P ops Q S2 fuel listed pend a w→hJ P ops Q S fuel listed pend a w
 | 0,_,_,_,_,h=>h
 | fuel+1,_,_,_,_,h=>⟨h.1,fun i hi=>wpOp_mono (fun a' w' h' => ⟨fun hne=>hS _ (h'.1 hne),zC hS fuel _ _ a' w' h'.2⟩) (h.2 i hi)⟩
theorem yi {p p2:List Nat} {i:Nat} (h:∀ x ∈ p,x ∈ p2):∀ x ∈ ep ops p i,x ∈ ep ops p2 i:=by
 intro x hx
 unfold ep at *
 rw [List.mem_filter] at *
 exact ⟨h x hx.1,hx.2⟩
theorem lz:∀ (fuel:Nat) (listed:Array Bool) (p p2:List Nat) (a:Act) (w:World),(∀ x ∈ p,x ∈ p2)→hJ P ops Q S fuel listed p2 a w→hJ P ops Q S fuel listed p a w
 | 0,_,_,_,_,_,_,h=>h
 | fuel+1,_,p,p2,_,_,hp,h=>⟨h.1,fun i hi=>wpOp_mono (fun a' w' h' => ⟨fun hne=>h'.1 (fun h0=>hne (by
   cases hl:ep ops p i with
   | nil=>rfl
   | cons x r =>
    have:=yi (ops:=ops) (i:=i) hp x (by rw [hl]; exact List.mem_cons_self ..)
    rw [h0] at this; cases this)),lz fuel _ _ _ a' w' (yi hp) h'.2⟩) (h.2 i hi)⟩
theorem zD {i:Nat} {oi:Oper} {v:Value} (hi:ops[i]? = some oi) (hsel:∀ (j:Nat) (o:Oper) cs b,ops[j]? = some o→o.op≠.select cs b)
  (hQ:∀ c a w,Q (.panic c) (a.put oi.dst v) w→Q (.panic c) a w) :
  ∀ (fuel:Nat) (listed:Array Bool) (pend:List Nat) (a:Act) (w:World),me ops listed →
   (∀ j oj,ops[j]? = some oj→j≠i→listed.getD j true=false→(∀ e ∈ oj.after,Region.binds .any e=true→e.on≠i)→oi.apart ops oj=true) →
   i ∈ Region.ready .any ops listed→YieldsIf P ops S oi v a→S w →
   hJ P ops Q S fuel (listed.setIfInBounds i true) (i::pend) (a.put oi.dst v) w→hJ P ops Q S (fuel+1) listed pend a w:=by
 intro fuel
 induction fuel with
 | zero =>
  intro listed pend a w _ _ hr hy hS H
  refine ⟨fun h=>(by rw [h] at hr; cases hr),fun j hj => ?_⟩
  by_cases hji:j=i
  ·subst hji; exact hy.wpOp hi hS ⟨fun _=>hS,H⟩
  ·have:=ready_mono hj hji
   rw [H.1] at this
   cases this
 | succ fuel ih =>
  intro listed pend a w hc hfree hr hy hS H
  refine ⟨fun h=>(by rw [h] at hr; cases hr),fun j hj => ?_⟩
  by_cases hji:j=i
  ·subst hji
   refine hy.wpOp hi hS ⟨fun _=>hS,lz _ _ _ _ _ _ (fun x hx => ?_) H⟩
   unfold ep at hx
   exact List.mem_cons_of_mem _ (List.mem_filter.1 hx).1
  ·have h1:=H.2 j (ready_mono hj hji)
   rw [AW hc hj hr] at h1
   obtain ⟨hjun,oj,hoj,hall⟩:=mem_ready.1 hj
   have hnot:∀ e ∈ oj.after,Region.binds .any e=true→e.on≠i:=fun e he hb heq=>by
    have h1:=hall e he hb
    have h0:=(mem_ready.1 hr).1
    rw [heq] at h1
    rcases Nat.lt_or_ge i listed.size with h' | h'
    ·simp [h'] at h0 h1; rw [h0] at h1; cases h1
    ·simp [Array.getElem?_eq_none h'] at h1
   have h2:=wpOp_putIf hoj (hfree j oj hoj hji hjun hnot) (fun cs b=>hsel i oi cs b hi) (fun cs b=>hsel j oj cs b hoj) hQ hy h1
   have hfree':∀ k ok,ops[k]? = some ok→k≠i→(listed.setIfInBounds j true).getD k true=false →
     (∀ e ∈ ok.after,Region.binds .any e=true→e.on≠i)→oi.apart ops ok=true:=fun k ok hk hki hun hno=>by
    refine hfree k ok hk hki ?_ hno
    by_cases hjk:j=k
    ·subst hjk; exact hjun
    ·rw [getD_set_ne true hjk] at hun; exact hun
   refine wpOp_mono (fun a' w' h3 => ?_) h2
   have hS':S w':=h3.2.1 (by simp)
   refine ⟨fun _=>hS',ih (listed.setIfInBounds j true) _ a' w' (jM hc hj) hfree' (ready_mono hr (Ne.symm hji)) h3.1 hS' ?_⟩
   rw [Array.setIfInBounds_comm _ _ hji]
   exact h3.2.2
theorem AX {i:Nat} {oi:Oper} {v:Value} (hi:ops[i]? = some oi) (hsel:∀ (j:Nat) (o:Oper) cs b,ops[j]? = some o→o.op≠.select cs b)
  (hQ:∀ c a w,Q (.panic c) (a.put oi.dst v) w→Q (.panic c) a w) :
  ∀ (fuel:Nat) (listed:Array Bool) (pend:List Nat) (a:Act) (w:World),me ops listed →
   (∀ j oj,ops[j]? = some oj→j≠i→listed.getD j true=false→(∀ e ∈ oj.after,Region.binds .any e=true→e.on≠i)→oi.apart ops oj=true) →
   i ∈ Region.ready .any ops listed→YieldsIf P ops (fun _=>True) oi v a→(pend≠[]→S w) →
   hJ P ops Q S fuel (listed.setIfInBounds i true) pend (a.put oi.dst v) w→hJ P ops Q S (fuel+1) listed pend a w:=by
 intro fuel
 induction fuel with
 | zero =>
  intro listed pend a w _ _ hr hy hS H
  refine ⟨fun h=>(by rw [h] at hr; cases hr),fun j hj => ?_⟩
  by_cases hji:j=i
  ·subst hji; exact hy.wpOp hi trivial ⟨fun hh=>hS (fun h0=>hh (by rw [h0]; rfl)),lz 0 _ _ pend _ _ (fun x hx=>(List.mem_filter.1 hx).1) H⟩
  ·have:=ready_mono hj hji
   rw [H.1] at this
   cases this
 | succ fuel ih =>
  intro listed pend a w hc hfree hr hy hS H
  refine ⟨fun h=>(by rw [h] at hr; cases hr),fun j hj => ?_⟩
  by_cases hji:j=i
  ·subst hji
   exact hy.wpOp hi trivial ⟨fun hh=>hS (fun h0=>hh (by rw [h0]; rfl)),lz _ _ _ _ _ _ (fun x hx=>(List.mem_filter.1 hx).1) H⟩
  ·have h1:=H.2 j (ready_mono hj hji)
   obtain ⟨hjun,oj,hoj,hall⟩:=mem_ready.1 hj
   have hnot:∀ e ∈ oj.after,Region.binds .any e=true→e.on≠i:=fun e he hb heq=>by
    have h1:=hall e he hb
    have h0:=(mem_ready.1 hr).1
    rw [heq] at h1
    rcases Nat.lt_or_ge i listed.size with h' | h'
    ·simp [h'] at h0 h1; rw [h0] at h1; cases h1
    ·simp [Array.getElem?_eq_none h'] at h1
   have h2:=wpOp_putIf hoj (hfree j oj hoj hji hjun hnot) (fun cs b=>hsel i oi cs b hi) (fun cs b=>hsel j oj cs b hoj) hQ hy h1
   have hfree':∀ k ok,ops[k]? = some ok→k≠i→(listed.setIfInBounds j true).getD k true=false →
     (∀ e ∈ ok.after,Region.binds .any e=true→e.on≠i)→oi.apart ops ok=true:=fun k ok hk hki hun hno=>by
    refine hfree k ok hk hki ?_ hno
    by_cases hjk:j=k
    ·subst hjk; exact hjun
    ·rw [getD_set_ne true hjk] at hun; exact hun
   refine wpOp_mono (fun a' w' h3 => ?_) h2
   refine ⟨h3.2.1,ih (listed.setIfInBounds j true) _ a' w' (jM hc hj) hfree' (ready_mono hr (Ne.symm hji)) h3.1 h3.2.1 ?_⟩
   rw [Array.setIfInBounds_comm _ _ hji]
   exact h3.2.2
theorem oO {listed:Array Bool} {pend:List Nat} {a:Act} {w:World} (hr:Region.ready .any ops listed=[]) (h:Q .normal a w) :
  ∀ fuel,hJ P ops Q S fuel listed pend a w
 | 0=>⟨hr,h⟩
 | _+1=>⟨fun _=>h,by rw [hr]; simp⟩
end taken
theorem vT {ops:Array Oper} {K:KE} {Q:Exit→Act→World→Prop} (hK:∀ e w,K e w→Q .normal ⟨e.toArray,ds⟩ w) (hQ:∀ c a w, ¬ Q (.panic c) a w)
  (hs:Region.noSelect ops=true) :
  ∀ (f:Nat) (listed:Array Bool) (pend:List Nat) (S:World→Prop) (e:Env) (w:World),S w→me ops listed→bQ P ops K f listed pend S e w→hJ P ops Q S f listed pend ⟨e.toArray,ds⟩ w:=by
 intro f
 induction f with
 | zero =>
  intro listed pend S e w hS hc h
  simp only [bQ] at h
  cases hr:(Region.ready .any ops listed).isEmpty
  case false=>rw [hr] at h; exact h.elim
  case true =>
   rw [hr] at h
   exact oO (List.isEmpty_iff.1 hr) (hK _ _ h) 0
 | succ f ih =>
  intro listed pend S e w hS hc h
  simp only [bQ] at h
  cases hr:(Region.ready .any ops listed).isEmpty
  case true =>
   rw [hr] at h
   exact oO (List.isEmpty_iff.1 hr) (hK _ _ h) _
  case false =>
   rw [hr] at h
   have hne:Region.ready .any ops listed≠[]:=fun hh=>by rw [hh] at hr; cases hr
   dsimp only at h
   cases hf:(Region.ready .any ops listed).find? (rZ ops listed) with
   | some i =>
    rw [hf] at h
    have h:hAt ops i _:=h
    have hmem:=List.mem_of_find?_eq_some hf
    have hrd:=List.find?_some hf
    unfold rZ at hrd
    unfold hAt at h
    cases ho:ops[i]? with
    | none=>rw [ho] at h; exact h.elim
    | some o =>
     rw [ho] at h hrd
     simp only [Bool.and_eq_true] at hrd
     cases hpu:rY o with
     | true =>
      dsimp only at h
      rw [hpu] at h
      obtain ⟨v,hv,hk⟩:=Bo h
      have hgu:o.guard=none:=by
       unfold rY at hpu
       cases hg:o.guard with
       | none=>rfl
       | some _=>rw [hg] at hpu; cases hpu
      have hy:YieldsIf P ops (fun _=>True) o v ⟨e.toArray,ds⟩:=.inl ⟨by simp [Region.wanted,hgu],fun w hS=>by
       obtain ⟨v',w',hr',rfl,rfl⟩:=xo hrd.1 (hv w hS)
       exact hr'⟩
      refine AX ho (Region.noSelect_spec hs) (fun c a w hh=>absurd hh (hQ _ _ _)) (v:=v) _ _ _ _ _ hc (Region.free_spec ho hrd.2) hmem hy (fun _=>hS) ?_
      rw [jL]; exact ih _ _ _ _ _ hS (jM hc hmem) hk
     | false =>
     dsimp only at h
     rw [hpu] at h
     have key:∃ v,YieldsIf P ops S o v ⟨e.toArray,ds⟩∧bQ P ops K f (listed.setIfInBounds i true) (i::pend) S (pt e o.dst v) w:=by
      dsimp only at h
      unfold xj at h
      cases hgu:o.guard with
      | none =>
       rw [hgu] at h
       obtain ⟨v,hv,hk⟩:=Bo h
       refine ⟨v,.inl ⟨by simp [Region.wanted,hgu],fun w hS => ?_⟩,hk⟩
       obtain ⟨v',w',hr',rfl,rfl⟩:=xo hrd.1 (hv w hS)
       exact hr'
      | some jw =>
       obtain ⟨j,want⟩:=jw
       rw [hgu] at h
       obtain ⟨v,hv,hu,hk⟩:=h
       have hw:=ju ops.toList e o j want hgu
       rw [show ops.toList.toArray=ops from rfl] at hw
       refine ⟨v, ?_,hk⟩
       by_cases ha:asB (fX ops.toList e j)=some want
       ·refine .inl ⟨by rw [hw,ha]; simp,fun w hS => ?_⟩
        obtain ⟨v',w',hr',rfl,rfl⟩:=xo hrd.1 (hv ha w hS)
        exact hr'
       ·exact .inr ⟨by rw [hw]; simpa using ha,hu ha⟩
     obtain ⟨v,hy,hk⟩:=key
     refine zD ho (Region.noSelect_spec hs) (fun c a w hh=>absurd hh (hQ _ _ _)) (v:=v) _ _ _ _ _ hc (Region.free_spec ho hrd.2) hmem hy hS ?_
     rw [jL]; exact ih _ _ _ _ _ hS (jM hc hmem) hk
   | none =>
    rw [hf] at h
    refine ⟨fun h0=>absurd h0 hne,fun i hi => ?_⟩
    have h2:=DC _ h i hi
    unfold hAt at h2
    cases ho:ops[i]? with
    | none=>rw [ho] at h2; exact h2.elim
    | some o =>
     rw [ho] at h2
     have fin:∀ (v:Value) (w':World),(match ep ops pend i with
       | [] =>
        match (Region.ready .any ops (listed.setIfInBounds i true)).isEmpty with
        | true=>bQ P ops K f (listed.setIfInBounds i true) [] S (pt e o.dst v) w'
        | false=>aX (fun S w=>bQ P ops K f (listed.setIfInBounds i true) [] S (pt e o.dst v) w) w'
       | p::ps=>dB S (fun S w=>bQ P ops K f (listed.setIfInBounds i true) (p::ps) S (pt e o.dst v) w) w') →
       (ep ops pend i≠[]→S w')∧hJ P ops Q S f (listed.setIfInBounds i true) (ep ops pend i) ⟨(pt e o.dst v).toArray,ds⟩ w':=by
      intro v w' hh
      cases hl:ep ops pend i with
      | nil =>
       rw [hl] at hh
       dsimp only at hh
       refine ⟨fun h0=>absurd rfl h0, ?_⟩
       cases hr2:(Region.ready .any ops (listed.setIfInBounds i true)).isEmpty with
       | true =>
        rw [hr2] at hh
        have hh:bQ P ops K f (listed.setIfInBounds i true) [] S (pt e o.dst v) w':=hh
        have:K (pt e o.dst v) w':=by
         cases f with
         | zero=>simp only [bQ,hr2] at hh; exact hh
         | succ f=>simp only [bQ,hr2] at hh; exact hh
        exact oO (List.isEmpty_iff.1 hr2) (hK _ _ this) _
       | false =>
        rw [hr2] at hh
        obtain ⟨S2,hS2,hh⟩:=hh
        exact yh _ _ _ _ (nh _ _ _ _ _ (ih _ _ _ _ _ hS2 (jM hc hi) hh))
      | cons p ps =>
       rw [hl] at hh
       obtain ⟨S2,hS2,hSw,hh⟩:dB S (fun S w=>bQ P ops K f (listed.setIfInBounds i true) (p::ps) S (pt e o.dst v) w) w':=hh
       exact ⟨fun _=>hS2 _ hSw,zC hS2 _ _ _ _ _ (ih _ _ _ _ _ hSw (jM hc hi) hh)⟩
     refine wpOp_step ho fun K' hK' => ?_
     dsimp only at h2
     unfold nM at h2
     cases hgu:o.guard with
     | none =>
      rw [hgu] at h2
      rw [if_pos (by simp [Region.wanted,hgu])]
      exact jt h2 fun v w' hh=>hK' _ _ (fin v w' hh)
     | some jw =>
      obtain ⟨j,want⟩:=jw
      rw [hgu] at h2
      have hw:=ju ops.toList e o j want hgu
      rw [show ops.toList.toArray=ops from rfl] at hw
      by_cases ha:asB (fX ops.toList e j)=some want
      ·rw [if_pos (by rw [hw,ha]; simp)]
       exact jt (h2.1 ha) fun v w' hh=>hK' _ _ (fin v w' hh)
      ·rw [if_neg (by rw [hw]; simpa using ha)]
       refine hK' _ _ ?_
       rw [jL]
       exact fin undef w (h2.2 ha)
theorem uq (ops:Array Oper) (n:Nat):me ops (Array.replicate n false):=by
 intro j o _ h
 rcases Nat.lt_or_ge j n with h' | h'
 ·simp [Array.getD,h'] at h
 ·simp [Array.getD,Nat.not_lt.2 h'] at h
theorem vU {ops:Array Oper} (h:ky P ops=true):Region.noSelect ops=true:=by
 simp only [ky,Bool.and_eq_true] at h
 exact h.1
theorem ur:∀ (c:Code) (N:KE) (X:Nat→KE) (R:KE) (e:Env) (w:World),ac P c N X R e w→c.wp P (QQ ds N X R) ⟨e.toArray,ds⟩ w:=by
 intro c
 induction c with
 | skip=>intro N X R e w h; exact wp_skip ⟨e,rfl,h⟩
 | region id ops draw =>
  intro N X R e w h
  cases draw with
  | true =>
   simp only [ac] at h
   cases hd:(P.follows .mixedOrders && ky P ops)
   case true =>
    rw [hd] at h
    obtain ⟨S,hS,h⟩:=h
    simp only [Bool.and_eq_true] at hd
    exact wp_region_any hd.1 (nh _ _ _ _ _ (vT (fun e w hN=>⟨e,rfl,hN⟩) (fun c a w hh=>hh) (vU hd.2) _ _ _ _ _ _ hS (uq ops _) h))
   case false =>
   rw [hd] at h
   dsimp only at h
   cases hf:(P.follows .mixedOrders && Nat.ble (cR ops) ops.size)
   case false=>rw [hf] at h; exact h.elim
   case true =>
    rw [hf] at h
    have h:im _ _ _ _ _ _:=h
    simp only [Bool.and_eq_true] at hf
    obtain ⟨h1,h2⟩:=iP (ops.toList.take (cR ops))
    obtain ⟨h3,h4⟩:=iP (ops.toList.drop (cR ops))
    have tail:∀ e,aW P ops.toList (grp (ops.toList.drop (cR ops))) N e w.drew→wpList P ops.toList.toArray (QQ ds N X R) (ops.toList.drop (cR ops)) ⟨e.toArray,ds⟩ w.drew:=by
     intro e he
     have:=n5 (P:=P) (ops:=ops.toList) (Q:=QQ ds N X R) (K:=N) (fun e w h=>⟨e,rfl,h⟩) (grp (ops.toList.drop (cR ops))) e w.drew h4 he
     rwa [h3] at this
    rcases vS ops hf.2 with ⟨hB,hn⟩ | ⟨hB,hn⟩
    ·have hs:=ng (P:=P) (ops:=ops.toList) (Q:=fun a=>QQ ds N X R .normal a w.drew) (w:=w.drew) (fun e he=>by
      have:=tail e he
      rw [hn,List.drop_of_length_le (by simp)] at this
      exact this) _ e h2 h
     rw [h1,hn,List.take_of_length_le (by simp)] at hs
     refine wp_region_still hf.1 hB ?_
     simpa using hs
    ·have hs:=ng (P:=P) (ops:=ops.toList) (Q:=fun a=>wpList P ops.toList.toArray (QQ ds N X R) (ops.toList.drop (cR ops)) a w.drew) (w:=w.drew) (fun e he=>tail e he) _ e h2 h
     rw [h1] at hs
     have:=wp_region_still_tail (P:=P) (id:=id) (Q:=QQ ds N X R) (a:=⟨e.toArray,ds⟩) (w:=w) (l:=ops.toList) (cR ops) hf.1 (by simpa using hB) hs
     simpa using this
  | false =>
   refine wp_region_list ?_
   obtain ⟨h1,h2⟩:=iP ops.toList
   have:=n5 (P:=P) (ops:=ops.toList) (Q:=QQ ds N X R) (K:=N) (fun e w h=>⟨e,rfl,h⟩) (grp ops.toList) e w h2 h
   rw [h1] at this
   simpa using this
 | seq a b iha ihb =>
  intro N X R e w h
  refine wp_seq (wp_mono (iha _ _ _ _ _ h) ?_)
  intro x a w hq
  cases x with
  | normal=>obtain ⟨e,rfl,h⟩:=hq; exact ihb _ _ _ _ _ h
  | _=>exact hq
 | cond c x y ihx ihy =>
  intro N X R e w h
  obtain ⟨b,hb,h1,h2⟩:=h
  cases b with
  | true=>exact wp_cond (t:=true) (by rw [gD]; exact hb) (ihx _ _ _ _ _ (h1 rfl))
  | false=>exact wp_cond (t:=false) (by rw [gD]; exact hb) (ihy _ _ _ _ _ (h2 rfl))
 | block id c ih =>
  intro N X R e w h
  refine wp_block (wp_mono (ih _ _ _ _ _ h) ?_)
  intro x a w hq
  cases x with
  | exit i =>
   obtain ⟨e,rfl,h⟩:=hq
   simp only [Exit.inBlock]
   by_cases hi:i=id
   ·rw [if_pos hi]
    have:Nat.beq i id=true:=by rw [hi]; exact Nat.beq_refl id
    rw [this] at h
    exact ⟨e,rfl,h⟩
   ·rw [if_neg hi]
    have:Nat.beq i id=false:=by
     cases hb:Nat.beq i id with
     | false=>rfl
     | true=>exact absurd (Nat.eq_of_beq_eq_true hb) hi
    rw [this] at h
    exact ⟨e,rfl,h⟩
  | _=>exact hq
 | loop c ih =>
  intro N X R e w h
  obtain ⟨I,μ,h0,hs⟩:=h
  refine wp_loop (fun a w => ∃ e:Env,a=⟨e.toArray,ds⟩∧I e w) (fun a w=>μ a.tmps.toList w) ⟨e,rfl,h0⟩ ?_
  rintro _ w' ⟨e',rfl,hI⟩
  refine wp_mono (ih _ _ _ _ _ (hs e' w' hI)) ?_
  intro x a w hq
  cases x with
  | normal=>obtain ⟨e2,rfl,h1,h2⟩:=hq; exact ⟨⟨e2,rfl,h1⟩,by simpa using h2⟩
  | _=>exact hq
 | exit i=>intro N X R e w h; exact wp_exit ⟨e,rfl,h⟩
 | ret=>intro N X R e w h; exact wp_ret ⟨e,rfl,h⟩
 | _=>intro N X R e w h; exact h.elim
def dD (l:List (Option TypeId × Value)):Sem Value:=do
 let vs ← l.toArray.mapM fun | (none,v)=>pure v | (some t,a)=>do loadVar t (← asAddr a)
 pure (if h:vs.size=1 then vs[0] else .tuple vs)
def aH (P:Program) (l:List (Option TypeId × Value)) (K:KV) (w:World):Prop:=match (dD l).run P w with | .ok v w' => w'=w∧K v w | _=>False
def sa (rs:List ResultVar) (e:Env):List (Option TypeId × Value):=rs.map fun | .tmp t=>(none,gd e t) | .cell a t=>(some t,gd e a)
def oP (P:Program) (rs:List ResultVar) (K:KV) (e:Env) (w:World):Prop :=
 match rs with
 | []=>K (.tuple #[]) w
 | [.tmp t]=>K (gd e t) w
 | [.tmp t,.tmp u]=>K (.tuple #[gd e t,gd e u]) w
 | [.tmp t,.tmp u,.tmp v]=>K (.tuple #[gd e t,gd e u,gd e v]) w
 | [.tmp t,.tmp u,.tmp v,.tmp x]=>K (.tuple #[gd e t,gd e u,gd e v,gd e x]) w
 | rs=>aH P (sa rs e) K w
theorem CC (fn:Func) (e:Env) (w:World):(results fn e.toArray).run P w=(dD (sa fn.results.toList e)).run P w:=by
 unfold results dD sa
 have:((fn.results.toList.map fun | .tmp t=>((none,gd e t):Option TypeId × Value) | .cell a t=>(some t,gd e a))).toArray=fn.results.map (fun | .tmp t=>((none,gd e t):Option TypeId × Value) | .cell a t=>(some t,gd e a)):=by
  rw [← Array.toList_map]
 rw [this,Array.mapM_map]
 congr 2
 congr 1
 funext x
 cases x with
 | tmp t=>simp only [Function.comp,nN]
 | cell a t=>simp only [Function.comp,nN]
theorem ni {fn:Func} {K:KV} {e:Env} {w:World} (h:oP P fn.results.toList K e w) :
  ∃ v,(results fn e.toArray).run P w=.ok v w∧K v w:=by
 rw [CC]
 unfold oP at h
 split at h
 ·rename_i hr; rw [hr]; exact ⟨_,by simp [dD,sa],h⟩
 ·rename_i hr; rw [hr]; exact ⟨_,by simp [dD,sa],h⟩
 ·rename_i hr; rw [hr]; exact ⟨_,by simp [dD,sa],h⟩
 ·rename_i hr; rw [hr]; exact ⟨_,by simp [dD,sa],h⟩
 ·rename_i hr; rw [hr]; exact ⟨_,by simp [dD,sa],h⟩
 ·unfold aH at h
  split at h
  ·rename_i v w' hrun
   obtain ⟨rfl,hk⟩:=h
   exact ⟨v,hrun,hk⟩
  ·exact h.elim
theorem enter {f:FuncId} {fn:Func} {c:Code} {args:List Value} {w:World} {K:KV} (hf:P.funcs[f]? = some fn) (hb:fn.body=some c)
  (h:ac P c (oP P fn.results.toList K) (fun _ _ _=>False) (oP P fn.results.toList K) (args++List.replicate (fn.ntmps - args.length) undef) w):Gives P f args.toArray w K:=by
 refine calls_of_wp hf hb ?_
 have e1:args.toArray++Array.replicate (fn.ntmps - args.toArray.size) undef=(args++List.replicate (fn.ntmps - args.length) undef).toArray:=by simp
 rw [e1]
 refine wp_mono (ur c _ _ _ _ _ h) ?_
 intro x a w hq
 cases x with
 | normal=>obtain ⟨e,rfl,h⟩:=hq; obtain ⟨v,h1,h2⟩:=ni h; exact ⟨rfl,v,h1,v,rfl,h2⟩
 | ret=>obtain ⟨e,rfl,h⟩:=hq; obtain ⟨v,h1,h2⟩:=ni h; exact ⟨rfl,v,h1,v,rfl,h2⟩
 | exit i=>obtain ⟨_,_,h⟩:=hq; exact h.elim
 | _=>exact hq.elim
/-! ## What a piece of code does not write stays. -/

def wr:Code→List Nat
 | .region _ ops _=>bc ops.toList
 | .seq a b=>wr a++wr b
 | .cond _ x y=>wr x++wr y
 | .block _ c=>wr c
 | .loop c=>wr c
 | _=>[]
theorem k0:∀ (ds:List Nat) (vs:List Value) (e:Env),agree ds e (iO e ds vs):=by
 intro ds vs e
 refine ⟨?_,fun i hi=>by simp only [gd,List.getD,iO,DA vs ds 0 e i hi]⟩
 have:∀ (ds:List Nat) (k:Nat) (e:Env),(iL vs ds k e).length=e.length:=by
  intro ds
  induction ds with
  | nil=>intro k e; rfl
  | cons d ds ih=>intro k e; simp only [iL]; rw [ih]; simp
 exact this ds 0 e
theorem vV {ops:List Oper}:∀ (gs:List (Option (Nat × Bool) × List Oper)) {K K':KE} {e:Env} {w:World},aW P ops gs K e w →
  (∀ e2 w2,agree (bc (gs.flatMap (·.2))) e e2→K e2 w2→K' e2 w2)→aW P ops gs K' e w:=by
 intro gs
 induction gs with
 | nil=>intro K K' e w h hk; exact hk _ _ (agree.refl _ _) h
 | cons g gs ih =>
  intro K K' e w h hk
  obtain ⟨gd',l⟩:=g
  have hd:bc (((gd',l)::gs).flatMap (·.2))=bc l++bc (gs.flatMap (·.2)):=by simp [bc,List.filterMap_append]
  rw [hd] at hk
  cases gd' with
  | none=>exact mZ l h fun e2 w2 ha h2=>ih h2 fun e3 w3 hb=>hk e3 w3 (ha.trans hb)
  | some jw =>
   obtain ⟨j,want⟩:=jw
   simp only [aW] at h ⊢
   cases hdd:((ops[j]?).bind (·.dst)).any ((bc l).contains ·)
   case true=>rw [hdd] at h; exact h.elim
   case false =>
    rw [hdd] at h
    have h:au _ _ _ _ _:=h
    show au _ _ _ _ _
    refine ⟨fun hv => ?_,fun hv => ?_⟩
    ·refine mZ l (h.1 hv) ?_
     intro e2 w2 ha h2
     exact ih h2 fun e3 w3 hb=>hk e3 w3 ((k0 _ _ _).trans hb)
    ·exact ih (h.2 hv) fun e3 w3 hb=>hk e3 w3 ((k0 _ _ _).trans hb)
theorem CD {ops:List Oper}:∀ (gs:List (Option (Nat × Bool) × List Oper)) {K K':KE} {e:Env} {w:World},im P ops gs K e w →
  (∀ e2,agree (bc (gs.flatMap (·.2))) e e2→K e2 w→K' e2 w)→im P ops gs K' e w:=by
 intro gs
 induction gs with
 | nil=>intro K K' e w h hk; exact hk _ (agree.refl _ _) h
 | cons g gs ih =>
  intro K K' e w h hk
  obtain ⟨gd',l⟩:=g
  have hd:bc (((gd',l)::gs).flatMap (·.2))=bc l++bc (gs.flatMap (·.2)):=by simp [bc,List.filterMap_append]
  rw [hd] at hk
  cases gd' with
  | none=>exact nf l h fun e2 ha h2=>ih h2 fun e3 hb=>hk e3 (ha.trans hb)
  | some jw =>
   obtain ⟨j,want⟩:=jw
   simp only [im] at h ⊢
   cases hdd:((ops[j]?).bind (·.dst)).any ((bc l).contains ·)
   case true=>rw [hdd] at h; exact h.elim
   case false =>
    rw [hdd] at h
    have h:au _ _ _ _ _:=h
    show au _ _ _ _ _
    refine ⟨fun hv => ?_,fun hv => ?_⟩
    ·refine nf l (h.1 hv) ?_
     intro e2 ha h2
     exact ih h2 fun e3 hb=>hk e3 ((k0 _ _ _).trans hb)
    ·exact ih (h.2 hv) fun e3 hb=>hk e3 ((k0 _ _ _).trans hb)
theorem CE {ops:Array Oper} {K K':KE}:∀ (f:Nat) (listed:Array Bool) (pend:List Nat) (S:World→Prop) (e:Env) (w:World),bQ P ops K f listed pend S e w→(∀ e2 w2,agree (bc ops.toList) e e2→K e2 w2→K' e2 w2)→bQ P ops K' f listed pend S e w:=by
 intro f
 have step:∀ {i:Nat} {o:Oper} (e:Env) (v:Value),ops[i]? = some o→agree (bc ops.toList) e (pt e o.dst v):=by
  intro i o e v ho
  refine (qd e o.dst v).mono fun k hk => ?_
  have hm:o ∈ ops.toList:=by have:=Array.mem_of_getElem? ho; simpa using this
  simp only [bc,List.mem_filterMap]
  exact ⟨o,hm,by simpa using hk⟩
 induction f with
 | zero =>
  intro listed pend S e w h hk
  simp only [bQ] at h ⊢
  cases hr:(Region.ready .any ops listed).isEmpty
  case false=>rw [hr] at h; exact h
  case true=>rw [hr] at h; exact hk _ _ (agree.refl _ _) h
 | succ f ih =>
  intro listed pend S e w h hk
  simp only [bQ] at h ⊢
  cases hr:(Region.ready .any ops listed).isEmpty
  case true=>rw [hr] at h; exact hk _ _ (agree.refl _ _) h
  case false =>
   rw [hr] at h
   dsimp only at h ⊢
   have hsame:∀ {i:Nat} {o:Oper} (p:List Nat) (S:World→Prop) (v:Value) (w':World),ops[i]? = some o→bQ P ops K f (listed.setIfInBounds i true) p S (pt e o.dst v) w'→bQ P ops K' f (listed.setIfInBounds i true) p S (pt e o.dst v) w':=by
    intro i o p S v w' ho hh
    exact ih _ _ _ _ _ hh fun e2 w2 ha=>hk e2 w2 (((step e v ho).trans ha).mono (fun k hk=>by simpa using hk))
   cases hf:(Region.ready .any ops listed).find? (rZ ops listed) with
   | some i =>
    rw [hf] at h
    have h:hAt ops i _:=h
    show hAt ops i _
    unfold hAt at *
    cases ho:ops[i]? with
    | none=>rw [ho] at h; exact h.elim
    | some o =>
     rw [ho] at h
     dsimp only at h ⊢
     cases hpu:rY o with
     | true =>
      rw [hpu] at h
      dsimp only at h ⊢
      unfold hOp at *
      split at h
      ·exact hsame _ _ _ _ ho h
      ·exact hsame _ _ _ _ ho h
      ·exact hsame _ _ _ _ ho h
      ·obtain ⟨v,hv,hh⟩:=h; exact ⟨v,hv,hsame _ _ _ _ ho hh⟩
     | false =>
     rw [hpu] at h
     dsimp only at h ⊢
     unfold xj at *
     cases hgu:o.guard with
     | some jw =>
      rw [hgu] at h
      obtain ⟨v,hv,hu,hh⟩:=h
      exact ⟨v,hv,hu,hsame _ _ _ _ ho hh⟩
     | none =>
     rw [hgu] at h
     dsimp only at h ⊢
     unfold hOp at *
     split at h
     ·exact hsame _ _ _ _ ho h
     ·exact hsame _ _ _ _ ho h
     ·exact hsame _ _ _ _ ho h
     ·obtain ⟨v,hv,hh⟩:=h; exact ⟨v,hv,hsame _ _ _ _ ho hh⟩
   | none =>
    rw [hf] at h
    refine CB (fun i hh => ?_) _ h
    unfold hAt at *
    cases ho:ops[i]? with
    | none=>rw [ho] at hh; exact hh.elim
    | some o =>
     rw [ho] at hh
     have fin:∀ (v:Value) (w':World),(match ep ops pend i with
       | [] =>
        match (Region.ready .any ops (listed.setIfInBounds i true)).isEmpty with
        | true=>bQ P ops K f (listed.setIfInBounds i true) [] S (pt e o.dst v) w'
        | false=>aX (fun S w=>bQ P ops K f (listed.setIfInBounds i true) [] S (pt e o.dst v) w) w'
       | p::ps=>dB S (fun S w=>bQ P ops K f (listed.setIfInBounds i true) (p::ps) S (pt e o.dst v) w) w')→(match ep ops pend i with
       | [] =>
        match (Region.ready .any ops (listed.setIfInBounds i true)).isEmpty with
        | true=>bQ P ops K' f (listed.setIfInBounds i true) [] S (pt e o.dst v) w'
        | false=>aX (fun S w=>bQ P ops K' f (listed.setIfInBounds i true) [] S (pt e o.dst v) w) w'
       | p::ps=>dB S (fun S w=>bQ P ops K' f (listed.setIfInBounds i true) (p::ps) S (pt e o.dst v) w) w'):=by
      intro v w' hh
      cases hl:ep ops pend i with
      | nil =>
       rw [hl] at hh
       dsimp only at hh ⊢
       cases hr2:(Region.ready .any ops (listed.setIfInBounds i true)).isEmpty with
       | true=>rw [hr2] at hh; exact hsame _ _ _ _ ho hh
       | false=>rw [hr2] at hh; obtain ⟨S2,hS2,hh⟩:=hh; exact ⟨S2,hS2,hsame _ _ _ _ ho hh⟩
      | cons p ps =>
       rw [hl] at hh
       obtain ⟨S2,hS2,hSw,hh⟩:dB S (fun S w=>bQ P ops K f (listed.setIfInBounds i true) (p::ps) S (pt e o.dst v) w) w':=hh
       exact ⟨S2,hS2,hSw,hsame _ _ _ _ ho hh⟩
     dsimp only at hh ⊢
     unfold nM at *
     cases hgu:o.guard with
     | some jw =>
      rw [hgu] at hh
      exact ⟨fun ha=>uS fin (hh.1 ha),fun ha=>fin _ _ (hh.2 ha)⟩
     | none =>
      rw [hgu] at hh
      exact uS fin hh
theorem ut:∀ (c:Code) {N N':KE} {X X':Nat→KE} {R R':KE} {e:Env} {w:World},ac P c N X R e w→(∀ e2 w2,agree (wr c) e e2→N e2 w2→N' e2 w2) →
  (∀ i e2 w2,agree (wr c) e e2→X i e2 w2→X' i e2 w2)→(∀ e2 w2,agree (wr c) e e2→R e2 w2→R' e2 w2)→ac P c N' X' R' e w:=by
 intro c
 induction c with
 | skip=>intro N N' X X' R R' e w h hN hX hR; exact hN _ _ (agree.refl _ _) h
 | region id ops draw =>
  intro N N' X X' R R' e w h hN hX hR
  cases draw with
  | true =>
   simp only [ac] at h ⊢
   cases hd:(P.follows .mixedOrders && ky P ops)
   case true =>
    rw [hd] at h
    obtain ⟨S,hS,h⟩:=h
    exact ⟨S,hS,CE _ _ _ _ _ _ h hN⟩
   case false =>
   rw [hd] at h
   dsimp only at h ⊢
   cases hf:(P.follows .mixedOrders && Nat.ble (cR ops) ops.size)
   case false=>rw [hf] at h; exact h.elim
   case true =>
    rw [hf] at h
    have h:im _ _ _ _ _ _:=h
    show im _ _ _ _ _ _
    have hd:wr (.region id ops true)=bc (ops.toList.take (cR ops))++bc (ops.toList.drop (cR ops)):=by
     show bc ops.toList=_
     simp only [bc]
     rw [← List.filterMap_append,List.take_append_drop]
    rw [hd] at hN
    refine CD _ h ?_
    rw [(iP (ops.toList.take (cR ops))).1]
    intro e2 ha h2
    refine vV _ h2 ?_
    rw [(iP (ops.toList.drop (cR ops))).1]
    intro e3 w3 hb h3
    exact hN e3 w3 (ha.trans hb) h3
  | false =>
   refine vV _ h ?_
   rw [(iP ops.toList).1]
   exact hN
 | seq a b iha ihb =>
  intro N N' X X' R R' e w h hN hX hR
  have hl:∀ i ∈ wr a,i ∈ wr (.seq a b):=fun i hi=>List.mem_append_left _ hi
  refine iha h ?_ (fun i e2 w2 ha=>hX i e2 w2 (ha.mono hl)) (fun e2 w2 ha=>hR e2 w2 (ha.mono hl))
  intro e2 w2 ha h2
  exact ihb h2 (fun e3 w3 hb=>hN e3 w3 (ha.trans hb)) (fun i e3 w3 hb=>hX i e3 w3 (ha.trans hb)) (fun e3 w3 hb=>hR e3 w3 (ha.trans hb))
 | cond c x y ihx ihy =>
  intro N N' X X' R R' e w h hN hX hR
  have hl:∀ i ∈ wr x,i ∈ wr (.cond c x y):=fun i hi=>List.mem_append_left _ hi
  have hr:∀ i ∈ wr y,i ∈ wr (.cond c x y):=fun i hi=>List.mem_append_right _ hi
  obtain ⟨b,hb,h1,h2⟩:=h
  exact ⟨b,hb,fun hh=>ihx (h1 hh) (fun e2 w2 ha=>hN e2 w2 (ha.mono hl)) (fun i e2 w2 ha=>hX i e2 w2 (ha.mono hl)) (fun e2 w2 ha=>hR e2 w2 (ha.mono hl)),
   fun hh=>ihy (h2 hh) (fun e2 w2 ha=>hN e2 w2 (ha.mono hr)) (fun i e2 w2 ha=>hX i e2 w2 (ha.mono hr)) (fun e2 w2 ha=>hR e2 w2 (ha.mono hr))⟩
 | block id c ih =>
  intro N N' X X' R R' e w h hN hX hR
  refine ih h hN ?_ hR
  intro i e2 w2 ha hx
  cases hi:Nat.beq i id
  ·rw [hi] at hx; exact hX i e2 w2 ha hx
  ·rw [hi] at hx; exact hN e2 w2 ha hx
 | loop c ih =>
  intro N N' X X' R R' e w h hN hX hR
  obtain ⟨I,μ,h0,hs⟩:=h
  refine ⟨fun e' w' => I e' w'∧agree (wr c) e e',μ,⟨h0,agree.refl _ _⟩, ?_⟩
  rintro e' w' ⟨hI,hag⟩
  have hself:∀ e2,agree (wr c) e' e2→agree (wr c) e e2:=fun e2 ha=>(hag.trans ha).mono (fun i hi=>by simpa using hi)
  exact ih (hs e' w' hI) (fun e2 w2 ha ⟨h1,h2⟩=>⟨⟨h1,hself e2 ha⟩,h2⟩) (fun i e2 w2 ha=>hX i e2 w2 (hself e2 ha)) (fun e2 w2 ha=>hR e2 w2 (hself e2 ha))
 | exit i=>intro N N' X X' R R' e w h hN hX hR; exact hX i _ _ (agree.refl _ _) h
 | ret=>intro N N' X X' R R' e w h hN hX hR; exact hR _ _ (agree.refl _ _) h
 | _=>intro N N' X X' R R' e w h hN hX hR; exact h.elim
def mix (ws:List Nat) (e':Env):Nat→Env→Env
 | _,[]=>[]
 | k,v::e=>(if ws.contains k then gd e' k else v)::mix ws e' (k+1) e
theorem Hr (ws:List Nat) (e':Env):∀ (e:Env) (k i:Nat),(mix ws e' k e)[i]? = (e[i]?).map fun v=>if ws.contains (k+i) then gd e' (k+i) else v:=by
 intro e
 induction e with
 | nil=>intro k i; simp [mix]
 | cons v e ih =>
  intro k i
  cases i with
  | zero=>simp [mix]
  | succ i=>simp only [mix,List.getElem?_cons_succ,ih]; rw [show k+1+i=k+(i+1) by omega]
theorem DD {ws:List Nat} {e e':Env} (h:agree ws e e'):mix ws e' 0 e=e':=by
 apply List.ext_getElem?
 intro i
 rw [Hr,Nat.zero_add]
 by_cases hi:i < e.length
 ·have hi':i < e'.length:=by rw [h.1]; exact hi
  rw [List.getElem?_eq_getElem hi,List.getElem?_eq_getElem hi']
  have hgd:gd e' i=e'[i]:=by simp [gd,List.getD,hi']
  by_cases hw:ws.contains i=true
  ·simp [hgd]
   intro hc
   exact absurd (by simpa using hw) hc
  ·have h2:=h.2 i (by simpa using hw)
   rw [hgd] at h2
   have:gd e i=e[i]:=by simp [gd,List.getD,hi]
   rw [this] at h2
   simp only [Option.map_some,hw]
   simp [h2]
 ·have hi' : ¬ i < e'.length:=by rw [h.1]; exact hi
  simp [List.getElem?_eq_none (Nat.le_of_not_lt hi),List.getElem?_eq_none (Nat.le_of_not_lt hi')]
theorem aB (c:Code) (ws:List Nat) (hws:(wr c).all (ws.contains ·)=true) (I:KE) (μ:Env→World→Nat) {N:KE} {X:Nat→KE} {R:KE} {e:Env} {w:World}
  (h0:I e w) (hs:∀ e' w',I e' w'→ac P c (fun e2 w2=>I e2 w2∧μ e2 w2 < μ e' w') X R (mix ws e' 0 e) w'):ac P (.loop c) N X R e w:=by
 have hsub:∀ i ∈ wr c,i ∈ ws:=fun i hi=>by simpa using List.all_eq_true.1 hws i hi
 refine ⟨fun e' w' => I e' w'∧agree ws e e',μ,⟨h0,agree.refl _ _⟩, ?_⟩
 rintro e' w' ⟨hI,hag⟩
 have h:=hs e' w' hI
 rw [DD hag] at h
 exact ut c h (fun e2 w2 ha ⟨h1,h2⟩=>⟨⟨h1,(hag.trans (ha.mono hsub)).mono (fun i hi=>by simpa using hi)⟩,h2⟩) (fun _ _ _ _ h=>h) (fun _ _ _ h=>h)
def sub:List Nat→Code→Code
 | 0::p,.seq a _=>sub p a
 | 1::p,.seq _ b=>sub p b
 | 0::p,.cond _ x _=>sub p x
 | 1::p,.cond _ _ y=>sub p y
 | 0::p,.block _ c=>sub p c
 | 0::p,.loop c=>sub p c
 | [],c=>c
 | _,_ => .skip
def rep:List Nat→Code→Code→Code
 | 0::p,x,.seq a b => .seq (rep p x a) b
 | 1::p,x,.seq a b => .seq a (rep p x b)
 | 0::p,x,.cond c a b => .cond c (rep p x a) b
 | 1::p,x,.cond c a b => .cond c a (rep p x b)
 | 0::p,x,.block i c => .block i (rep p x c)
 | 0::p,x,.loop c => .loop (rep p x c)
 | [],x,_=>x
 | _,_,c=>c
def cd (f:Func) (p:List Nat):Code:=sub p (f.body.getD .skip)
theorem aK {f:FuncId} {fn:Func} {args:List Value} {w:World} {K:KV} (hf:P.funcs[f]? = some fn) (hb:fn.body.isSome=true)
  (h:ac P (cd fn []) (oP P fn.results.toList K) (fun _ _ _=>False) (oP P fn.results.toList K) (args++List.replicate (fn.ntmps - args.length) undef) w):Gives P f args.toArray w K:=by
 cases hc:fn.body with
 | none=>simp [hc] at hb
 | some c =>
  refine enter hf hc ?_
  have:cd fn []=c:=by simp [cd,hc,sub]
  rw [this] at h
  exact h
end sound
end Go.Proofs.YtgpfkmdknlcemaaGreatDoor
