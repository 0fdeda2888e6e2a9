import Derived.WalkKit
import Derived.WalkSpells
import Derived.WalkLawsBesides
import Derived.KernelRfl
import Derived.Still
import Derived.StillTail
import Derived.OrdersHeld
import Derived.RegionTactic
namespace Go.Proofs.YtkfgimlaijifaaaGreatDoor
set_option maxRecDepth 100000
set_option maxHeartbeats 4000000
theorem oo {p:Prop}(h:p:=by omega):p:=h
theorem kr {p:Prop}(h:p:=by kernel_rfl):p:=h
theorem dc {p:Prop}(h:p:=by decide):p:=h
theorem sm {p:Prop}(h:p:=by simp):p:=h
theorem oA {n:Nat}:n≤n:=Nat.le_refl n
theorem gE {α:Type _}{l:List α}{i:Nat}(h:i<l.length):l[i]? = some l[i]:=List.getElem?_eq_getElem h
theorem gS {α:Type _}{l:List α}{i:Nat}{a:α}(h:l[i]? = some a):∃h,l[i]=a:=List.getElem?_eq_some_iff.1 h
theorem tL {α:Type _}{l:List α}{i:Nat}(h:l.length≤i):l.take i=l:=List.take_of_length_le h
theorem mS {α:Type _}{a b:α}(h:a∈[b]):a=b:=List.mem_singleton.1 h
theorem mO {α:Type _}{l:List α}{i:Nat}{a:α}(h:l[i]? = some a):a∈l:=List.mem_of_getElem? h
theorem kf {α:Sort _}{p:α→Prop}(h:∀x,p x:=by intro _;kernel_rfl):∀x,p x:=h
abbrev pA (b o:Nat):Value:=.pointer (some ⟨b,o,none⟩)
open Go.RowKit
def xk (l:List UInt8):ByteArray:=⟨l.toArray⟩
abbrev Env :=List Value
abbrev KV :=Value→World→Prop
abbrev KE :=Env→World→Prop
def gd (e:Env)(t:Nat):Value:=e.getD t undef
def ev (e:Env):Operand→Value
 | .tmp t=>gd e t
 | .const v=>v
 | .global g=>pA g 0
 | .func f=>.func (.func f) #[] #[]
def pt (e:Env)(d:Option Tmp)(v:Value):Env:=match d with|some d=>e.set d v|none=>e
def Gives (P:Program)(f:FuncId)(args:Array Value)(w:World)(K:KV):Prop :=
 Calls P f args w fun e w' => ∃v,e=.returned v∧K v w'
theorem Gives.mono {P:Program}{f:FuncId}{args:Array Value}{w:World}{K K':KV}(h:Gives P f args w K)(u:∀v w',K v w'→K' v w'):Gives P f args w K' :=
 Calls.mono h fun _ _ ⟨v,j,C⟩=>⟨v,j,u v _ C⟩
def okV (P:Program)(s:Sem Value)(K:KV)(w:World):Prop:=match s.run P w with | .ok v w' => K v w' | .halt _ _=>False
def okU (P:Program)(s:Sem Unit)(K:KV)(w:World):Prop:=match s.run P w with | .ok _ w' => K undef w' | .halt _ _=>False
theorem zah {P:Program}{s:Sem Value}{K K':KV}{w:World}(j:∀v w',K v w'→K' v w')(h:okV P s K w):okV P s K' w:=by
 unfold okV at *;split at h
 ·exact j _ _ h
 ·exact h.elim
theorem zag {P:Program}{s:Sem Unit}{K K':KV}{w:World}(j:∀v w',K v w'→K' v w')(h:okU P s K w):okU P s K' w:=by
 unfold okU at *;split at h
 ·exact j _ _ h
 ·exact h.elim
theorem ey {P:Program}{s:Sem Value}{K:KV}{w w':World}{v:Value}(h:s.run P w=.ok v w')(j:K v w'):okV P s K w:=by
 unfold okV;rw[h];exact j
theorem Q9 {P:Program}{s:Sem Unit}{K:KV}{w w':World}{u:Unit}(h:s.run P w=.ok u w')(j:K undef w'):okU P s K w:=by
 unfold okU;rw[h];exact j
def isC :Operand→Bool | .const _=>true|_=>false
def zd9 (c:Bool)(v:Value):Operand:=match c with|true=>.const v|false=>.tmp 0
def eqG (op:BinOp)(t:TypeId)(cx cy:Bool)(a b:Value):Sem Unit:=eqGuard op t (zd9 cx a) (zd9 cy b) a b
theorem Xx (h:BinOp)(t:TypeId)(x y:Operand)(a b:Value):eqGuard h t x y a b=eqG h t (isC x) (isC y) a b:=by
 unfold eqG eqGuard;cases x<;>cases y<;>rfl
section ops
variable (P:Program)
def bin (op:BinOp)(t:TypeId)(cx cy:Bool)(x y:Value)(K:KV)(w:World):Prop:=okV P (do eqG op t cx cy x y;binOp op t x y) K w
def un (op:UnOp)(x:Value)(K:KV)(w:World):Prop:=okV P (Op.unary op x) K w
def conv (s d:TypeId)(x:Value)(K:KV)(w:World):Prop:=okV P (convert s d x) K w
def Li (f:FuncId):Prop := ∃ fn,P.funcs[f]? = some fn∧(fn.name == "runtime.NumGoroutine")=false∧fn.body.isNone=false
def call (f:FuncId)(args:Array Value)(K:KV)(w:World):Prop:=Li P f∧Gives P f args w K
def aZ (fv:Value)(args:Array Value)(K:KV)(w:World):Prop:=∃f first cap,fv=.func (.func f) first cap∧call P f (first++args++cap) K w
def blt (b:Builtin)(ats:Array TypeId)(ty:TypeId)(cs:Array Bool)(args:Array Value)(K:KV)(w:World):Prop :=
 match (builtin b ats ty cs args).run P w with | .ok (.value v) w' => K v w'|_=>False
def slc (t:TypeId)(x:Value)(lo hi mx:Option Value)(K:KV)(w:World):Prop:=okV P (Instr.sliceAt t x lo hi mx) K w
def ai (s:TypeId)(x:Value)(f:Nat)(K:KV)(w:World):Prop:=okV P (Instr.fieldAt s x f) K w
def fld (s:TypeId)(x:Value)(f:Nat)(K:KV)(w:World):Prop:=okV P (Instr.field s x f) K w
def aL (t:TypeId)(x i:Value)(K:KV)(w:World):Prop:=okV P (Instr.indexAt t x i) K w
def idx (t:TypeId)(x i:Value)(K:KV)(w:World):Prop:=okV P (Instr.index t x i) K w
def lkp (t:TypeId)(x i:Value)(ok:Bool)(K:KV)(w:World):Prop:=okV P (Instr.lookup t x i ok) K w
def cP (t:TypeId)(m k x:Value)(K:KV)(w:World):Prop:=okU P (Instr.mapUpdate t m k x) K w
def eP (t:TypeId)(m k:Value)(K:KV)(w:World):Prop:=okV P (Instr.mapEntry t m k) K w
def eSt (t:TypeId)(m s x:Value)(K:KV)(w:World):Prop:=okU P (Instr.entryStore t m s x) K w
def rng (t:TypeId)(x:Value)(K:KV)(w:World):Prop:=okV P (Instr.range t x) K w
def nxt (it:Value)(str:Bool)(ty:TypeId)(K:KV)(w:World):Prop:=okV P (Instr.next it str ty) K w
def ent (it:Value)(K:KV)(w:World):Prop:=okV P (Instr.entry it) K w
def ext (t:Value)(i:Nat)(K:KV)(w:World):Prop:=okV P (Instr.extract t i) K w
def alc (t:TypeId)(K:KV)(w:World):Prop:=okV P (Instr.alloc t true (.tuple #[])) K w
def box (t:TypeId)(x:Value)(K:KV)(w:World):Prop:=okV P (Instr.box t x) K w
def bld (t:TypeId)(ps:Array (Nat×Value))(K:KV)(w:World):Prop:=okV P (Instr.build t ps) K w
def bg (t:TypeId)(n:Nat)(ps:Array (Nat×Value))(K:KV)(w:World):Prop:=okV P (Instr.buildSlice t n ps) K w
def ld (t:TypeId)(a:Value)(K:KV)(w:World):Prop:=okV P (Instr.loadAt t a) K w
def sto (t:TypeId)(a x:Value)(K:KV)(w:World):Prop:=okU P (Instr.storeAt t a x) K w
def aJ (x:Value)(K:KV)(w:World):Prop :=
 match x with
 | .pointer (some a)=>K (.pointer (some a)) w
 | .func (.func f) first cap=>K (.func (.func f) first cap) w
 | _=>False
def cr (t:TypeId)(r:Option Value)(K:KV)(w:World):Prop:=okV P (Instr.makeMap t r) K w
def mkS (t:TypeId)(l c:Value)(K:KV)(w:World):Prop:=okV P (Instr.makeSlice t l c) K w
def ifc (t:TypeId)(x:Value)(K:KV)(w:World):Prop:=okV P (Instr.makeInterface t x) K w
def pick (c x y:Value)(K:KV)(w:World):Prop:=∃b,c=.bool b∧K (if b then x else y) w
def rdy (g:Nat)(K:KV)(w:World):Prop:=okU P (Instr.ready g) K w
def wts (g:Nat)(K:KV)(w:World):Prop:=okV P (Instr.waits g) K w
def cOp (r:Operand→Value)(o:Oper)(K:KV)(w:World):Prop :=
 match o.op with
 | .move x=>K (r x) w
 | .assign x=>K (r x) w
 | .pick c a b=>pick (r c) (r a) (r b) K w
 | .alloc t=>alc P t K w
 | .box t x=>box P t (r x) K w
 | .build t ps=>bld P t (ps.toList.map fun p=>(p.1,r p.2)).toArray K w
 | .buildSlice t n ps=>bg P t n (ps.toList.map fun p=>(p.1,r p.2)).toArray K w
 | .load t a=>ld P t (r a) K w
 | .store t a x=>sto P t (r a) (r x) K w
 | .ready g=>rdy P g K w
 | .waits g=>wts P g K w
 | .nilCheck x=>aJ (r x) K w
 | .binOp op t x y _=>bin P op t (isC x) (isC y) (r x) (r y) K w
 | .unOp op _ x=>un P op (r x) K w
 | .convert s d x=>conv P s d (r x) K w
 | .makeInterface t x=>ifc P t (r x) K w
 | .makeFunc fn first cap=>K (.func fn (first.toList.map r).toArray (cap.toList.map r).toArray) w
 | .makeMap t rs=>cr P t (rs.map r) K w
 | .makeSlice t l c=>mkS P t (r l) (r c) K w
 | .slice t x lo hi mx=>slc P t (r x) (lo.map r) (hi.map r) (mx.map r) K w
 | .fieldAddr s x f=>ai P s (r x) f K w
 | .field s x f=>fld P s (r x) f K w
 | .indexAddr t x i=>aL P t (r x) (r i) K w
 | .index t x i=>idx P t (r x) (r i) K w
 | .lookup t x i ok=>lkp P t (r x) (r i) ok K w
 | .mapUpdate t m k x=>cP P t (r m) (r k) (r x) K w
 | .insert t m k x=>cP P t (r m) (r k) (r x) K w
 | .mapEntry t m k=>eP P t (r m) (r k) K w
 | .entryStore t m s x=>eSt P t (r m) (r s) (r x) K w
 | .range t x=>rng P t (r x) K w
 | .next it s=>nxt P (r it) s o.type K w
 | .entry it=>ent P (r it) K w
 | .extract t i=>ext P (r t) i K w
 | .call c =>
  match c.callee with
  | .value (.func f)=>call P f (c.args.toList.map r).toArray K w
  | .value x=>aZ P (r x) (c.args.toList.map r).toArray K w
  | .builtin b=>blt P b c.argTypes o.type (c.args.toList.map isC).toArray (c.args.toList.map r).toArray K w
  | .invoke _ _=>False
 | _=>False
def asB :Value→Option Bool
 | .bool b=>some b
 | _=>none
def qU (ops:List Oper)(e:Env)(j:Nat):Value:=match (ops[j]?).bind (·.dst)with|some d=>gd e d|none=>undef
def eR (l:List Oper):List Nat:=l.filterMap (·.dst)
def grp :List Oper→List (Option (Nat×Bool)×List Oper)
 | []=>[]
 | o::rest =>
  match grp rest with
  | []=>[(o.guard,[o])]
  | (g,l)::gs=>if o.guard=g then (g,o::l)::gs else (o.guard,[o])::(g,l)::gs
def dP :List Oper→KE→Env→World→Prop
 | [],K,e,w=>K e w
 | o::r,K,e,w=>cOp P (ev e) o (fun v w' => dP r K (pt e o.dst v) w') w
def aG (v:Value)(want:Bool)(A B:(List Value→World→Prop)→Prop)(K:List Value→World→Prop):Prop:=(asB v=some want→A K)∧(asB v≠some want→B K)
def wJ (us:List Value):List Nat→Nat→Env→Env
 | [],_,e=>e
 | d::ds,k,e=>wJ us ds (k+1) (e.set d (gd us k))
def Ac (e:Env)(ds:List Nat)(us:List Value):Env:=wJ us ds 0 e
def dy (ops:List Oper):List (Option (Nat×Bool)×List Oper)→KE→Env→World→Prop
 | [],K=>K
 | (none,l)::gs,K=>dP P l (dy ops gs K)
 | (some (j,want),l)::gs,K=>fun e w =>
  @Bool.rec (fun _=>Prop) (aG (qU ops e j) want (fun k=>dP P l (fun e' w' => k ((eR l).map (gd e')) w') e w) (fun k=>k ((eR l).map fun _=>undef) w) (fun us w' => dy ops gs K (Ac e (eR l) us) w')) False (((ops[j]?).bind (·.dst)).any ((eR l).contains ·))
def sti (s:KV→World→Prop)(k:KV)(w:World):Prop:=∃v,s (fun v' w' => v'=v∧w'=w) w∧k v w
def sOp (e:Env)(o:Oper)(k:KV)(w:World):Prop :=
 match o.op with
 | .move x=>k (ev e x) w
 | .assign x=>k (ev e x) w
 | _=>sti (fun k w=>cOp P (ev e) o k w) k w
def OO :List Oper→KE→Env→World→Prop
 | [],K,e,w=>K e w
 | o::r,K,e,w=>sOp P e o (fun v w' => OO r K (pt e o.dst v) w') w
def B9 (ops:List Oper):List (Option (Nat×Bool)×List Oper)→KE→Env→World→Prop
 | [],K=>K
 | (none,l)::gs,K=>OO P l (B9 ops gs K)
 | (some (j,want),l)::gs,K=>fun e w =>
  @Bool.rec (fun _=>Prop) (aG (qU ops e j) want (fun k=>OO P l (fun e' w' => k ((eR l).map (gd e')) w') e w) (fun k=>k ((eR l).map fun _=>undef) w) (fun us w' => B9 ops gs K (Ac e (eR l) us) w')) False (((ops[j]?).bind (·.dst)).any ((eR l).contains ·))
def vC (ops:Array Oper):Nat→Nat
 | 0=>ops.size+1
 | n+1=>match Region.lexTailB .any ops n with|true=>n|false=>vC ops n
def zew :Op→Bool | .store .. => true|_=>false
def X9 (ops:Array Oper):Nat:=ops.toList.findIdx fun o=>zew o.op
def ju (ops:Array Oper):Nat :=
 match Nat.ble (X9 ops+1) ops.size with
 | true=>vC ops (X9 ops+1)
 | false=>match Region.lexB .any ops with|true=>ops.size|false=>vC ops ops.size
def HT (o:Oper):Bool :=
 match o.op with
 | .move _=>true | .assign _=>true | .pick .. => true | .build .. => true | .load .. => true | .nilCheck _=>true | .binOp .. => true | .unOp .. => true | .convert .. => true
 | .makeInterface .. => true | .makeFunc .. => true | .slice .. => true | .fieldAddr .. => true | .field .. => true | .indexAddr .. => true | .index .. => true | .extract .. => true | .lookup .. => true
 | .call c=>match c.callee with | .builtin .len=>true | .builtin .cap=>true|_=>false
 | _=>false
def WJ (o:Oper):Bool :=
 match o.guard with
 | some _=>false
 | none=>match o.op with
  | .move _=>true
  | .binOp .sub _ _ _ _=>true
  | .binOp .add _ _ _ _=>true
  | _=>false
def zf8 (o:Oper):Bool :=
 match o.op with
 | .store .. => true | .alloc _=>true | .box .. => true | .buildSlice .. => true | .makeSlice .. => true | .makeMap .. => true | .mapUpdate .. => true | .insert .. => true | .mapEntry .. => true | .entryStore .. => true
 | .call c=>match c.callee with | .builtin .append=>true | .builtin .copy=>true | .builtin .clear=>true | .builtin .delete=>true|_=>false
 | _=>false
def GV :Nat→Code→Bool
 | 0,_=>false
 | n+1,.region _ ops false=>ops.toList.all fun o =>
  match HT o with
  | true=>true
  | false=>match o.op with
   | .call c=>match c.callee with
    | .value (.func f)=>match P.funcs[f]? with
     | some fn=>match fn.body with|some b=>GV n b|none=>false
     | none=>false
    | .builtin .max=>true
    | .builtin .min=>true
    | _=>false
   | _=>false
 | n+1,.seq a b=>match GV n a with|true=>GV n b|false=>false
 | n+1,.cond _ a b=>match GV n a with|true=>GV n b|false=>false
 | n+1,.block _ c=>GV n c
 | n+1,.loop c=>GV n c
 | _+1,.skip=>true
 | _+1,.exit _=>true
 | _+1,.ret=>true
 | _+1,_=>false
def zex (o:Oper):Bool :=
 match zf8 o with
 | true=>true
 | false=>match o.op with
  | .call c=>match c.callee with
   | .value (.func f)=>match P.funcs[f]? with
    | some fn=>match fn.body with|some b=>(match GV P 60 b with|true=>false|false=>true)|none=>true
    | none=>true
   | .value _=>true
   | .invoke _ _=>true
   | _=>false
  | _=>false
def Mo (ops:Array Oper):Bool :=
 Region.noSelect ops&&(match ops.toList.all (fun o=>match o.guard with|none=>true|some _=>false)with
  | true=>(ops.toList.take (Nat.min (ju ops) ops.size)).any (fun o=>match HT o with|true=>false|false=>true)
  | false=>(ops.toList.take (Nat.min (ju ops) ops.size)).any (zex P))
def hld (S:World→Prop)(s:KV→World→Prop)(k:Value→Prop):Prop:=∃v,(∀w,S w→s (fun v' w' => v'=v∧w'=w) w)∧k v
def hOp (S:World→Prop)(e:Env)(o:Oper)(k:Value→Prop):Prop :=
 match o.op with
 | .move x=>k (ev e x)
 | .assign x=>k (ev e x)
 | .makeFunc fn first cap=>k (.func fn (first.toList.map (ev e)).toArray (cap.toList.map (ev e)).toArray)
 | _=>hld S (fun k w=>cOp P (ev e) o k w) k
def hG (v:Value)(want:Bool)(S:World→Prop)(s:KV→World→Prop)(k:Value→Prop):Prop:=∃x,(asB v=some want→∀w,S w→s (fun v' w' => v'=x∧w'=w) w)∧(asB v≠some want→x=undef)∧k x
def xG (v:Value)(want:Bool)(s:KV→World→Prop)(K:KV)(w:World):Prop:=(asB v=some want→s K w)∧(asB v≠some want→K undef w)
def ZC (ops:Array Oper)(S:World→Prop)(e:Env)(o:Oper)(k:Value→Prop):Prop :=
 match o.guard with
 | none=>hOp P S e o k
 | some (j,want)=>hG (qU ops.toList e j) want S (fun k w=>cOp P (ev e) o k w) k
def Z4 (ops:Array Oper)(e:Env)(o:Oper)(K:KV)(w:World):Prop :=
 match o.guard with
 | none=>cOp P (ev e) o K w
 | some (j,want)=>xG (qU ops.toList e j) want (fun k w=>cOp P (ev e) o k w) K w
def J5 :List Nat→(Nat→Prop)→Prop
 | [],_=>True
 | i::r,f=>match r with | []=>f i|_::_=>f i∧J5 r f
def hAt (ops:Array Oper)(i:Nat)(f:Oper→Prop):Prop:=match ops[i]? with|some o=>f o|none=>False
def PJ (ops:Array Oper)(listed:Array Bool)(i:Nat):Bool:=(match ops[i]? with|some o=>HT o|none=>false)&&Region.free .any ops listed i
def aE (b:(World→Prop)→World→Prop)(w:World):Prop:=∃S,S w∧b S w
def aU (S:World→Prop)(b:(World→Prop)→World→Prop)(w:World):Prop:=∃S',(∀x,S' x→S x)∧S' w∧b S' w
theorem aC {S:World→Prop}{b:(World→Prop)→World→Prop}{w:World}(j:S w)(h:b S w):aU S b w:=⟨S,fun _ h=>h,j,h⟩
def QW (k:Nat):List Nat→Bool
 | []=>false
 | i::r=>Nat.beq k i || QW k r
def QP (ops:Array Oper)(j:Nat):List Nat:=match ops[j]? with|some o=>(o.after.toList.filter fun e=>Region.binds .any e).map (·.on)|none=>[]
def QO (ops:Array Oper):Nat→List Nat→List Nat→List Nat
 | 0,_,seen=>seen
 | _+1,[],seen=>seen
 | f+1,j::todo,seen=>match QW j seen with|true=>QO ops f todo seen|false=>QO ops f (QP ops j++todo) (j::seen)
def qP (ops:Array Oper)(pend:List Nat)(i:Nat):List Nat:=pend.filter fun k=>match QW k (QO ops 1000 (QP ops i) [])with|true=>false|false=>true
def mZ (ops:Array Oper)(K:KE):Nat→Array Bool→List Nat→(World→Prop)→Env→World→Prop
  | 0,listed,_,_,e,w=>@Bool.rec (fun _=>Prop) False (K e w) (Region.ready .any ops listed).isEmpty
  | f+1,listed,pend,S,e,w =>
    @Bool.rec (fun _=>Prop)
      (match (Region.ready .any ops listed).find? (PJ ops listed)with
       | some i=>hAt ops i fun o =>
         match WJ o with
         | true=>hOp P (fun _=>True) e o fun v=>mZ ops K f (listed.setIfInBounds i true) pend S (pt e o.dst v) w
         | false=>ZC P ops S e o fun v=>mZ ops K f (listed.setIfInBounds i true) (i::pend) S (pt e o.dst v) w
       | none=>J5 (Region.ready .any ops listed) fun i=>hAt ops i fun o=>Z4 P ops e o (fun v w' =>
           match qP ops pend i with
           | [] =>
             match (Region.ready .any ops (listed.setIfInBounds i true)).isEmpty with
             | true=>mZ ops K f (listed.setIfInBounds i true) [] S (pt e o.dst v) w'
             | false=>aE (fun S w=>mZ ops K f (listed.setIfInBounds i true) [] S (pt e o.dst v) w) w'
           | p::ps=>aU S (fun S w=>mZ ops K f (listed.setIfInBounds i true) (p::ps) S (pt e o.dst v) w) w') w)
      (K e w) (Region.ready .any ops listed).isEmpty

def cond (v:Value)(p q:Prop):Prop:=∃b,v=.bool b∧(b=true→p)∧(b=false→q)
def zb3 (body:KE→Env→World→Prop)(e:Env)(w:World):Prop :=
 ∃(I:KE) (μ:Env→World→Nat),I e w∧∀e' w',I e' w'→body (fun e2 w2=>I e2 w2∧μ e2 w2<μ e' w') e' w'
def ah :Code→KE→(Nat→KE)→KE→Env→World→Prop
 | .skip,N,_,_=>N
 | .region _ ops false,N,_,_=>dy P ops.toList (grp ops.toList) N
 | .region _ ops true,N,_,_=>fun e w =>
  @Bool.rec (fun _=>Prop)
   (@Bool.rec (fun _=>Prop) False
    (B9 P ops.toList (grp (ops.toList.take (ju ops))) (dy P ops.toList (grp (ops.toList.drop (ju ops))) N) e w.drew)
    (P.follows .mixedOrders&&Nat.ble (ju ops) ops.size))
   (aE (fun S w=>mZ P ops N ops.size (Array.replicate ops.size false) [] S e w) w.drew)
   (P.follows .mixedOrders&&Mo P ops)
 | .seq a b,N,X,R=>ah a (ah b N X R) X R
 | .cond c x y,N,X,R=>fun e w=>cond (ev e c) (ah x N X R e w) (ah y N X R e w)
 | .block id c,N,X,R=>ah c N (fun i=>@Bool.rec (fun _=>KE) (X i) N (Nat.beq i id)) R
 | .loop c,_,X,R=>zb3 fun N' => ah c N' X R
 | .exit i,_,X,_=>X i
 | .ret,_,_,R=>R
 | _,_,_,_=>fun _ _=>False
end ops
/-! ## It implies the model's own. -/
section sound
variable {P:Program}{ds:List Deferred}
theorem EL (e:Env)(t:Nat):e.toArray.getD t undef=gd e t:=by
 simp[gd,Array.getD,List.getD];split<;>simp_all
theorem sd (e:Env)(ds:List Deferred)(x:Operand):Act.eval ⟨e.toArray,ds⟩ x=ev e x:=by
 cases x with
 | tmp t=>exact EL e t
 | _=>rfl
theorem wG (e:Env)(ds:List Deferred)(d:Option Tmp)(v:Value):Act.put ⟨e.toArray,ds⟩ d v=⟨(pt e d v).toArray,ds⟩:=by
 cases d<;>simp[Act.put,pt]
def QQ (ds:List Deferred)(N:KE)(X:Nat→KE)(R:KE):Exit→Act→World→Prop
 | .normal,a,w=>∃e:Env,a=⟨e.toArray,ds⟩∧N e w
 | .exit i,a,w=>∃e:Env,a=⟨e.toArray,ds⟩∧X i e w
 | .ret,a,w=>∃e:Env,a=⟨e.toArray,ds⟩∧R e w
 | _,_,_=>False
theorem Sc (s:Sem Value)(w:World):(do pure (.value (←s)):Sem Next).run P w=(s.run P w).andThen fun v w' => .ok (.value v) w':=by
 simp[Sem.run_bind,Sem.run_pure]
def Mi (P:Program)(o:Oper)(a:Act)(K:KV)(w:World):Prop :=
 (∃v w',(execOp a.eval o).run P w=.ok (.value v) w'∧K v w')∨(∃w',(execOp a.eval o).run P w=.ok .skip w'∧K undef w') ∨
 (∃f args,(execOp a.eval o).run P w=.ok (.enter f args) w∧Gives P f args w K)
theorem ku {o:Oper}{a:Act}{w:World}{K:KV}(s:Sem Value)(u:execOp a.eval o=(do pure (.value (←s)):Sem Next))(h:okV P s K w):Mi P o a K w:=by
 unfold okV at h;split at h
 ·rename_i v w' j;exact .inl ⟨v,w',by rw[u,Sc,j];rfl,h⟩
 ·exact h.elim
theorem KI {o:Oper}{a:Act}{w:World}{K:KV}(s:Sem Unit)(C:execOp a.eval o=(do s;pure .skip:Sem Next))(h:okU P s K w):Mi P o a K w:=by
 unfold okU at h;split at h
 ·rename_i u w' j;exact .inr (.inl ⟨w',by rw[C];simp only[Sem.run_bind,j,Result.andThen,Sem.run_pure],h⟩)
 ·exact h.elim
theorem LX {f:FuncId} (M:Li P f) (args:Array Value) (w:World):(callFunc f args).run P w=.ok (.enter f args) w:=by
 obtain ⟨j,C,I,J⟩:=M;have h : ¬ j.name = "runtime.NumGoroutine" := by simpa using I
 cases u:j.body with
 | none=>simp [u] at J
 | some c=>simp [callFunc,C,h,u]
theorem Vf {o:Oper}{a:Act}{w:World}{K:KV}(f:FuncId)(args:Array Value)(j:(execOp a.eval o).run P w=(callFunc f args).run P w)(h:call P f args K w):Mi P o a K w :=
 .inr (.inr ⟨f,args,by rw[j,LX h.1],h.2⟩)
theorem Oy (e:Env)(ps:Array (Nat×Operand)):(ps.map fun(i,x)=>(i,ev e x))=(ps.toList.map fun p=>(p.1,ev e p.2)).toArray:=by
 rw[←Array.toList_map]
theorem RL {o:Oper}{e:Env}{w:World}{K:KV}(h:cOp P (ev e) o K w):Mi P o ⟨e.toArray,ds⟩ K w:=by
 have he:Act.eval ⟨e.toArray,ds⟩=ev e:=funext (sd e ds)
 obtain⟨dst,op,ty,pos,after,guard⟩:=o
 cases op<;>simp only[cOp]at h
 case move x=>exact .inl ⟨_,w,by rw[he];rfl,h⟩
 case assign x=>exact .inl ⟨_,w,by rw[he];rfl,h⟩
 case pick c x y =>
  obtain⟨b,hb,hk⟩:=h
  exact .inl ⟨_,w,by unfold execOp;simp only[he,hb,asBool,Sem.run_bind,Sem.run_pure,Result.andThen],hk⟩
 case alloc t=>exact ku _ rfl h
 case box t x=>exact ku (Instr.box t (ev e x)) (by rw[he];rfl) h
 case build t ps=>exact ku (Instr.build t (ps.toList.map fun p:Nat×Operand=>(p.1,ev e p.2)).toArray) (by rw[he];exact congrArg (fun l=>(do pure (.value (←Instr.build t l)):Sem Next)) (Oy e ps)) h
 case buildSlice t n ps=>exact ku (Instr.buildSlice t n (ps.toList.map fun p:Nat×Operand=>(p.1,ev e p.2)).toArray) (by rw[he];exact congrArg (fun l=>(do pure (.value (←Instr.buildSlice t n l)):Sem Next)) (Oy e ps)) h
 case load t x=>exact ku (Instr.loadAt t (ev e x)) (by rw[he];rfl) h
 case store t x y=>exact KI (Instr.storeAt t (ev e x) (ev e y)) (by rw[he];rfl) h
 case ready g=>exact KI _ rfl h
 case waits g=>exact ku _ rfl h
 case nilCheck x =>
  unfold aJ at h
  split at h
  ·rename_i a ha;exact .inl ⟨_,w,by unfold execOp;simp only[he,ha];rfl,h⟩
  ·rename_i f first cap ha;exact .inl ⟨_,w,by unfold execOp;simp only[he,ha];rfl,h⟩
  ·exact h.elim
 case binOp op t x y yt=>exact ku (do eqG op t (isC x) (isC y) (ev e x) (ev e y);binOp op t (ev e x) (ev e y)) (by rw[he, ←Xx];rfl) h
 case unOp op t x=>exact ku (Op.unary op (ev e x)) (by rw[he];rfl) h
 case convert s d x=>exact ku (Go.convert s d (ev e x)) (by rw[he];rfl) h
 case makeInterface t x=>exact ku (Instr.makeInterface t (ev e x)) (by rw[he];rfl) h
 case makeFunc fn first cap =>
  have e1:first.map (ev e)=(first.toList.map (ev e)).toArray:=by rw[←Array.toList_map]
  have e2:cap.map (ev e)=(cap.toList.map (ev e)).toArray:=by rw[←Array.toList_map]
  exact .inl ⟨_,w,by unfold execOp;simp only[he,Instr.makeFunc,Sem.run_bind,Sem.run_pure,Result.andThen];rw[e1,e2],h⟩
 case makeMap t r=>exact ku (Instr.makeMap t (r.map (ev e))) (by rw[he];rfl) h
 case makeSlice t l c=>exact ku (Instr.makeSlice t (ev e l) (ev e c)) (by rw[he];rfl) h
 case slice t x lo hi mx=>exact ku (Instr.sliceAt t (ev e x) (lo.map (ev e)) (hi.map (ev e)) (mx.map (ev e))) (by rw[he];rfl) h
 case fieldAddr s x f=>exact ku (Instr.fieldAt s (ev e x) f) (by rw[he];rfl) h
 case field s x f=>exact ku (Instr.field s (ev e x) f) (by rw[he];rfl) h
 case indexAddr t x i=>exact ku (Instr.indexAt t (ev e x) (ev e i)) (by rw[he];rfl) h
 case index t x i=>exact ku (Instr.index t (ev e x) (ev e i)) (by rw[he];rfl) h
 case lookup t x i ok=>exact ku (Instr.lookup t (ev e x) (ev e i) ok) (by rw[he];rfl) h
 case mapUpdate t m k x=>exact KI (Instr.mapUpdate t (ev e m) (ev e k) (ev e x)) (by rw[he];rfl) h
 case insert t m k x=>exact KI (Instr.mapUpdate t (ev e m) (ev e k) (ev e x)) (by rw[he];rfl) h
 case mapEntry t m k=>exact ku (Instr.mapEntry t (ev e m) (ev e k)) (by rw[he];rfl) h
 case entryStore t m s x=>exact KI (Instr.entryStore t (ev e m) (ev e s) (ev e x)) (by rw[he];rfl) h
 case range t x=>exact ku (Instr.range t (ev e x)) (by rw[he];rfl) h
 case next it s=>exact ku (Instr.next (ev e it) s ty) (by rw[he];rfl) h
 case entry it=>exact ku (Instr.entry (ev e it)) (by rw[he];rfl) h
 case extract t i=>exact ku (Instr.extract (ev e t) i) (by rw[he];rfl) h
 case call c =>
  obtain⟨callee,args,ats⟩:=c
  have ea:args.map (ev e)=(args.toList.map (ev e)).toArray:=by rw[←Array.toList_map]
  cases callee with
  | invoke r m=>exact h.elim
  | builtin b =>
   have hx:execOp (Act.eval ⟨e.toArray,ds⟩) {dst,op:=.call {callee:=.builtin b,args,argTypes:=ats},type:=ty,pos,after,guard} = builtin b ats ty (args.map isC) (args.map (ev e)):=by rw[he];rfl
   have hc:args.map isC=(args.toList.map isC).toArray:=by rw[←Array.toList_map]
   have h:blt P b ats ty (args.toList.map isC).toArray (args.toList.map (ev e)).toArray K w:=h
   unfold blt at h
   split at h
   ·rename_i v w' hr;exact .inl ⟨v,w',by rw[hx,hc,ea];exact hr,h⟩
   ·exact h.elim
  | value f =>
   cases f with
   | func f =>
    refine Vf f (args.toList.map (ev e)).toArray ?_ h
    simp only[execOp,resolve,Deferred.ofValue,invoke,Sem.run_bind,Sem.run_pure,Result.andThen_ok,he,ea]
    simp[ev]
   | _ =>
    obtain⟨f,first,cap,hf,hc⟩:=h
    refine Vf f _ ?_ hc
    simp only[execOp,resolve,Deferred.ofValue,invoke,Sem.run_bind,Sem.run_pure,Result.andThen_ok,he,ea,hf]
 all_goals exact h.elim
theorem Bl {o:Oper}{e:Env}{w:World}{K:KV}{j:Act→World→Prop}{Q:Exit→Act→World→Prop}(h:cOp P (ev e) o K w)(M:∀v w',K v w'→j ⟨(pt e o.dst v).toArray,ds⟩ w'):o.wp P ⟨e.toArray,ds⟩ w j Q:=by
 have u:∀v w',K v w'→j (Act.put ⟨e.toArray,ds⟩ o.dst v) w':=fun v w' J=>by rw[wG];exact M v w' J
 unfold Oper.wp;rcases RL h with⟨v,w',I,C⟩|⟨w',I,C⟩|⟨f,args,I,C⟩
 ·rw[I];exact u _ _ C
 ·rw[I];exact u _ _ C
 ·rw[I];refine Calls.mono C ?_;rintro e w' ⟨v,rfl,J⟩;exact u _ _ J
theorem wA (ops:List Oper)(e:Env)(o:Oper)(j:Nat)(u:Bool)(C:o.guard=some (j,u)):Region.wanted o (yielded ops.toArray e.toArray)=(asB (qU ops e j)==some u):=by
 simp only[Region.wanted,C]
 have:yielded ops.toArray e.toArray j=asB (qU ops e j):=by
  unfold yielded qU;simp only[List.getElem?_toArray];cases h:(ops[j]?).bind (·.dst)with
  | none=>simp[undef,asB]
  | some d =>
   simp only[Option.bind_some,List.getElem?_toArray,gd,List.getD];cases I:e[d]? with
   | none=>simp[undef,asB]
   | some v=>cases v<;>simp[asB]
 rw[this]
theorem Mn {ops:List Oper}{e:Env}{j:Nat}{d:Option Tmp}{v:Value}(h:((ops[j]?).bind (·.dst)).any (d.toList.contains ·)=false):qU ops (pt e d v) j=qU ops e j:=by
 unfold qU;cases I:(ops[j]?).bind (·.dst)with
 | none=>rfl
 | some dj =>
  cases d with
  | none=>rfl
  | some d =>
   have u:dj≠d:=by
    intro C;subst C;simp[I]at h
   have:d≠dj:=fun e=>u e.symm
   simp[pt,gd,List.getD,List.getElem?_set_ne this]
theorem Iy {ops:List Oper}{j:Nat}{o:Oper}{l:List Oper}(h:((ops[j]?).bind (·.dst)).any ((eR (o::l)).contains ·)=false):((ops[j]?).bind (·.dst)).any (o.dst.toList.contains ·)=false∧((ops[j]?).bind (·.dst)).any ((eR l).contains ·)=false:=by
 cases C:(ops[j]?).bind (·.dst)with
 | none=>simp
 | some d =>
  rw[C]at h;unfold eR at *;rw[List.filterMap_cons]at h;cases u:o.dst with
  | none=>rw[u]at h;simpa using h
  | some d' => rw[u]at h;simpa using h
theorem Yw {ops:List Oper}{K:KE}{Q:Exit→Act→World→Prop}{rest:List Oper}(I:∀e w,K e w→wpList P ops.toArray Q rest ⟨e.toArray,ds⟩ w):∀(l:List Oper) (e:Env) (w:World),(∀o∈l,o.guard=none)→dP P l K e w→wpList P ops.toArray Q (l++rest) ⟨e.toArray,ds⟩ w:=by
 intro l
 induction l with
 | nil=>intro e w _ h;exact I e w h
 | cons o l ih =>
  intro e w C h;refine wpList_step fun KK j=>?_;rw[if_pos (by simp[Region.wanted,C o (List.mem_cons_self ..)])];exact Bl h fun v w' J=>j _ _ (ih _ _ (fun M u => C M (List.mem_cons_of_mem _ u)) J)
theorem WY {ops:List Oper}{K:KE}{Q:Exit→Act→World→Prop}{rest:List Oper}{j:Nat}{u:Bool}(hK:∀e w,K e w→wpList P ops.toArray Q rest ⟨e.toArray,ds⟩ w):∀(l:List Oper) (e:Env) (w:World),(∀o∈l,o.guard=some (j,u))→((ops[j]?).bind (·.dst)).any ((eR l).contains ·)=false→asB (qU ops e j)=some u→dP P l K e w →
   wpList P ops.toArray Q (l++rest) ⟨e.toArray,ds⟩ w:=by
 intro l
 induction l with
 | nil=>intro e w _ _ _ h;exact hK e w h
 | cons o l ih =>
  intro e w U hd Z h;obtain⟨I,J⟩:=Iy hd;refine wpList_step fun KK C=>?_;have hw:=wA ops e o j u (U o (List.mem_cons_self ..));dsimp only at hw ⊢;rw[hw,if_pos (by simp[Z])];exact Bl h fun v w' O => C _ _ (ih _ _ (fun o' M => U o' (List.mem_cons_of_mem _ M)) J (by rw[Mn I];exact Z) O)
theorem Nw (C:List Value)(I:∀i,gd C i=undef):∀(ds:List Nat) (k u:Nat) (e:Env) (j:List Value),(∀i,gd j i=undef)→wJ C ds k e=wJ j ds u e:=by
 intro ds
 induction ds with
 | nil=>intro k u e j _;rfl
 | cons d ds ih=>intro k u e j h;simp only[wJ,I,h];exact ih _ _ _ _ h
theorem RO (ds:List Nat)(i:Nat):gd (ds.map fun _=>undef) i=undef:=by
 simp only[gd,List.getD,List.getElem?_map];cases ds[i]? <;> rfl
theorem UW {ops:List Oper}{Q:Exit→Act→World→Prop}{rest:List Oper}{j:Nat}{u:Bool}:∀(l:List Oper) (e:Env) (w:World),(∀o∈l,o.guard=some (j,u))→((ops[j]?).bind (·.dst)).any ((eR l).contains ·)=false→asB (qU ops e j)≠some u →
   wpList P ops.toArray Q rest ⟨(Ac e (eR l) ((eR l).map fun _=>undef)).toArray,ds⟩ w→wpList P ops.toArray Q (l++rest) ⟨e.toArray,ds⟩ w:=by
 intro l
 induction l with
 | nil=>intro e w _ _ _ h;exact h
 | cons o l ih =>
  intro e w U hd Z h;obtain⟨I,J⟩:=Iy hd;refine wpList_step fun KK C=>?_;have hw:=wA ops e o j u (U o (List.mem_cons_self ..));dsimp only at hw ⊢;rw[hw,if_neg (by simpa using Z),wG];refine C _ _ (ih _ _ (fun o' M => U o' (List.mem_cons_of_mem _ M)) J (by rw[Mn I];exact Z) ?_)
  have he:Ac e (eR (o::l)) ((eR (o::l)).map fun _=>undef)=Ac (pt e o.dst undef) (eR l) ((eR l).map fun _=>undef):=by
   have O:=fun ds=>RO ds;unfold eR;rw[List.filterMap_cons];cases o.dst with
   | none=>rfl
   | some d =>
    simp only[Ac,wJ,O,pt];exact Nw _ (O _) _ _ _ _ _ (O _)
  rw[←he];exact h
theorem Yy (j:List Value):∀(ds:List Nat) (k:Nat) (e:Env) (i:Nat),i∉ds→(wJ j ds k e)[i]? = e[i]? := by
 intro ds
 induction ds with
 | nil=>intro k e i _;rfl
 | cons d ds ih =>
  intro k e i hi;simp only[List.mem_cons,not_or]at hi;simp only[wJ];rw[ih _ _ _ hi.2,List.getElem?_set_ne (fun h=>hi.1 h.symm)]
theorem WZ (M:List Value)(e':Env):∀(ds:List Nat) (k:Nat) (e:Env),(∀i d,ds[i]? = some d→gd M (k+i)=gd e' d)→e'.length=e.length→(∀i,i∉ds→e'[i]? = e[i]?)→wJ M ds k e=e':=by
 intro ds
 induction ds with
 | nil=>intro k e _ I h;exact(List.ext_getElem? fun i=>h i sm).symm
 | cons d ds ih =>
  intro k e J I h;simp only[wJ];refine ih (k+1) _ (fun i O U=>by rw[show k+1+i=k+(i+1)by omega];exact J (i+1) O (by simpa using U)) (by simp[I]) ?_;have C:=J 0 d sm;rw[Nat.add_zero]at C;intro i hi;by_cases j:i=d
  ·subst j;by_cases u:i<e.length
   ·rw[List.getElem?_set_self u,C]
    have:i<e'.length:=by omega
    simp[gd,List.getD,this]
   ·rw[List.getElem?_eq_none (show e'.length≤i by omega),List.getElem?_eq_none (by simp;omega)]
  ·rw[List.getElem?_set_ne (fun h=>j h.symm)];exact h i (by simp[j,hi])
theorem Yz (ds:List Nat)(e e':Env)(u:e'.length=e.length)(h:∀i,i∉ds→e'[i]? = e[i]?):Ac e ds (ds.map (gd e'))=e':=by
 refine WZ _ e' ds 0 e (fun i d j=>?_) u h;rw[Nat.zero_add];simp[gd,List.getD,List.getElem?_map,j]
theorem tU :∀(l:List Oper),((grp l).flatMap (·.2))=l∧∀g∈grp l,∀o∈g.2,o.guard=g.1:=by
 intro l
 induction l with
 | nil=>simp[grp]
 | cons o l ih =>
  obtain⟨u,C⟩:=ih;unfold grp;split
  ·rename_i J;rw[J]at u;simp at u;subst u;simp
  ·rename_i g l' O J;rw[J]at u C;split
   ·rename_i M;refine⟨by simpa using u,?_⟩;intro x j I h;simp only[List.mem_cons]at j;rcases j with rfl|j
    ·simp only[List.mem_cons]at h;rcases h with rfl|h
     ·exact M
     ·exact C (g,l') sm I h
    ·exact C x (by simp[j]) I h
   ·refine⟨by simpa using u,?_⟩;intro x j I h;simp only[List.mem_cons]at j;rcases j with rfl|rfl|j
    ·simp only[List.mem_singleton]at h;rw[h]
    ·exact C (g,l') sm I h
    ·exact C x (by simp[j]) I h
def agree (ws:List Nat)(e e':Env):Prop:=e'.length=e.length∧∀i,i∉ws→gd e' i=gd e i
theorem agree.refl (ws:List Nat)(e:Env):agree ws e e:=⟨rfl,fun _ _=>rfl⟩
theorem agree.trans {ws j:List Nat}{a b c:Env}(h:agree ws a b)(k:agree j b c):agree (ws++j) a c :=
 ⟨k.1.trans h.1,fun i hi=>by
  simp only[List.mem_append,not_or]at hi;rw[k.2 i hi.2,h.2 i hi.1]⟩
theorem agree.mono {ws j:List Nat}{a b:Env}(h:agree ws a b)(C:∀i∈ws,i∈j):agree j a b:=⟨h.1,fun i hi=>h.2 i fun u=>hi (C i u)⟩
theorem Ix (e:Env)(d:Option Tmp)(v:Value):agree d.toList e (pt e d v):=by
 cases d with
 | none=>exact agree.refl _ _
 | some d =>
  refine⟨by simp[pt],fun i hi=>?_⟩
  have:d≠i:=by simpa[eq_comm]using hi
  simp[pt,gd,List.getD,List.getElem?_set_ne this]
theorem KC {f:FuncId}{args:Array Value}{K K':KV}{w:World}(j:∀v w',K v w'→K' v w')(h:call P f args K w):call P f args K' w:=⟨h.1,h.2.mono j⟩
theorem Ex {r:Operand→Value}{o:Oper}{K K':KV}{w:World}(hk:∀v w',K v w'→K' v w')(h:cOp P r o K w):cOp P r o K' w:=by
 unfold cOp at *
 split at h<;>first
  | exact hk _ _ h
  | exact zah hk h
  | exact zag hk h
  | exact h.elim
  | skip
 ·obtain⟨b,hb,h⟩:=h;exact⟨b,hb,hk _ _ h⟩
 ·unfold aJ at *
  split at h
  ·exact hk _ _ h
  ·exact hk _ _ h
  ·exact h.elim
 ·split at h
  ·exact KC hk h
  ·obtain⟨f,first,cap,hf,hc⟩:=h;exact⟨f,first,cap,hf,KC hk hc⟩
  ·unfold blt at *
   split at h
   ·exact hk _ _ h
   ·exact h.elim
  ·exact h.elim
theorem IC :∀(l:List Oper) {K K':KE} {e:Env} {w:World},dP P l K e w→(∀j w2,agree (eR l) e j→K j w2→K' j w2)→dP P l K' e w:=by
 intro l
 induction l with
 | nil=>intro K K' e w h C;exact C _ _ (agree.refl _ _) h
 | cons o rest ih =>
  intro K K' e w h C;exact Ex (fun v w' h=>ih h fun j w2 J I=>C j w2 (((Ix e o.dst v).trans J).mono (by
   intro i hi;simp only[List.mem_append]at hi;unfold eR;rw[List.filterMap_cons];rcases hi with hi|hi
   ·cases u:o.dst with
    | none=>simp[u]at hi
    | some d=>simp[u]at hi;simp[hi]
   ·cases u:o.dst with
    | none=>exact hi
    | some d=>exact List.mem_cons_of_mem _ hi)) I) h
theorem Pb {ds:List Nat}{e e':Env}(h:agree ds e e'):Ac e ds (ds.map (gd e'))=e':=by
 refine Yz ds e e' h.1 fun i hi=>?_;have C:=h.2 i hi;by_cases j:i<e.length
 ·have u:i<e'.length:=by rw[h.1];exact j
  simp only[gd,List.getD,gE j,gE u,Option.getD_some]at C ⊢;rw[C]
 ·simp[List.getElem?_eq_none (Nat.le_of_not_lt j),List.getElem?_eq_none (show e'.length≤i by rw[h.1];omega)]
theorem DD {ops:List Oper}{K:KE}{Q:Exit→Act→World→Prop}(hK:∀e w,K e w→Q .normal ⟨e.toArray,ds⟩ w):∀(u:List (Option (Nat×Bool)×List Oper)) (e:Env) (w:World),(∀g∈u,∀o∈g.2,o.guard=g.1)→dy P ops u K e w→wpList P ops.toArray Q (u.flatMap (·.2)) ⟨e.toArray,ds⟩ w:=by
 intro u
 induction u with
 | nil=>intro e w _ h;exact hK e w h
 | cons g u ih =>
  intro e w hg h;obtain⟨I,l⟩:=g;have C:∀g∈u,∀o∈g.2,o.guard=g.1:=fun g hh=>hg g (List.mem_cons_of_mem _ hh);have Z:=hg (I,l) (List.mem_cons_self ..);rw[List.flatMap_cons];cases I with
  | none=>exact Yw (fun e w h=>ih e w C h) l e w Z h
  | some jw =>
   obtain⟨j,J⟩:=jw;simp only[dy]at h;cases M:((ops[j]?).bind (·.dst)).any ((eR l).contains ·)
   case true=>rw[M]at h;exact h.elim
   case false =>
    rw[M]at h;have h:aG _ _ _ _ _:=h;by_cases O:asB (qU ops e j)=some J
    ·refine WY (K:=fun e' w' => dy P ops u K e' w') (fun e w h=>ih e w C h) l e w Z M O <|IC l (h.1 O) ?_;intro e2 w2 ha U;dsimp only at U;rw[Pb ha]at U;exact U
    ·exact UW l e w Z M O (ih _ w C (h.2 O))
theorem X8 {o:Oper}{e:Env}{w:World}{k:KV}(h:sOp P e o k w):sti (fun k w=>cOp P (ev e) o k w) k w:=by
 unfold sOp at h;split at h
 ·rename_i x j;exact⟨_,by unfold cOp;simp only[j];exact⟨(by first|trivial|rfl),(by first|trivial|rfl)⟩,h⟩
 ·rename_i x j;exact⟨_,by unfold cOp;simp only[j];exact⟨(by first|trivial|rfl),(by first|trivial|rfl)⟩,h⟩
 ·exact h
theorem zau {o:Oper}{e:Env}{w:World}{k u:KV}(j:∀v,k v w→u v w)(h:sOp P e o k w):sOp P e o u w:=by
 unfold sOp at *;split at h
 ·exact j _ h
 ·exact j _ h
 ·obtain⟨v,C,h⟩:=h;exact⟨v,C,j _ h⟩
theorem Uv {o:Oper}{e:Env}{w:World}{k:KV}{next:Act→Prop}(h:sOp P e o k w)(I:∀v,k v w→next ⟨(pt e o.dst v).toArray,ds⟩):o.still P ⟨e.toArray,ds⟩ w next:=by
 obtain⟨v,O,C⟩:=X8 h;have j:∀v',Act.put ⟨e.toArray,ds⟩ o.dst v'=⟨(pt e o.dst v').toArray,ds⟩:=fun v' => wG e ds o.dst v';unfold Oper.still;rcases RL O with⟨v',w',u,rfl,rfl⟩|⟨w',u,J,rfl⟩|⟨f,args,u,M⟩
 ·rw[u];exact⟨rfl,by rw[j];exact I _ C⟩
 ·rw[u];exact⟨rfl,by rw[j,J];exact I _ C⟩
 ·rw[u];exact⟨rfl,v,Calls.mono M (by rintro e' w' ⟨v',rfl,rfl,rfl⟩;exact⟨rfl,rfl⟩),by rw[j];exact I _ C⟩
theorem WX {ops:List Oper}{K:KE}{Q:Act→Prop}{w:World}{rest:List Oper}(C:∀e,K e w→wpStill P ops.toArray w Q rest ⟨e.toArray,ds⟩):∀(l:List Oper) (e:Env),(∀o∈l,o.guard=none)→OO P l K e w→wpStill P ops.toArray w Q (l++rest) ⟨e.toArray,ds⟩:=by
 intro l
 induction l with
 | nil=>intro e _ h;exact C e h
 | cons o l ih =>
  intro e u h;simp only[List.cons_append,wpStill];rw[if_pos (by simp[Region.wanted,u o (List.mem_cons_self ..)])];exact Uv h fun v I=>ih _ (fun J j => u J (List.mem_cons_of_mem _ j)) I
theorem UU {ops:List Oper}{K:KE}{Q:Act→Prop}{w:World}{rest:List Oper}{j:Nat}{u:Bool}(Z:∀e,K e w→wpStill P ops.toArray w Q rest ⟨e.toArray,ds⟩):∀(l:List Oper) (e:Env),(∀o∈l,o.guard=some (j,u))→((ops[j]?).bind (·.dst)).any ((eR l).contains ·)=false→asB (qU ops e j)=some u→OO P l K e w →
   wpStill P ops.toArray w Q (l++rest) ⟨e.toArray,ds⟩:=by
 intro l
 induction l with
 | nil=>intro e _ _ _ h;exact Z e h
 | cons o l ih =>
  intro e O hd U h;obtain⟨C,I⟩:=Iy hd;have hw:=wA ops e o j u (O o (List.mem_cons_self ..));simp only[List.cons_append,wpStill];rw[hw,if_pos (by simp[U])];exact Uv h fun v M => ih _ (fun o' J => O o' (List.mem_cons_of_mem _ J)) I (by rw[Mn C];exact U) M
theorem UV {ops:List Oper}{Q:Act→Prop}{w:World}{rest:List Oper}{j:Nat}{u:Bool}:∀(l:List Oper) (e:Env),(∀o∈l,o.guard=some (j,u))→((ops[j]?).bind (·.dst)).any ((eR l).contains ·)=false→asB (qU ops e j)≠some u →
   wpStill P ops.toArray w Q rest ⟨(Ac e (eR l) ((eR l).map fun _=>undef)).toArray,ds⟩→wpStill P ops.toArray w Q (l++rest) ⟨e.toArray,ds⟩:=by
 intro l
 induction l with
 | nil=>intro e _ _ _ h;exact h
 | cons o l ih =>
  intro e O Z U h;obtain⟨C,I⟩:=Iy Z;have hw:=wA ops e o j u (O o (List.mem_cons_self ..));simp only[List.cons_append,wpStill];rw[hw,if_neg (by simpa using U),wG];refine ih _ (fun o' J => O o' (List.mem_cons_of_mem _ J)) I (by rw[Mn C];exact U) ?_;have he:Ac e (eR (o::l)) ((eR (o::l)).map fun _=>undef)=Ac (pt e o.dst undef) (eR l) ((eR l).map fun _=>undef):=by
   have M:=fun ds=>RO ds;unfold eR;rw[List.filterMap_cons];cases o.dst with
   | none=>rfl
   | some d =>
    simp only[Ac,wJ,M,pt];exact Nw _ (M _) _ _ _ _ _ (M _)
  rw[←he];exact h
theorem JE :∀(l:List Oper) {K K':KE} {e:Env} {w:World},OO P l K e w→(∀j,agree (eR l) e j→K j w→K' j w)→OO P l K' e w:=by
 intro l
 induction l with
 | nil=>intro K K' e w h C;exact C _ (agree.refl _ _) h
 | cons o rest ih =>
  intro K K' e w h C;refine zau (fun v h=>ih h fun j J I=>C j (((Ix e o.dst v).trans J).mono ?_) I) h;intro i hi;simp only[List.mem_append]at hi;unfold eR;rw[List.filterMap_cons];rcases hi with hi|hi
  ·cases u:o.dst with
   | none=>simp[u]at hi
   | some d=>simp[u]at hi;simp[hi]
  ·cases u:o.dst with
   | none=>exact hi
   | some d=>exact List.mem_cons_of_mem _ hi
theorem Ei {ops:List Oper}{K:KE}{Q:Act→Prop}{w:World}(hK:∀e,K e w→Q ⟨e.toArray,ds⟩):∀(u:List (Option (Nat×Bool)×List Oper)) (e:Env),(∀g∈u,∀o∈g.2,o.guard=g.1)→B9 P ops u K e w→wpStill P ops.toArray w Q (u.flatMap (·.2)) ⟨e.toArray,ds⟩:=by
 intro u
 induction u with
 | nil=>intro e _ h;exact hK e h
 | cons g u ih =>
  intro e hg h;obtain⟨I,l⟩:=g;have C:∀g∈u,∀o∈g.2,o.guard=g.1:=fun g hh=>hg g (List.mem_cons_of_mem _ hh);have Z:=hg (I,l) (List.mem_cons_self ..);rw[List.flatMap_cons];cases I with
  | none=>exact WX (fun e h=>ih e C h) l e Z h
  | some jw =>
   obtain⟨j,J⟩:=jw;simp only[B9]at h;cases M:((ops[j]?).bind (·.dst)).any ((eR l).contains ·)
   case true=>rw[M]at h;exact h.elim
   case false =>
    rw[M]at h;have h:aG _ _ _ _ _:=h;by_cases O:asB (qU ops e j)=some J
    ·refine UU (K:=fun e' w' => B9 P ops u K e' w') (fun e h=>ih e C h) l e Z M O <|JE l (h.1 O) ?_;intro e2 ha U;dsimp only at U;rw[Pb ha]at U;exact U
    ·exact UV l e Z M O (ih _ C (h.2 O))
theorem Pq (ops:Array Oper)(h:Nat.ble (ju ops) ops.size=true):(Region.lexB .any ops=true∧ju ops=ops.size)∨(Region.lexTailB .any ops (ju ops)=true∧ju ops<ops.size):=by
 have j:∀n,n≤ops.size→Nat.ble (vC ops n) ops.size=true→Region.lexTailB .any ops (vC ops n)=true∧vC ops n<ops.size:=by
  intro n
  induction n with
  | zero=>intro _ h;simp only[vC]at h;have:=Nat.le_of_ble_eq_true h;omega
  | succ n ih =>
   intro J h;simp only[vC]at h ⊢;cases C:Region.lexTailB .any ops n
   case true=>exact⟨C,by show n<_;omega⟩
   case false=>rw[C]at h;exact ih oo h
 unfold ju at *;cases u:Nat.ble (X9 ops+1) ops.size
 case true =>
  right;rw[u]at h;exact j _ (Nat.le_of_ble_eq_true u) h
 case false =>
  rw[u]at h;cases I:Region.lexB .any ops
  case true=>left;exact⟨rfl,rfl⟩
  case false =>
   right;rw[I]at h;exact j ops.size oA h
theorem tD {o:Oper}{a:Act}{w:World}{K:KV}(s:Sem Value)(u:execOp a.eval o=(do pure (.value (←s)):Sem Next))(h:okV P s K w):∃v w',(execOp a.eval o).run P w=.ok (.value v) w'∧K v w':=by
 unfold okV at h;split at h
 ·rename_i v w' j;exact⟨v,w',by rw[u,Sc,j];rfl,h⟩
 ·exact h.elim
theorem Qy {o:Oper}{e:Env}{w:World}{K:KV}(hr:HT o=true)(h:cOp P (ev e) o K w):∃v w',(execOp (Act.eval ⟨e.toArray,ds⟩) o).run P w=.ok (.value v) w'∧K v w':=by
 have he:Act.eval ⟨e.toArray,ds⟩=ev e:=funext (sd e ds)
 obtain⟨dst,op,ty,pos,after,guard⟩:=o
 cases op<;>simp only[cOp]at h
 case move x=>exact⟨_,w,by rw[he];rfl,h⟩
 case assign x=>exact⟨_,w,by rw[he];rfl,h⟩
 case pick c x y =>
  obtain⟨b,hb,hk⟩:=h
  exact⟨_,w,by unfold execOp;simp only[he,hb,asBool,Sem.run_bind,Sem.run_pure,Result.andThen],hk⟩
 case build t ps=>exact tD (a:=⟨e.toArray,ds⟩) (Instr.build t (ps.toList.map fun p:Nat×Operand=>(p.1,ev e p.2)).toArray) (by rw[he];exact congrArg (fun l=>(do pure (.value (←Instr.build t l)):Sem Next)) (Oy e ps)) h
 case load t x=>exact tD (a:=⟨e.toArray,ds⟩) (Instr.loadAt t (ev e x)) (by rw[he];rfl) h
 case nilCheck x =>
  unfold aJ at h
  split at h
  ·rename_i a ha;exact⟨_,w,by unfold execOp;simp only[he,ha];rfl,h⟩
  ·rename_i f first cap ha;exact⟨_,w,by unfold execOp;simp only[he,ha];rfl,h⟩
  ·exact h.elim
 case binOp op t x y yt=>exact tD (a:=⟨e.toArray,ds⟩) (do eqG op t (isC x) (isC y) (ev e x) (ev e y);binOp op t (ev e x) (ev e y)) (by rw[he, ←Xx];rfl) h
 case unOp op t x=>exact tD (a:=⟨e.toArray,ds⟩) (Op.unary op (ev e x)) (by rw[he];rfl) h
 case convert s d x=>exact tD (a:=⟨e.toArray,ds⟩) (Go.convert s d (ev e x)) (by rw[he];rfl) h
 case makeInterface t x=>exact tD (a:=⟨e.toArray,ds⟩) (Instr.makeInterface t (ev e x)) (by rw[he];rfl) h
 case makeFunc fn first cap =>
  have e1:first.map (ev e)=(first.toList.map (ev e)).toArray:=by rw[←Array.toList_map]
  have e2:cap.map (ev e)=(cap.toList.map (ev e)).toArray:=by rw[←Array.toList_map]
  exact⟨_,w,by unfold execOp;simp only[he,Instr.makeFunc,Sem.run_bind,Sem.run_pure,Result.andThen];rw[e1,e2],h⟩
 case slice t x lo hi mx=>exact tD (a:=⟨e.toArray,ds⟩) (Instr.sliceAt t (ev e x) (lo.map (ev e)) (hi.map (ev e)) (mx.map (ev e))) (by rw[he];rfl) h
 case fieldAddr s x f=>exact tD (a:=⟨e.toArray,ds⟩) (Instr.fieldAt s (ev e x) f) (by rw[he];rfl) h
 case field s x f=>exact tD (a:=⟨e.toArray,ds⟩) (Instr.field s (ev e x) f) (by rw[he];rfl) h
 case indexAddr t x i=>exact tD (a:=⟨e.toArray,ds⟩) (Instr.indexAt t (ev e x) (ev e i)) (by rw[he];rfl) h
 case index t x i=>exact tD (a:=⟨e.toArray,ds⟩) (Instr.index t (ev e x) (ev e i)) (by rw[he];rfl) h
 case lookup t x i ok=>exact tD (a:=⟨e.toArray,ds⟩) (Instr.lookup t (ev e x) (ev e i) ok) (by rw[he];rfl) h
 case extract t i=>exact tD (a:=⟨e.toArray,ds⟩) (Instr.extract (ev e t) i) (by rw[he];rfl) h
 case call c =>
  obtain⟨callee,args,ats⟩:=c
  have ea:args.map (ev e)=(args.toList.map (ev e)).toArray:=by rw[←Array.toList_map]
  cases callee with
  | invoke r m=>exact h.elim
  | builtin b =>
   have hx:execOp (Act.eval ⟨e.toArray,ds⟩) {dst,op:=.call {callee:=.builtin b,args,argTypes:=ats},type:=ty,pos,after,guard} = builtin b ats ty (args.map isC) (args.map (ev e)):=by rw[he];rfl
   have hc:args.map isC=(args.toList.map isC).toArray:=by rw[←Array.toList_map]
   have h:blt P b ats ty (args.toList.map isC).toArray (args.toList.map (ev e)).toArray K w:=h
   unfold blt at h
   split at h
   ·rename_i v w' hr;exact⟨v,w',by rw[hx,hc,ea];exact hr,h⟩
   ·exact h.elim
  | value f=>simp[HT]at hr
 all_goals first|exact h.elim|(simp[HT]at hr)
theorem Vr {S:World→Prop}{e:Env}{o:Oper}{k:Value→Prop}(h:hOp P S e o k):hld S (fun k w=>cOp P (ev e) o k w) k:=by
 unfold hOp at h
 split at h
 ·rename_i x ho;exact⟨_,fun w _=>by unfold cOp;simp only[ho];exact⟨(by first|trivial|rfl),(by first|trivial|rfl)⟩,h⟩
 ·rename_i x ho;exact⟨_,fun w _=>by unfold cOp;simp only[ho];exact⟨(by first|trivial|rfl),(by first|trivial|rfl)⟩,h⟩
 ·rename_i fn first cap ho;exact⟨_,fun w _=>by unfold cOp;simp only[ho];exact⟨(by first|trivial|rfl),(by first|trivial|rfl)⟩,h⟩
 ·exact h
theorem XH {f:Nat→Prop}:∀(l:List Nat),J5 l f→∀i∈l,f i:=by
 intro l
 induction l with
 | nil=>intro _ i hi;cases hi
 | cons j r ih =>
  intro h i hi;cases r with
  | nil =>
   rcases List.mem_cons.1 hi with rfl|hi
   ·exact h
   ·cases hi
  | cons u r2 =>
   have h:f j∧J5 (u::r2) f:=h;rcases List.mem_cons.1 hi with rfl|hi
   ·exact h.1
   ·exact ih h.2 i hi
theorem Ww {f g:Nat→Prop}(u:∀i,f i→g i):∀(l:List Nat),J5 l f→J5 l g:=by
 intro l
 induction l with
 | nil=>exact id
 | cons j r ih =>
  intro h;cases r with
  | nil=>exact u _ h
  | cons C r2 =>
   have h:f j∧J5 (C::r2) f:=h;exact⟨u _ h.1,ih h.2⟩
/-! ### A reading may be taken ahead of what does not turn it. -/
section taken
variable {ops:Array Oper}{Q:Exit→Act→World→Prop}{S:World→Prop}
def Bm (ops:Array Oper)(listed:Array Bool):Prop:=∀(j:Nat) (o:Oper),ops[j]? = some o→listed.getD j false=true→∀e∈o.after,Region.binds .any e=true→listed.getD e.on false=true
theorem Ss {u:Array Bool}{i j:Nat}(h:(u.setIfInBounds i true).getD j false=true):u.getD j false=true∨j=i:=by
 by_cases C:j=i
 ·exact .inr C
 ·left;rw[getD_set_ne false (Ne.symm C)]at h;exact h
theorem wD {u:Array Bool}{i:Nat}(U:Bm ops u)(hr:i∈Region.ready .any ops u):Bm ops (u.setIfInBounds i true):=by
 intro j o O Z e M J;rcases Ss Z with h|rfl
 ·exact getD_set_true (U j o O h e M J)
 ·obtain⟨_,o',I,C⟩:=mem_ready.1 hr;rw[O]at I;cases I;exact getD_set_true (C e M J)
theorem Nu {h:Array Bool}{j:Nat}(J:∀o,ops[j]? = some o→∀e∈o.after,Region.binds .any e=true→h.getD e.on false=true):∀x∈QP ops j,h.getD x false=true:=by
 intro x u;unfold QP at u;split at u
 ·rename_i o M;simp only[List.mem_map,List.mem_filter]at u;obtain⟨e,⟨I,C⟩,rfl⟩:=u;exact J o M e (by simpa using I) C
 ·cases u
theorem UN {h:Array Bool}(U:Bm ops h):∀(f:Nat) (u C:List Nat),(∀x∈u,h.getD x false=true)→(∀x∈C,h.getD x false=true)→∀x∈QO ops f u C,h.getD x false=true:=by
 intro f
 induction f with
 | zero=>intro u C _ J;exact J
 | succ f ih =>
  intro u C M J;cases u with
  | nil=>exact J
  | cons j u =>
   simp only[QO];split
   ·exact ih _ _ (fun x I=>M x (List.mem_cons_of_mem _ I)) J
   ·refine ih _ _ (fun x I=>?_) (fun x I=>?_)
    ·rcases List.mem_append.1 I with I|I
     ·exact Nu (fun o ho e Z O=>U j o ho (M j (List.mem_cons_self ..)) e Z O) x I
     ·exact M x (List.mem_cons_of_mem _ I)
    ·rcases List.mem_cons.1 I with rfl|I
     ·exact M _ (List.mem_cons_self ..)
     ·exact J x I
theorem za9 {k:Nat}:∀{l:List Nat},QW k l=true→k∈l:=by
 intro l
 induction l with
 | nil=>intro h;cases h
 | cons i r ih =>
  intro h;simp only[QW,Bool.or_eq_true]at h;rcases h with h|h
  ·rw[Nat.eq_of_beq_eq_true h];exact List.mem_cons_self ..
  ·exact List.mem_cons_of_mem _ (ih h)
theorem UO {h:Array Bool}{i j:Nat}{u:List Nat}(U:Bm ops h)(Z:j∈Region.ready .any ops h)(hi:i∈Region.ready .any ops h):qP ops (i::u) j=i::qP ops u j:=by
 unfold qP;rw[List.filter_cons_of_pos];cases hm:QW i (QO ops 1000 (QP ops j) [])with
 | false=>rfl
 | true =>
  obtain⟨_,o,ho,C⟩:=mem_ready.1 Z;have J:=UN U 1000 (QP ops j) [] (Nu fun o' I => by rw[ho]at I;cases I;exact C) (fun x hx=>by cases hx) i (za9 hm);have O:=(mem_ready.1 hi).1;rcases Nat.lt_or_ge i h.size with M|M
  ·simp[M]at O J;rw[O]at J;cases J
  ·simp[Array.getElem?_eq_none M]at J
def sc (P:Program)(ops:Array Oper)(Q:Exit→Act→World→Prop)(S:World→Prop):Nat→Array Bool→List Nat→Act→World→Prop
 | 0,listed,_,a,w=>Region.ready .any ops listed=[]∧Q .normal a w
 | fuel+1,listed,pend,a,w =>
  (Region.ready .any ops listed=[]→Q .normal a w) ∧
  ∀i∈Region.ready .any ops listed,wpOp P ops Q i (fun a' w' => (qP ops pend i≠[]→S w')∧sc P ops Q S fuel (listed.setIfInBounds i true) (qP ops pend i) a' w') a w
theorem Ej :∀(fuel:Nat) (j:Array Bool) (u:List Nat) (a:Act) (w:World),sc P ops Q S fuel j u a w→wpAny P .any ops Q fuel j a w
 | 0,_,_,_,_,h=>h
 | fuel+1,_,_,_,_,h=>⟨h.1,fun i hi=>wpOp_mono (fun C w' I => Ej fuel _ _ C w' I.2) (h.2 i hi)⟩
theorem Sh :∀(fuel:Nat) (j:Array Bool) (a:Act) (w:World),wpAny P .any ops Q fuel j a w→sc P ops Q S fuel j [] a w
 | 0,_,_,_,h=>h
 | fuel+1,_,_,_,h=>⟨h.1,fun i hi=>wpOp_mono (fun u w' C => ⟨fun I=>absurd rfl I,Sh fuel _ u w' C⟩) (h.2 i hi)⟩
theorem UE {S2:World→Prop}(J:∀x,S2 x→S x):∀(fuel:Nat) (j:Array Bool) (u:List Nat) (a:Act) (w:World),sc P ops Q S2 fuel j u a w→sc P ops Q S fuel j u a w
 | 0,_,_,_,_,h=>h
 | fuel+1,_,_,_,_,h=>⟨h.1,fun i hi=>wpOp_mono (fun M w' I => ⟨fun C=>J _ (I.1 C),UE J fuel _ _ M w' I.2⟩) (h.2 i hi)⟩
theorem RQ {p u:List Nat}{i:Nat}(h:∀x∈p,x∈u):∀x∈qP ops p i,x∈qP ops u i:=by
 intro x j;unfold qP at *;rw[List.mem_filter]at *;exact⟨h x j.1,j.2⟩
theorem Bk :∀(fuel:Nat) (j:Array Bool) (p C:List Nat) (a:Act) (w:World),(∀x∈p,x∈C)→sc P ops Q S fuel j C a w→sc P ops Q S fuel j p a w
 | 0,_,_,_,_,_,_,h=>h
 | fuel+1,_,p,C,_,_,hp,h=>⟨h.1,fun i hi=>wpOp_mono (fun J w' I => ⟨fun u=>I.1 (fun M=>u (by
   cases O:qP ops p i with
   | nil=>rfl
   | cons x r =>
    have:=RQ (ops:=ops) (i:=i) hp x (by rw[O];exact List.mem_cons_self ..)
    rw[M]at this;cases this)),Bk fuel _ _ _ J w' (RQ hp) I.2⟩) (h.2 i hi)⟩
theorem UF {i:Nat}{oi:Oper}{v:Value}(hi:ops[i]? = some oi)(aa:∀(j:Nat) (o:Oper) cs b,ops[j]? = some o→o.op≠.select cs b)(hQ:∀c a w,Q (.panic c) (a.put oi.dst v) w→Q (.panic c) a w):∀(fuel:Nat) (u:Array Bool) (I:List Nat) (a:Act) (w:World),Bm ops u →
   (∀j oj,ops[j]? = some oj→j≠i→u.getD j true=false→(∀e∈oj.after,Region.binds .any e=true→e.on≠i)→oi.apart ops oj=true) →
   i∈Region.ready .any ops u→YieldsIf P ops S oi v a→S w →
   sc P ops Q S fuel (u.setIfInBounds i true) (i::I) (a.put oi.dst v) w→sc P ops Q S (fuel+1) u I a w:=by
 intro fuel
 induction fuel with
 | zero =>
  intro u I a w _ _ Z hy hS H;refine⟨fun h=>(by rw[h]at Z;cases Z),fun j hj=>?_⟩;by_cases C:j=i
  ·subst C;exact hy.wpOp hi hS ⟨fun _=>hS,H⟩
  ·have:=ready_mono hj C
   rw[H.1]at this;cases this
 | succ fuel ih =>
  intro u I a w hc J Z hy hS H;refine⟨fun h=>(by rw[h]at Z;cases Z),fun j hj=>?_⟩;by_cases C:j=i
  ·subst C;refine hy.wpOp hi hS ⟨fun _=>hS,Bk _ _ _ _ _ _ (fun x hx=>?_) H⟩;unfold qP at hx;exact List.mem_cons_of_mem _ (List.mem_filter.1 hx).1
  ·have O:=H.2 j (ready_mono hj C);rw[UO hc hj Z]at O;obtain⟨U,oj,ad,ag⟩:=mem_ready.1 hj;have am:∀e∈oj.after,Region.binds .any e=true→e.on≠i:=fun e he hb ap=>by
    have O:=ag e he hb;have h0:=(mem_ready.1 Z).1;rw[ap]at O;rcases Nat.lt_or_ge i u.size with h'|h'
    ·simp[h']at h0 O;rw[h0]at O;cases O
    ·simp[Array.getElem?_eq_none h']at O
   have h2:=wpOp_putIf ad (J j oj ad C U am) (fun cs b=>aa i oi cs b hi) (fun cs b=>aa j oj cs b ad) hQ hy O;have M:∀k ok,ops[k]? = some ok→k≠i→(u.setIfInBounds j true).getD k true=false →
     (∀e∈ok.after,Region.binds .any e=true→e.on≠i)→oi.apart ops ok=true:=fun k ok hk ar an av=>by
    refine J k ok hk ar ?_ av;by_cases al:j=k
    ·subst al;exact U
    ·rw[getD_set_ne true al]at an;exact an
   refine wpOp_mono (fun a' w' h3=>?_) h2;have af:S w':=h3.2.1 sm;refine⟨fun _=>af,ih (u.setIfInBounds j true) _ a' w' (wD hc hj) M (ready_mono Z (Ne.symm C)) h3.1 af ?_⟩;rw[Array.setIfInBounds_comm _ _ C];exact h3.2.2
theorem UY {i:Nat}{oi:Oper}{v:Value}(hi:ops[i]? = some oi)(U:∀(j:Nat) (o:Oper) cs b,ops[j]? = some o→o.op≠.select cs b)(hQ:∀c a w,Q (.panic c) (a.put oi.dst v) w→Q (.panic c) a w):∀(fuel:Nat) (u:Array Bool) (C:List Nat) (a:Act) (w:World),Bm ops u →
   (∀j oj,ops[j]? = some oj→j≠i→u.getD j true=false→(∀e∈oj.after,Region.binds .any e=true→e.on≠i)→oi.apart ops oj=true) →
   i∈Region.ready .any ops u→YieldsIf P ops (fun _=>True) oi v a→(C≠[]→S w) →
   sc P ops Q S fuel (u.setIfInBounds i true) C (a.put oi.dst v) w→sc P ops Q S (fuel+1) u C a w:=by
 intro fuel
 induction fuel with
 | zero =>
  intro u C a w _ _ hr hy hS H;refine⟨fun h=>(by rw[h]at hr;cases hr),fun j hj=>?_⟩;by_cases I:j=i
  ·subst I;exact hy.wpOp hi trivial ⟨fun hh=>hS (fun h0=>hh (by rw[h0];rfl)),Bk 0 _ _ C _ _ (fun x hx=>(List.mem_filter.1 hx).1) H⟩
  ·have:=ready_mono hj I
   rw[H.1]at this;cases this
 | succ fuel ih =>
  intro u C a w hc J hr hy hS H;refine⟨fun h=>(by rw[h]at hr;cases hr),fun j hj=>?_⟩;by_cases I:j=i
  ·subst I;exact hy.wpOp hi trivial ⟨fun hh=>hS (fun h0=>hh (by rw[h0];rfl)),Bk _ _ _ _ _ _ (fun x hx=>(List.mem_filter.1 hx).1) H⟩
  ·have Z:=H.2 j (ready_mono hj I);obtain⟨O,oj,aa,ad⟩:=mem_ready.1 hj;have ag:∀e∈oj.after,Region.binds .any e=true→e.on≠i:=fun e he hb am=>by
    have Z:=ad e he hb;have h0:=(mem_ready.1 hr).1;rw[am]at Z;rcases Nat.lt_or_ge i u.size with h'|h'
    ·simp[h']at h0 Z;rw[h0]at Z;cases Z
    ·simp[Array.getElem?_eq_none h']at Z
   have h2:=wpOp_putIf aa (J j oj aa I O ag) (fun cs b=>U i oi cs b hi) (fun cs b=>U j oj cs b aa) hQ hy Z;have M:∀k ok,ops[k]? = some ok→k≠i→(u.setIfInBounds j true).getD k true=false →
     (∀e∈ok.after,Region.binds .any e=true→e.on≠i)→oi.apart ops ok=true:=fun k ok hk an al ap=>by
    refine J k ok hk an ?_ ap;by_cases af:j=k
    ·subst af;exact O
    ·rw[getD_set_ne true af]at al;exact al
   refine wpOp_mono (fun a' w' h3=>?_) h2;refine⟨h3.2.1,ih (u.setIfInBounds j true) _ a' w' (wD hc hj) M (ready_mono hr (Ne.symm I)) h3.1 h3.2.1 ?_⟩;rw[Array.setIfInBounds_comm _ _ I];exact h3.2.2
theorem Hu {j:Array Bool}{u:List Nat}{a:Act}{w:World}(C:Region.ready .any ops j=[])(h:Q .normal a w):∀fuel,sc P ops Q S fuel j u a w
 | 0=>⟨C,h⟩
 | _+1=>⟨fun _=>h,by rw[C];simp⟩
end taken
theorem PK {ops:Array Oper}{K:KE}{Q:Exit→Act→World→Prop}(hK:∀e w,K e w→Q .normal ⟨e.toArray,ds⟩ w)(hQ:∀c a w,¬Q (.panic c) a w)(hs:Region.noSelect ops=true):∀(f:Nat) (u:Array Bool) (C:List Nat) (S:World→Prop) (e:Env) (w:World),S w→Bm ops u→mZ P ops K f u C S e w→sc P ops Q S f u C ⟨e.toArray,ds⟩ w:=by
 intro f
 induction f with
 | zero =>
  intro u C S e w hS hc h;simp only[mZ]at h;cases hr:(Region.ready .any ops u).isEmpty
  case false=>rw[hr]at h;exact h.elim
  case true =>
   rw[hr]at h;exact Hu (List.isEmpty_iff.1 hr) (hK _ _ h) 0
 | succ f ih =>
  intro u C S e w hS hc h;simp only[mZ]at h;cases hr:(Region.ready .any ops u).isEmpty
  case true =>
   rw[hr]at h;exact Hu (List.isEmpty_iff.1 hr) (hK _ _ h) _
  case false =>
   rw[hr]at h;have ap:Region.ready .any ops u≠[]:=fun I=>by rw[I]at hr;cases hr
   dsimp only at h;cases hf:(Region.ready .any ops u).find? (PJ ops u)with
   | some i =>
    rw[hf]at h;have h:hAt ops i _:=h;have U:=List.mem_of_find?_eq_some hf;have M:=List.find?_some hf;unfold PJ at M;unfold hAt at h;cases ho:ops[i]? with
    | none=>rw[ho]at h;exact h.elim
    | some o =>
     rw[ho]at h M;simp only[Bool.and_eq_true]at M;cases aa:WJ o with
     | true =>
      dsimp only at h;rw[aa]at h;obtain⟨v,hv,hk⟩:=Vr h;have J:o.guard=none:=by
       unfold WJ at aa;cases hg:o.guard with
       | none=>rfl
       | some _=>rw[hg]at aa;cases aa
      have hy:YieldsIf P ops (fun _=>True) o v ⟨e.toArray,ds⟩:=.inl ⟨by simp[Region.wanted,J],fun w hS=>by
       obtain⟨v',w',ad,rfl,rfl⟩:=Qy M.1 (hv w hS);exact ad⟩
      refine UY ho (Region.noSelect_spec hs) (fun c a w I=>absurd I (hQ _ _ _)) (v:=v) _ _ _ _ _ hc (Region.free_spec ho M.2) U hy (fun _=>hS) ?_;rw[wG];exact ih _ _ _ _ _ hS (wD hc U) hk
     | false =>
     dsimp only at h;rw[aa]at h;have ar:∃v,YieldsIf P ops S o v ⟨e.toArray,ds⟩∧mZ P ops K f (u.setIfInBounds i true) (i::C) S (pt e o.dst v) w:=by
      dsimp only at h;unfold ZC at h;cases J:o.guard with
      | none =>
       rw[J]at h;obtain⟨v,hv,hk⟩:=Vr h;refine⟨v,.inl ⟨by simp[Region.wanted,J],fun w hS=>?_⟩,hk⟩;obtain⟨v',w',ad,rfl,rfl⟩:=Qy M.1 (hv w hS);exact ad
      | some jw =>
       obtain⟨j,O⟩:=jw;rw[J]at h;obtain⟨v,hv,hu,hk⟩:=h;have hw:=wA ops.toList e o j O J;rw[show ops.toList.toArray=ops from rfl]at hw;refine⟨v,?_,hk⟩;by_cases ha:asB (qU ops.toList e j)=some O
       ·refine .inl ⟨by rw[hw,ha];simp,fun w hS=>?_⟩;obtain⟨v',w',ad,rfl,rfl⟩:=Qy M.1 (hv ha w hS);exact ad
       ·exact .inr ⟨by rw[hw];simpa using ha,hu ha⟩
     obtain⟨v,hy,hk⟩:=ar;refine UF ho (Region.noSelect_spec hs) (fun c a w I=>absurd I (hQ _ _ _)) (v:=v) _ _ _ _ _ hc (Region.free_spec ho M.2) U hy hS ?_;rw[wG];exact ih _ _ _ _ _ hS (wD hc U) hk
   | none =>
    rw[hf]at h;refine⟨fun h0=>absurd h0 ap,fun i hi=>?_⟩;have Z:=XH _ h i hi;unfold hAt at Z;cases ho:ops[i]? with
    | none=>rw[ho]at Z;exact Z.elim
    | some o =>
     rw[ho]at Z;have al:∀(v:Value) (w':World),(match qP ops C i with
       | [] =>
        match (Region.ready .any ops (u.setIfInBounds i true)).isEmpty with
        | true=>mZ P ops K f (u.setIfInBounds i true) [] S (pt e o.dst v) w'
        | false=>aE (fun S w=>mZ P ops K f (u.setIfInBounds i true) [] S (pt e o.dst v) w) w'
       | p::ps=>aU S (fun S w=>mZ P ops K f (u.setIfInBounds i true) (p::ps) S (pt e o.dst v) w) w') →
       (qP ops C i≠[]→S w')∧sc P ops Q S f (u.setIfInBounds i true) (qP ops C i) ⟨(pt e o.dst v).toArray,ds⟩ w':=by
      intro v w' I;cases hl:qP ops C i with
      | nil =>
       rw[hl]at I;dsimp only at I;refine⟨fun h0=>absurd rfl h0,?_⟩;cases af:(Region.ready .any ops (u.setIfInBounds i true)).isEmpty with
       | true =>
        rw[af]at I;have I:mZ P ops K f (u.setIfInBounds i true) [] S (pt e o.dst v) w':=I
        have:K (pt e o.dst v) w':=by
         cases f with
         | zero=>simp only[mZ,af]at I;exact I
         | succ f=>simp only[mZ,af]at I;exact I
        exact Hu (List.isEmpty_iff.1 af) (hK _ _ this) _
       | false =>
        rw[af]at I;obtain⟨S2,ag,I⟩:=I;exact Sh _ _ _ _ (Ej _ _ _ _ _ (ih _ _ _ _ _ ag (wD hc hi) I))
      | cons p ps =>
       rw[hl]at I;obtain⟨S2,ag,an,I⟩:aU S (fun S w=>mZ P ops K f (u.setIfInBounds i true) (p::ps) S (pt e o.dst v) w) w':=I;exact⟨fun _=>ag _ an,UE ag _ _ _ _ _ (ih _ _ _ _ _ an (wD hc hi) I)⟩
     refine wpOp_step ho fun K' am=>?_;dsimp only at Z;unfold Z4 at Z;cases J:o.guard with
     | none =>
      rw[J]at Z;rw[if_pos (by simp[Region.wanted,J])];exact Bl Z fun v w' I=>am _ _ (al v w' I)
     | some jw =>
      obtain⟨j,O⟩:=jw;rw[J]at Z;have hw:=wA ops.toList e o j O J;rw[show ops.toList.toArray=ops from rfl]at hw;by_cases ha:asB (qU ops.toList e j)=some O
      ·rw[if_pos (by rw[hw,ha];simp)];exact Bl (Z.1 ha) fun v w' I=>am _ _ (al v w' I)
      ·rw[if_neg (by rw[hw];simpa using ha)];refine am _ _ ?_;rw[wG];exact al undef w (Z.2 ha)
theorem No (ops:Array Oper)(n:Nat):Bm ops (Array.replicate n false):=by
 intro j o _ h;rcases Nat.lt_or_ge j n with u|u
 ·simp[Array.getD,u]at h
 ·simp[Array.getD,Nat.not_lt.2 u]at h
theorem PN {ops:Array Oper}(h:Mo P ops=true):Region.noSelect ops=true:=by
 simp only[Mo,Bool.and_eq_true]at h;exact h.1
theorem Bg :∀(c:Code) (N:KE) (X:Nat→KE) (R:KE) (e:Env) (w:World),ah P c N X R e w→c.wp P (QQ ds N X R) ⟨e.toArray,ds⟩ w:=by
 intro c
 induction c with
 | skip=>intro N X R e w h;exact wp_skip ⟨e,rfl,h⟩
 | region id ops draw =>
  intro N X R e w h;cases draw with
  | true =>
   simp only[ah]at h;cases U:(P.follows .mixedOrders&&Mo P ops)
   case true =>
    rw[U]at h;obtain⟨S,hS,h⟩:=h;simp only[Bool.and_eq_true]at U;exact wp_region_any U.1 (Ej _ _ _ _ _ (PK (fun e w hN=>⟨e,rfl,hN⟩) (fun c a w hh=>hh) (PN U.2) _ _ _ _ _ _ hS (No ops _) h))
   case false =>
   rw[U]at h;dsimp only at h;cases O:(P.follows .mixedOrders&&Nat.ble (ju ops) ops.size)
   case false=>rw[O]at h;exact h.elim
   case true =>
    rw[O]at h;have h:B9 _ _ _ _ _ _:=h;simp only[Bool.and_eq_true]at O;obtain⟨j,u⟩:=tU (ops.toList.take (ju ops));obtain⟨h3,h4⟩:=tU (ops.toList.drop (ju ops));have J:∀e,dy P ops.toList (grp (ops.toList.drop (ju ops))) N e w.drew→wpList P ops.toList.toArray (QQ ds N X R) (ops.toList.drop (ju ops)) ⟨e.toArray,ds⟩ w.drew:=by
     intro e Z
     have:=DD (P:=P) (ops:=ops.toList) (Q:=QQ ds N X R) (K:=N) (fun e w h=>⟨e,rfl,h⟩) (grp (ops.toList.drop (ju ops))) e w.drew h4 Z
     rwa[h3]at this
    rcases Pq ops O.2 with⟨hB,hn⟩|⟨hB,hn⟩
    ·have M:=Ei (P:=P) (ops:=ops.toList) (Q:=fun a=>QQ ds N X R .normal a w.drew) (w:=w.drew) (fun e Z=>by
      have:=J e Z
      rw[hn,List.drop_of_length_le sm]at this;exact this) _ e u h
     rw[j,hn,tL sm]at M;refine wp_region_still O.1 hB ?_;simpa using M
    ·have M:=Ei (P:=P) (ops:=ops.toList) (Q:=fun a=>wpList P ops.toList.toArray (QQ ds N X R) (ops.toList.drop (ju ops)) a w.drew) (w:=w.drew) (fun e Z=>J e Z) _ e u h;rw[j]at M
     have:=wp_region_still_tail (P:=P) (id:=id) (Q:=QQ ds N X R) (a:=⟨e.toArray,ds⟩) (w:=w) (l:=ops.toList) (ju ops) O.1 (by simpa using hB) M
     simpa using this
  | false =>
   refine wp_region_list ?_;obtain⟨j,u⟩:=tU ops.toList
   have:=DD (P:=P) (ops:=ops.toList) (Q:=QQ ds N X R) (K:=N) (fun e w h=>⟨e,rfl,h⟩) (grp ops.toList) e w u h
   rw[j]at this;simpa using this
 | seq a b iha ihb =>
  intro N X R e w h;refine wp_seq (wp_mono (iha _ _ _ _ _ h) ?_);intro x a w C;cases x with
  | normal=>obtain⟨e,rfl,h⟩:=C;exact ihb _ _ _ _ _ h
  | _=>exact C
 | cond c x y ihx ihy =>
  intro N X R e w h;obtain⟨b,hb,j,u⟩:=h;cases b with
  | true=>exact wp_cond (t:=true) (by rw[sd];exact hb) (ihx _ _ _ _ _ (j rfl))
  | false=>exact wp_cond (t:=false) (by rw[sd];exact hb) (ihy _ _ _ _ _ (u rfl))
 | block id c ih =>
  intro N X R e w h;refine wp_block (wp_mono (ih _ _ _ _ _ h) ?_);intro x a w C;cases x with
  | exit i =>
   obtain⟨e,rfl,h⟩:=C;simp only[Exit.inBlock];by_cases hi:i=id
   ·rw[if_pos hi]
    have:Nat.beq i id=true:=by rw[hi];exact Nat.beq_refl id
    rw[this]at h;exact⟨e,rfl,h⟩
   ·rw[if_neg hi]
    have:Nat.beq i id=false:=by
     cases hb:Nat.beq i id with
     | false=>rfl
     | true=>exact absurd (Nat.eq_of_beq_eq_true hb) hi
    rw[this]at h;exact⟨e,rfl,h⟩
  | _=>exact C
 | loop c ih =>
  intro N X R e w h;obtain⟨I,μ,h0,M⟩:=h;refine wp_loop (fun a w=>∃e:Env,a=⟨e.toArray,ds⟩∧I e w) (fun a w=>μ a.tmps.toList w) ⟨e,rfl,h0⟩ ?_;rintro _ w' ⟨e',rfl,hI⟩;refine wp_mono (ih _ _ _ _ _ (M e' w' hI)) ?_;intro x a w C;cases x with
  | normal=>obtain⟨e2,rfl,j,u⟩:=C;exact⟨⟨e2,rfl,j⟩,by simpa using u⟩
  | _=>exact C
 | exit i=>intro N X R e w h;exact wp_exit ⟨e,rfl,h⟩
 | ret=>intro N X R e w h;exact wp_ret ⟨e,rfl,h⟩
 | _=>intro N X R e w h;exact h.elim
def oc (l:List (Option TypeId×Value)):Sem Value:=do
 let vs ←l.toArray.mapM fun|(none,v)=>pure v|(some t,a)=>do loadVar t (←asAddr a)
 pure (if h:vs.size=1 then vs[0]else .tuple vs)
def aV (P:Program)(l:List (Option TypeId×Value))(K:KV)(w:World):Prop:=match (oc l).run P w with | .ok v w' => w'=w∧K v w|_=>False
def LS (rs:List ResultVar)(e:Env):List (Option TypeId×Value):=rs.map fun | .tmp t=>(none,gd e t) | .cell a t=>(some t,gd e a)
def Ab (P:Program)(rs:List ResultVar)(K:KV)(e:Env)(w:World):Prop :=
 match rs with
 | []=>K (.tuple #[]) w
 | [.tmp t]=>K (gd e t) w
 | [.tmp t,.tmp u]=>K (.tuple #[gd e t,gd e u]) w
 | [.tmp t,.tmp u,.tmp v]=>K (.tuple #[gd e t,gd e u,gd e v]) w
 | [.tmp t,.tmp u,.tmp v,.tmp x]=>K (.tuple #[gd e t,gd e u,gd e v,gd e x]) w
 | rs=>aV P (LS rs e) K w
theorem WN (h:Func)(e:Env)(w:World):(results h e.toArray).run P w=(oc (LS h.results.toList e)).run P w:=by
 unfold results oc LS
 have:((h.results.toList.map fun | .tmp t=>((none,gd e t):Option TypeId×Value) | .cell a t=>(some t,gd e a))).toArray=h.results.map (fun | .tmp t=>((none,gd e t):Option TypeId×Value) | .cell a t=>(some t,gd e a)):=by
  rw[←Array.toList_map]
 rw[this,Array.mapM_map]
 congr 2
 congr 1
 funext x;cases x with
 | tmp t=>simp only[Function.comp,EL]
 | cell a t=>simp only[Function.comp,EL]
theorem wH {C:Func}{K:KV}{e:Env}{w:World}(h:Ab P C.results.toList K e w):∃v,(results C e.toArray).run P w=.ok v w∧K v w:=by
 rw[WN];unfold Ab at h;split at h
 ·rename_i j;rw[j];exact⟨_,by simp[oc,LS],h⟩
 ·rename_i j;rw[j];exact⟨_,by simp[oc,LS],h⟩
 ·rename_i j;rw[j];exact⟨_,by simp[oc,LS],h⟩
 ·rename_i j;rw[j];exact⟨_,by simp[oc,LS],h⟩
 ·rename_i j;rw[j];exact⟨_,by simp[oc,LS],h⟩
 ·unfold aV at h;split at h
  ·rename_i v w' u;obtain⟨rfl,I⟩:=h;exact⟨v,u,I⟩
  ·exact h.elim
theorem enter {f:FuncId}{j:Func}{c:Code}{args:List Value}{w:World}{K:KV}(M:P.funcs[f]? = some j)(J:j.body=some c)(h:ah P c (Ab P j.results.toList K) (fun _ _ _=>False) (Ab P j.results.toList K) (args++List.replicate (j.ntmps-args.length) undef) w):Gives P f args.toArray w K:=by
 refine calls_of_wp M J ?_;have e1:args.toArray++Array.replicate (j.ntmps-args.toArray.size) undef=(args++List.replicate (j.ntmps-args.length) undef).toArray:=by simp
 rw[e1];refine wp_mono (Bg c _ _ _ _ _ h) ?_;intro x a w u;cases x with
 | normal=>obtain⟨e,rfl,h⟩:=u;obtain⟨v,C,I⟩:=wH h;exact⟨rfl,v,C,v,rfl,I⟩
 | ret=>obtain⟨e,rfl,h⟩:=u;obtain⟨v,C,I⟩:=wH h;exact⟨rfl,v,C,v,rfl,I⟩
 | exit i=>obtain⟨_,_,h⟩:=u;exact h.elim
 | _=>exact u.elim
/-! ## What a piece of code does not write stays. -/

def wr :Code→List Nat
 | .region _ ops _=>eR ops.toList
 | .seq a b=>wr a++wr b
 | .cond _ x y=>wr x++wr y
 | .block _ c=>wr c
 | .loop c=>wr c
 | _=>[]
theorem yh :∀(ds:List Nat) (vs:List Value) (e:Env),agree ds e (Ac e ds vs):=by
 intro ds vs e;refine⟨?_,fun i hi=>by simp only[gd,List.getD,Ac,Yy vs ds 0 e i hi]⟩
 have:∀(ds:List Nat) (k:Nat) (e:Env),(wJ vs ds k e).length=e.length:=by
  intro ds
  induction ds with
  | nil=>intro k e;rfl
  | cons d ds ih=>intro k e;simp only[wJ];rw[ih];simp
 exact this ds 0 e
theorem Ph {ops:List Oper}:∀(u:List (Option (Nat×Bool)×List Oper)) {K K':KE} {e:Env} {w:World},dy P ops u K e w →
  (∀I w2,agree (eR (u.flatMap (·.2))) e I→K I w2→K' I w2)→dy P ops u K' e w:=by
 intro u
 induction u with
 | nil=>intro K K' e w h C;exact C _ _ (agree.refl _ _) h
 | cons g u ih =>
  intro K K' e w h C;obtain⟨M,l⟩:=g;have hd:eR (((M,l)::u).flatMap (·.2))=eR l++eR (u.flatMap (·.2)):=by simp[eR,List.filterMap_append]
  rw[hd]at C;cases M with
  | none=>exact IC l h fun I w2 ha h2=>ih h2 fun J Z O=>C J Z (ha.trans O)
  | some jw =>
   obtain⟨j,aa⟩:=jw;simp only[dy]at h ⊢;cases U:((ops[j]?).bind (·.dst)).any ((eR l).contains ·)
   case true=>rw[U]at h;exact h.elim
   case false =>
    rw[U]at h;have h:aG _ _ _ _ _:=h;show aG _ _ _ _ _;refine⟨fun hv=>?_,fun hv=>?_⟩
    ·refine IC l (h.1 hv) ?_;intro I w2 ha h2;exact ih h2 fun J Z O=>C J Z ((yh _ _ _).trans O)
    ·exact ih (h.2 hv) fun J Z O=>C J Z ((yh _ _ _).trans O)
theorem WV {ops:List Oper}:∀(u:List (Option (Nat×Bool)×List Oper)) {K K':KE} {e:Env} {w:World},B9 P ops u K e w →
  (∀I,agree (eR (u.flatMap (·.2))) e I→K I w→K' I w)→B9 P ops u K' e w:=by
 intro u
 induction u with
 | nil=>intro K K' e w h C;exact C _ (agree.refl _ _) h
 | cons g u ih =>
  intro K K' e w h C;obtain⟨M,l⟩:=g;have hd:eR (((M,l)::u).flatMap (·.2))=eR l++eR (u.flatMap (·.2)):=by simp[eR,List.filterMap_append]
  rw[hd]at C;cases M with
  | none=>exact JE l h fun I ha Z=>ih Z fun J O=>C J (ha.trans O)
  | some jw =>
   obtain⟨j,aa⟩:=jw;simp only[B9]at h ⊢;cases U:((ops[j]?).bind (·.dst)).any ((eR l).contains ·)
   case true=>rw[U]at h;exact h.elim
   case false =>
    rw[U]at h;have h:aG _ _ _ _ _:=h;show aG _ _ _ _ _;refine⟨fun hv=>?_,fun hv=>?_⟩
    ·refine JE l (h.1 hv) ?_;intro I ha Z;exact ih Z fun J O=>C J ((yh _ _ _).trans O)
    ·exact ih (h.2 hv) fun J O=>C J ((yh _ _ _).trans O)
theorem Wx {ops:Array Oper}{K K':KE}:∀(f:Nat) (j:Array Bool) (I:List Nat) (S:World→Prop) (e:Env) (w:World),mZ P ops K f j I S e w→(∀e2 w2,agree (eR ops.toList) e e2→K e2 w2→K' e2 w2)→mZ P ops K' f j I S e w:=by
 intro f;have af:∀{i:Nat} {o:Oper} (e:Env) (v:Value),ops[i]? = some o→agree (eR ops.toList) e (pt e o.dst v):=by
  intro i o e v J;refine(Ix e o.dst v).mono fun k O=>?_;have hm:o∈ops.toList:=by have:=Array.mem_of_getElem? J;simpa using this
  simp only[eR,List.mem_filterMap];exact⟨o,hm,by simpa using O⟩
 induction f with
 | zero =>
  intro j I S e w h O;simp only[mZ]at h ⊢;cases hr:(Region.ready .any ops j).isEmpty
  case false=>rw[hr]at h;exact h
  case true=>rw[hr]at h;exact O _ _ (agree.refl _ _) h
 | succ f ih =>
  intro j I S e w h O;simp only[mZ]at h ⊢;cases hr:(Region.ready .any ops j).isEmpty
  case true=>rw[hr]at h;exact O _ _ (agree.refl _ _) h
  case false =>
   rw[hr]at h;dsimp only at h ⊢;have u:∀{i:Nat} {o:Oper} (p:List Nat) (S:World→Prop) (v:Value) (w':World),ops[i]? = some o→mZ P ops K f (j.setIfInBounds i true) p S (pt e o.dst v) w'→mZ P ops K' f (j.setIfInBounds i true) p S (pt e o.dst v) w':=by
    intro i o p S v w' J C;exact ih _ _ _ _ _ C fun e2 w2 ha=>O e2 w2 (((af e v J).trans ha).mono (fun k O=>by simpa using O))
   cases hf:(Region.ready .any ops j).find? (PJ ops j)with
   | some i =>
    rw[hf]at h;have h:hAt ops i _:=h;show hAt ops i _;unfold hAt at *;cases J:ops[i]? with
    | none=>rw[J]at h;exact h.elim
    | some o =>
     rw[J]at h;dsimp only at h ⊢;cases aa:WJ o with
     | true =>
      rw[aa]at h;dsimp only at h ⊢;unfold hOp at *;split at h
      ·exact u _ _ _ _ J h
      ·exact u _ _ _ _ J h
      ·exact u _ _ _ _ J h
      ·obtain⟨v,hv,C⟩:=h;exact⟨v,hv,u _ _ _ _ J C⟩
     | false =>
     rw[aa]at h;dsimp only at h ⊢;unfold ZC at *;cases M:o.guard with
     | some jw =>
      rw[M]at h;obtain⟨v,hv,hu,C⟩:=h;exact⟨v,hv,hu,u _ _ _ _ J C⟩
     | none =>
     rw[M]at h;dsimp only at h ⊢;unfold hOp at *;split at h
     ·exact u _ _ _ _ J h
     ·exact u _ _ _ _ J h
     ·exact u _ _ _ _ J h
     ·obtain⟨v,hv,C⟩:=h;exact⟨v,hv,u _ _ _ _ J C⟩
   | none =>
    rw[hf]at h;refine Ww (fun i C=>?_) _ h;unfold hAt at *;cases J:ops[i]? with
    | none=>rw[J]at C;exact C.elim
    | some o =>
     rw[J]at C;have U:∀(v:Value) (w':World),(match qP ops I i with
       | [] =>
        match (Region.ready .any ops (j.setIfInBounds i true)).isEmpty with
        | true=>mZ P ops K f (j.setIfInBounds i true) [] S (pt e o.dst v) w'
        | false=>aE (fun S w=>mZ P ops K f (j.setIfInBounds i true) [] S (pt e o.dst v) w) w'
       | p::ps=>aU S (fun S w=>mZ P ops K f (j.setIfInBounds i true) (p::ps) S (pt e o.dst v) w) w')→(match qP ops I i with
       | [] =>
        match (Region.ready .any ops (j.setIfInBounds i true)).isEmpty with
        | true=>mZ P ops K' f (j.setIfInBounds i true) [] S (pt e o.dst v) w'
        | false=>aE (fun S w=>mZ P ops K' f (j.setIfInBounds i true) [] S (pt e o.dst v) w) w'
       | p::ps=>aU S (fun S w=>mZ P ops K' f (j.setIfInBounds i true) (p::ps) S (pt e o.dst v) w) w'):=by
      intro v w' C;cases hl:qP ops I i with
      | nil =>
       rw[hl]at C;dsimp only at C ⊢;cases ad:(Region.ready .any ops (j.setIfInBounds i true)).isEmpty with
       | true=>rw[ad]at C;exact u _ _ _ _ J C
       | false=>rw[ad]at C;obtain⟨S2,Z,C⟩:=C;exact⟨S2,Z,u _ _ _ _ J C⟩
      | cons p ps =>
       rw[hl]at C;obtain⟨S2,Z,ag,C⟩:aU S (fun S w=>mZ P ops K f (j.setIfInBounds i true) (p::ps) S (pt e o.dst v) w) w':=C;exact⟨S2,Z,ag,u _ _ _ _ J C⟩
     dsimp only at C ⊢;unfold Z4 at *;cases M:o.guard with
     | some jw =>
      rw[M]at C;exact⟨fun ha=>Ex U (C.1 ha),fun ha=>U _ _ (C.2 ha)⟩
     | none =>
      rw[M]at C;exact Ex U C
theorem Bf :∀(c:Code) {N N':KE} {X X':Nat→KE} {R R':KE} {e:Env} {w:World},ah P c N X R e w→(∀e2 w2,agree (wr c) e e2→N e2 w2→N' e2 w2) →
  (∀i e2 w2,agree (wr c) e e2→X i e2 w2→X' i e2 w2)→(∀e2 w2,agree (wr c) e e2→R e2 w2→R' e2 w2)→ah P c N' X' R' e w:=by
 intro c
 induction c with
 | skip=>intro N N' X X' R R' e w h hN C u;exact hN _ _ (agree.refl _ _) h
 | region id ops draw =>
  intro N N' X X' R R' e w h hN C u;cases draw with
  | true =>
   simp only[ah]at h ⊢;cases hd:(P.follows .mixedOrders&&Mo P ops)
   case true =>
    rw[hd]at h;obtain⟨S,hS,h⟩:=h;exact⟨S,hS,Wx _ _ _ _ _ _ h hN⟩
   case false =>
   rw[hd]at h;dsimp only at h ⊢;cases hf:(P.follows .mixedOrders&&Nat.ble (ju ops) ops.size)
   case false=>rw[hf]at h;exact h.elim
   case true =>
    rw[hf]at h;have h:B9 _ _ _ _ _ _:=h;show B9 _ _ _ _ _ _;have hd:wr (.region id ops true)=eR (ops.toList.take (ju ops))++eR (ops.toList.drop (ju ops)):=by
     show eR ops.toList=_;simp only[eR];rw[←List.filterMap_append,List.take_append_drop]
    rw[hd]at hN;refine WV _ h ?_;rw[(tU (ops.toList.take (ju ops))).1];intro e2 j U;refine Ph _ U ?_;rw[(tU (ops.toList.drop (ju ops))).1];intro O Z M h3;exact hN O Z (j.trans M) h3
  | false =>
   refine Ph _ h ?_;rw[(tU ops.toList).1];exact hN
 | seq a b iha ihb =>
  intro N N' X X' R R' e w h hN C u;have hl:∀i∈wr a,i∈wr (.seq a b):=fun i hi=>List.mem_append_left _ hi;refine iha h ?_ (fun i e2 w2 j=>C i e2 w2 (j.mono hl)) (fun e2 w2 j=>u e2 w2 (j.mono hl));intro e2 w2 j U;exact ihb U (fun O Z M=>hN O Z (j.trans M)) (fun i O Z M=>C i O Z (j.trans M)) (fun O Z M=>u O Z (j.trans M))
 | cond c x y ihx ihy =>
  intro N N' X X' R R' e w h hN C u;have hl:∀i∈wr x,i∈wr (.cond c x y):=fun i hi=>List.mem_append_left _ hi;have hr:∀i∈wr y,i∈wr (.cond c x y):=fun i hi=>List.mem_append_right _ hi;obtain⟨b,M,h1,U⟩:=h;exact⟨b,M,fun hh=>ihx (h1 hh) (fun e2 w2 j=>hN e2 w2 (j.mono hl)) (fun i e2 w2 j=>C i e2 w2 (j.mono hl)) (fun e2 w2 j=>u e2 w2 (j.mono hl)),
   fun hh=>ihy (U hh) (fun e2 w2 j=>hN e2 w2 (j.mono hr)) (fun i e2 w2 j=>C i e2 w2 (j.mono hr)) (fun e2 w2 j=>u e2 w2 (j.mono hr))⟩
 | block id c ih =>
  intro N N' X X' R R' e w h hN C u;refine ih h hN ?_ u;intro i e2 w2 j hx;cases hi:Nat.beq i id
  ·rw[hi]at hx;exact C i e2 w2 j hx
  ·rw[hi]at hx;exact hN e2 w2 j hx
 | loop c ih =>
  intro N N' X X' R R' e w h hN C u;obtain⟨I,μ,h0,hs⟩:=h;refine⟨fun e' w' => I e' w'∧agree (wr c) e e',μ,⟨h0,agree.refl _ _⟩,?_⟩;rintro e' w' ⟨hI,aa⟩;have J:∀e2,agree (wr c) e' e2→agree (wr c) e e2:=fun e2 j=>(aa.trans j).mono (fun i hi=>by simpa using hi)
  exact ih (hs e' w' hI) (fun e2 w2 j ⟨h1,U⟩=>⟨⟨h1,J e2 j⟩,U⟩) (fun i e2 w2 j=>C i e2 w2 (J e2 j)) (fun e2 w2 j=>u e2 w2 (J e2 j))
 | exit i=>intro N N' X X' R R' e w h hN C u;exact C i _ _ (agree.refl _ _) h
 | ret=>intro N N' X X' R R' e w h hN C u;exact u _ _ (agree.refl _ _) h
 | _=>intro N N' X X' R R' e w h hN C u;exact h.elim
def mix (ws:List Nat)(e':Env):Nat→Env→Env
 | _,[]=>[]
 | k,v::e=>(if ws.contains k then gd e' k else v)::mix ws e' (k+1) e
theorem zc5 (ws:List Nat)(e':Env):∀(e:Env) (k i:Nat),(mix ws e' k e)[i]? = (e[i]?).map fun v=>if ws.contains (k+i)then gd e' (k+i)else v:=by
 intro e
 induction e with
 | nil=>intro k i;simp[mix]
 | cons v e ih =>
  intro k i;cases i with
  | zero=>simp[mix]
  | succ i=>simp only[mix,List.getElem?_cons_succ,ih];rw[show k+1+i=k+(i+1)by omega]
theorem RX {ws:List Nat}{e e':Env}(h:agree ws e e'):mix ws e' 0 e=e':=by
 apply List.ext_getElem?;intro i;rw[zc5,Nat.zero_add];by_cases hi:i<e.length
 ·have j:i<e'.length:=by rw[h.1];exact hi
  rw[gE hi,gE j];have u:gd e' i=e'[i]:=by simp[gd,List.getD,j]
  by_cases I:ws.contains i=true
  ·simp[u];intro J;exact absurd (by simpa using I) J
  ·have C:=h.2 i (by simpa using I);rw[u]at C
   have:gd e i=e[i]:=by simp[gd,List.getD,hi]
   rw[this]at C;simp only[Option.map_some,I];simp[C]
 ·have j:¬i<e'.length:=by rw[h.1];exact hi
  simp[List.getElem?_eq_none (Nat.le_of_not_lt hi),List.getElem?_eq_none (Nat.le_of_not_lt j)]
theorem aI (c:Code)(ws:List Nat)(J:(wr c).all (ws.contains ·)=true)(I:KE)(μ:Env→World→Nat){N:KE}{X:Nat→KE}{R:KE}{e:Env}{w:World}(M:I e w)(hs:∀e' w',I e' w'→ah P c (fun C w2=>I C w2∧μ C w2<μ e' w') X R (mix ws e' 0 e) w'):ah P (.loop c) N X R e w:=by
 have u:∀i∈wr c,i∈ws:=fun i hi=>by simpa using List.all_eq_true.1 J i hi
 refine⟨fun e' w' => I e' w'∧agree ws e e',μ,⟨M,agree.refl _ _⟩,?_⟩;rintro e' w' ⟨hI,j⟩;have h:=hs e' w' hI;rw[RX j]at h;exact Bf c h (fun C w2 Z ⟨O,U⟩=>⟨⟨O,(j.trans (Z.mono u)).mono (fun i hi=>by simpa using hi)⟩,U⟩) (fun _ _ _ _ h=>h) (fun _ _ _ h=>h)
def sub :List Nat→Code→Code
 | 0::p,.seq a _=>sub p a
 | 1::p,.seq _ b=>sub p b
 | 0::p,.cond _ x _=>sub p x
 | 1::p,.cond _ _ y=>sub p y
 | 0::p,.block _ c=>sub p c
 | 0::p,.loop c=>sub p c
 | [],c=>c
 | _,_=>.skip
def rep :List Nat→Code→Code→Code
 | 0::p,x,.seq a b=>.seq (rep p x a) b
 | 1::p,x,.seq a b=>.seq a (rep p x b)
 | 0::p,x,.cond c a b=>.cond c (rep p x a) b
 | 1::p,x,.cond c a b=>.cond c a (rep p x b)
 | 0::p,x,.block i c=>.block i (rep p x c)
 | 0::p,x,.loop c=>.loop (rep p x c)
 | [],x,_=>x
 | _,_,c=>c
def cd (f:Func)(p:List Nat):Code:=sub p (f.body.getD .skip)
theorem aq {f:FuncId}{j:Func}{args:List Value}{w:World}{K:KV}(I:P.funcs[f]? = some j)(C:j.body.isSome=true)(h:ah P (cd j []) (Ab P j.results.toList K) (fun _ _ _=>False) (Ab P j.results.toList K) (args++List.replicate (j.ntmps-args.length) undef) w):Gives P f args.toArray w K:=by
 cases u:j.body with
 | none=>simp[u]at C
 | some c =>
  refine enter I u ?_
  have:cd j []=c:=by simp[cd,u,sub]
  rw[this]at h;exact h
end sound
end Go.Proofs.YtkfgimlaijifaaaGreatDoor
