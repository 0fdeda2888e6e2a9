import Derived.WalkKit
import Derived.WalkSpells
import Derived.WalkLawsBesides
import Derived.KernelRfl
import Derived.Still
import Derived.StillTail
import Derived.OrdersHeld
import Derived.RegionTactic
namespace Go.Proofs.YtkbhfjljieopoaaGreatDoor
set_option maxRecDepth 100000
set_option maxHeartbeats 4000000
open Go.RowKit
def sq (l:List UInt8):ByteArray:=⟨l.toArray⟩
abbrev Env :=List Value
abbrev KV :=Value→World→Prop
abbrev KE :=Env→World→Prop
def gd (e:Env)(t:Nat):Value:=e.getD t undef
def ev (e:Env):Operand→Value
 | .tmp t=>gd e t
 | .const v=>v
 | .global g=>.pointer (some ⟨g,0,none⟩)
 | .func f=>.func (.func f) #[] #[]
def pt (e:Env)(d:Option Tmp)(v:Value):Env:=match d with|some d=>e.set d v|none=>e
def Gives (P:Program)(f:FuncId)(args:Array Value)(w:World)(K:KV):Prop :=
 Calls P f args w fun e w' => ∃v,e=.returned v∧K v w'
theorem Gives.mono {P:Program}{f:FuncId}{args:Array Value}{w:World}{K K':KV}(h:Gives P f args w K)(j:∀v w',K v w'→K' v w'):Gives P f args w K' :=
 Calls.mono h fun _ _ ⟨v,d,u⟩=>⟨v,d,j v _ u⟩
def okV (P:Program)(s:Sem Value)(K:KV)(w:World):Prop:=match s.run P w with | .ok v w' => K v w' | .halt _ _=>False
def okU (P:Program)(s:Sem Unit)(K:KV)(w:World):Prop:=match s.run P w with | .ok _ w' => K undef w' | .halt _ _=>False
theorem RU {P:Program}{s:Sem Value}{K K':KV}{w:World}(d:∀v w',K v w'→K' v w')(h:okV P s K w):okV P s K' w:=by
 unfold okV at *;split at h
 ·exact d _ _ h
 ·exact h.elim
theorem RT {P:Program}{s:Sem Unit}{K K':KV}{w:World}(d:∀v w',K v w'→K' v w')(h:okU P s K w):okU P s K' w:=by
 unfold okU at *;split at h
 ·exact d _ _ h
 ·exact h.elim
theorem gZ {P:Program}{s:Sem Value}{K:KV}{w w':World}{v:Value}(h:s.run P w=.ok v w')(d:K v w'):okV P s K w:=by
 unfold okV;rw[h];exact d
theorem IS {P:Program}{s:Sem Unit}{K:KV}{w w':World}{u:Unit}(h:s.run P w=.ok u w')(d:K undef w'):okU P s K w:=by
 unfold okU;rw[h];exact d
def isC :Operand→Bool | .const _=>true|_=>false
def UN (c:Bool)(v:Value):Operand:=match c with|true=>.const v|false=>.tmp 0
def eqG (op:BinOp)(t:TypeId)(cx cy:Bool)(a b:Value):Sem Unit:=eqGuard op t (UN cx a) (UN cy b) a b
theorem Po (d:BinOp)(t:TypeId)(x y:Operand)(a b:Value):eqGuard d t x y a b=eqG d t (isC x) (isC y) a b:=by
 unfold eqG eqGuard;cases x<;>cases y<;>rfl
section ops
variable (P:Program)
def bin (op:BinOp)(t:TypeId)(cx cy:Bool)(x y:Value)(K:KV)(w:World):Prop:=okV P (do eqG op t cx cy x y;binOp op t x y) K w
def un (op:UnOp)(x:Value)(K:KV)(w:World):Prop:=okV P (Op.unary op x) K w
def conv (s d:TypeId)(x:Value)(K:KV)(w:World):Prop:=okV P (convert s d x) K w
def EO (f:FuncId):Prop := ∃ fn,P.funcs[f]? = some fn∧(fn.name == "runtime.NumGoroutine")=false∧fn.body.isNone=false
def call (f:FuncId)(args:Array Value)(K:KV)(w:World):Prop:=EO P f∧Gives P f args w K
def bY (fv:Value)(args:Array Value)(K:KV)(w:World):Prop:=∃f first cap,fv=.func (.func f) first cap∧call P f (first++args++cap) K w
def blt (b:Builtin)(ats:Array TypeId)(ty:TypeId)(cs:Array Bool)(args:Array Value)(K:KV)(w:World):Prop :=
 match (builtin b ats ty cs args).run P w with | .ok (.value v) w' => K v w'|_=>False
def slc (t:TypeId)(x:Value)(lo hi mx:Option Value)(K:KV)(w:World):Prop:=okV P (Instr.sliceAt t x lo hi mx) K w
def af (s:TypeId)(x:Value)(f:Nat)(K:KV)(w:World):Prop:=okV P (Instr.fieldAt s x f) K w
def fld (s:TypeId)(x:Value)(f:Nat)(K:KV)(w:World):Prop:=okV P (Instr.field s x f) K w
def aV (t:TypeId)(x i:Value)(K:KV)(w:World):Prop:=okV P (Instr.indexAt t x i) K w
def idx (t:TypeId)(x i:Value)(K:KV)(w:World):Prop:=okV P (Instr.index t x i) K w
def lkp (t:TypeId)(x i:Value)(ok:Bool)(K:KV)(w:World):Prop:=okV P (Instr.lookup t x i ok) K w
def dO (t:TypeId)(m k x:Value)(K:KV)(w:World):Prop:=okU P (Instr.mapUpdate t m k x) K w
def gY (t:TypeId)(m k:Value)(K:KV)(w:World):Prop:=okV P (Instr.mapEntry t m k) K w
def eSt (t:TypeId)(m s x:Value)(K:KV)(w:World):Prop:=okU P (Instr.entryStore t m s x) K w
def rng (t:TypeId)(x:Value)(K:KV)(w:World):Prop:=okV P (Instr.range t x) K w
def nxt (it:Value)(str:Bool)(ty:TypeId)(K:KV)(w:World):Prop:=okV P (Instr.next it str ty) K w
def ent (it:Value)(K:KV)(w:World):Prop:=okV P (Instr.entry it) K w
def ext (t:Value)(i:Nat)(K:KV)(w:World):Prop:=okV P (Instr.extract t i) K w
def alc (t:TypeId)(K:KV)(w:World):Prop:=okV P (Instr.alloc t true (.tuple #[])) K w
def box (t:TypeId)(x:Value)(K:KV)(w:World):Prop:=okV P (Instr.box t x) K w
def bld (t:TypeId)(ps:Array (Nat×Value))(K:KV)(w:World):Prop:=okV P (Instr.build t ps) K w
def bT (t:TypeId)(n:Nat)(ps:Array (Nat×Value))(K:KV)(w:World):Prop:=okV P (Instr.buildSlice t n ps) K w
def ld (t:TypeId)(a:Value)(K:KV)(w:World):Prop:=okV P (Instr.loadAt t a) K w
def sto (t:TypeId)(a x:Value)(K:KV)(w:World):Prop:=okU P (Instr.storeAt t a x) K w
def aU (x:Value)(K:KV)(w:World):Prop :=
 match x with
 | .pointer (some a)=>K (.pointer (some a)) w
 | .func (.func f) first cap=>K (.func (.func f) first cap) w
 | _=>False
def dE (t:TypeId)(r:Option Value)(K:KV)(w:World):Prop:=okV P (Instr.makeMap t r) K w
def mkS (t:TypeId)(l c:Value)(K:KV)(w:World):Prop:=okV P (Instr.makeSlice t l c) K w
def ifc (t:TypeId)(x:Value)(K:KV)(w:World):Prop:=okV P (Instr.makeInterface t x) K w
def pick (c x y:Value)(K:KV)(w:World):Prop:=∃b,c=.bool b∧K (if b then x else y) w
def rdy (g:Nat)(K:KV)(w:World):Prop:=okU P (Instr.ready g) K w
def wts (g:Nat)(K:KV)(w:World):Prop:=okV P (Instr.waits g) K w
def cOp (r:Operand→Value)(o:Oper)(K:KV)(w:World):Prop :=
 match o.op with
 | .move x=>K (r x) w
 | .assign x=>K (r x) w
 | .pick c a b=>pick (r c) (r a) (r b) K w
 | .alloc t=>alc P t K w
 | .box t x=>box P t (r x) K w
 | .build t ps=>bld P t (ps.toList.map fun p=>(p.1,r p.2)).toArray K w
 | .buildSlice t n ps=>bT P t n (ps.toList.map fun p=>(p.1,r p.2)).toArray K w
 | .load t a=>ld P t (r a) K w
 | .store t a x=>sto P t (r a) (r x) K w
 | .ready g=>rdy P g K w
 | .waits g=>wts P g K w
 | .nilCheck x=>aU (r x) K w
 | .binOp op t x y _=>bin P op t (isC x) (isC y) (r x) (r y) K w
 | .unOp op _ x=>un P op (r x) K w
 | .convert s d x=>conv P s d (r x) K w
 | .makeInterface t x=>ifc P t (r x) K w
 | .makeFunc fn first cap=>K (.func fn (first.toList.map r).toArray (cap.toList.map r).toArray) w
 | .makeMap t rs=>dE P t (rs.map r) K w
 | .makeSlice t l c=>mkS P t (r l) (r c) K w
 | .slice t x lo hi mx=>slc P t (r x) (lo.map r) (hi.map r) (mx.map r) K w
 | .fieldAddr s x f=>af P s (r x) f K w
 | .field s x f=>fld P s (r x) f K w
 | .indexAddr t x i=>aV P t (r x) (r i) K w
 | .index t x i=>idx P t (r x) (r i) K w
 | .lookup t x i ok=>lkp P t (r x) (r i) ok K w
 | .mapUpdate t m k x=>dO P t (r m) (r k) (r x) K w
 | .insert t m k x=>dO P t (r m) (r k) (r x) K w
 | .mapEntry t m k=>gY P t (r m) (r k) K w
 | .entryStore t m s x=>eSt P t (r m) (r s) (r x) K w
 | .range t x=>rng P t (r x) K w
 | .next it s=>nxt P (r it) s o.type K w
 | .entry it=>ent P (r it) K w
 | .extract t i=>ext P (r t) i K w
 | .call c =>
  match c.callee with
  | .value (.func f)=>call P f (c.args.toList.map r).toArray K w
  | .value x=>bY P (r x) (c.args.toList.map r).toArray K w
  | .builtin b=>blt P b c.argTypes o.type (c.args.toList.map isC).toArray (c.args.toList.map r).toArray K w
  | .invoke _ _=>False
 | _=>False
def asB :Value→Option Bool
 | .bool b=>some b
 | _=>none
def ph (ops:List Oper)(e:Env)(j:Nat):Value:=match (ops[j]?).bind (·.dst)with|some d=>gd e d|none=>undef
def fi (l:List Oper):List Nat:=l.filterMap (·.dst)
def grp :List Oper→List (Option (Nat×Bool)×List Oper)
 | []=>[]
 | o::rest =>
  match grp rest with
  | []=>[(o.guard,[o])]
  | (g,l)::gs=>if o.guard=g then (g,o::l)::gs else (o.guard,[o])::(g,l)::gs
def fT :List Oper→KE→Env→World→Prop
 | [],K,e,w=>K e w
 | o::r,K,e,w=>cOp P (ev e) o (fun v w' => fT r K (pt e o.dst v) w') w
def aI (v:Value)(want:Bool)(A B:(List Value→World→Prop)→Prop)(K:List Value→World→Prop):Prop:=(asB v=some want→A K)∧(asB v≠some want→B K)
def tx (us:List Value):List Nat→Nat→Env→Env
 | [],_,e=>e
 | d::ds,k,e=>tx us ds (k+1) (e.set d (gd us k))
def vG (e:Env)(ds:List Nat)(us:List Value):Env:=tx us ds 0 e
def fh (ops:List Oper):List (Option (Nat×Bool)×List Oper)→KE→Env→World→Prop
 | [],K=>K
 | (none,l)::gs,K=>fT P l (fh ops gs K)
 | (some (j,want),l)::gs,K=>fun e w =>
  @Bool.rec (fun _=>Prop) (aI (ph ops e j) want (fun k=>fT P l (fun e' w' => k ((fi l).map (gd e')) w') e w) (fun k=>k ((fi l).map fun _=>undef) w) (fun us w' => fh ops gs K (vG e (fi l) us) w')) False (((ops[j]?).bind (·.dst)).any ((fi l).contains ·))
def sti (s:KV→World→Prop)(k:KV)(w:World):Prop:=∃v,s (fun v' w' => v'=v∧w'=w) w∧k v w
def sOp (e:Env)(o:Oper)(k:KV)(w:World):Prop :=
 match o.op with
 | .move x=>k (ev e x) w
 | .assign x=>k (ev e x) w
 | _=>sti (fun k w=>cOp P (ev e) o k w) k w
def HT :List Oper→KE→Env→World→Prop
 | [],K,e,w=>K e w
 | o::r,K,e,w=>sOp P e o (fun v w' => HT r K (pt e o.dst v) w') w
def wZ (ops:List Oper):List (Option (Nat×Bool)×List Oper)→KE→Env→World→Prop
 | [],K=>K
 | (none,l)::gs,K=>HT P l (wZ ops gs K)
 | (some (j,want),l)::gs,K=>fun e w =>
  @Bool.rec (fun _=>Prop) (aI (ph ops e j) want (fun k=>HT P l (fun e' w' => k ((fi l).map (gd e')) w') e w) (fun k=>k ((fi l).map fun _=>undef) w) (fun us w' => wZ ops gs K (vG e (fi l) us) w')) False (((ops[j]?).bind (·.dst)).any ((fi l).contains ·))
def ss (ops:Array Oper):Nat→Nat
 | 0=>ops.size+1
 | n+1=>match Region.lexTailB .any ops n with|true=>n|false=>ss ops n
def VW :Op→Bool | .store .. => true|_=>false
def Pa (ops:Array Oper):Nat:=ops.toList.findIdx fun o=>VW o.op
def jC (ops:Array Oper):Nat :=
 match Nat.ble (Pa ops+1) ops.size with
 | true=>ss ops (Pa ops+1)
 | false=>match Region.lexB .any ops with|true=>ops.size|false=>ss ops ops.size
def Cn (o:Oper):Bool :=
 match o.op with
 | .move _=>true | .assign _=>true | .pick .. => true | .build .. => true | .load .. => true | .nilCheck _=>true | .binOp .. => true | .unOp .. => true | .convert .. => true
 | .makeInterface .. => true | .makeFunc .. => true | .slice .. => true | .fieldAddr .. => true | .field .. => true | .indexAddr .. => true | .index .. => true | .extract .. => true | .lookup .. => true
 | .call c=>match c.callee with | .builtin .len=>true | .builtin .cap=>true|_=>false
 | _=>false
def OH (o:Oper):Bool :=
 match o.guard with
 | some _=>false
 | none=>match o.op with
  | .move _=>true
  | .binOp .sub _ _ _ _=>true
  | .binOp .add _ _ _ _=>true
  | _=>false
def Wy (o:Oper):Bool :=
 match o.op with
 | .store .. => true | .alloc _=>true | .box .. => true | .buildSlice .. => true | .makeSlice .. => true | .makeMap .. => true | .mapUpdate .. => true | .insert .. => true | .mapEntry .. => true | .entryStore .. => true
 | .call c=>match c.callee with | .builtin .append=>true | .builtin .copy=>true | .builtin .clear=>true | .builtin .delete=>true|_=>false
 | _=>false
def BA :Nat→Code→Bool
 | 0,_=>false
 | n+1,.region _ ops false=>ops.toList.all fun o =>
  match Cn o with
  | true=>true
  | false=>match o.op with
   | .call c=>match c.callee with
    | .value (.func f)=>match P.funcs[f]? with
     | some fn=>match fn.body with|some b=>BA n b|none=>false
     | none=>false
    | .builtin .max=>true
    | .builtin .min=>true
    | _=>false
   | _=>false
 | n+1,.seq a b=>match BA n a with|true=>BA n b|false=>false
 | n+1,.cond _ a b=>match BA n a with|true=>BA n b|false=>false
 | n+1,.block _ c=>BA n c
 | n+1,.loop c=>BA n c
 | _+1,.skip=>true
 | _+1,.exit _=>true
 | _+1,.ret=>true
 | _+1,_=>false
def VX (o:Oper):Bool :=
 match Wy o with
 | true=>true
 | false=>match o.op with
  | .call c=>match c.callee with
   | .value (.func f)=>match P.funcs[f]? with
    | some fn=>match fn.body with|some b=>(match BA P 60 b with|true=>false|false=>true)|none=>true
    | none=>true
   | .value _=>true
   | .invoke _ _=>true
   | _=>false
  | _=>false
def FS (ops:Array Oper):Bool :=
 Region.noSelect ops&&(match ops.toList.all (fun o=>match o.guard with|none=>true|some _=>false)with
  | true=>(ops.toList.take (Nat.min (jC ops) ops.size)).any (fun o=>match Cn o with|true=>false|false=>true)
  | false=>(ops.toList.take (Nat.min (jC ops) ops.size)).any (VX P))
def hld (S:World→Prop)(s:KV→World→Prop)(k:Value→Prop):Prop:=∃v,(∀w,S w→s (fun v' w' => v'=v∧w'=w) w)∧k v
def hOp (S:World→Prop)(e:Env)(o:Oper)(k:Value→Prop):Prop :=
 match o.op with
 | .move x=>k (ev e x)
 | .assign x=>k (ev e x)
 | .makeFunc fn first cap=>k (.func fn (first.toList.map (ev e)).toArray (cap.toList.map (ev e)).toArray)
 | _=>hld S (fun k w=>cOp P (ev e) o k w) k
def hG (v:Value)(want:Bool)(S:World→Prop)(s:KV→World→Prop)(k:Value→Prop):Prop:=∃x,(asB v=some want→∀w,S w→s (fun v' w' => v'=x∧w'=w) w)∧(asB v≠some want→x=undef)∧k x
def xG (v:Value)(want:Bool)(s:KV→World→Prop)(K:KV)(w:World):Prop:=(asB v=some want→s K w)∧(asB v≠some want→K undef w)
def Rm (ops:Array Oper)(S:World→Prop)(e:Env)(o:Oper)(k:Value→Prop):Prop :=
 match o.guard with
 | none=>hOp P S e o k
 | some (j,want)=>hG (ph ops.toList e j) want S (fun k w=>cOp P (ev e) o k w) k
def QP (ops:Array Oper)(e:Env)(o:Oper)(K:KV)(w:World):Prop :=
 match o.guard with
 | none=>cOp P (ev e) o K w
 | some (j,want)=>xG (ph ops.toList e j) want (fun k w=>cOp P (ev e) o k w) K w
def Dh :List Nat→(Nat→Prop)→Prop
 | [],_=>True
 | i::r,f=>match r with | []=>f i|_::_=>f i∧Dh r f
def hAt (ops:Array Oper)(i:Nat)(f:Oper→Prop):Prop:=match ops[i]? with|some o=>f o|none=>False
def IC (ops:Array Oper)(listed:Array Bool)(i:Nat):Bool:=(match ops[i]? with|some o=>Cn o|none=>false)&&Region.free .any ops listed i
def aG (b:(World→Prop)→World→Prop)(w:World):Prop:=∃S,S w∧b S w
def aY (S:World→Prop)(b:(World→Prop)→World→Prop)(w:World):Prop:=∃S',(∀x,S' x→S x)∧S' w∧b S' w
theorem aE {S:World→Prop}{b:(World→Prop)→World→Prop}{w:World}(d:S w)(h:b S w):aY S b w:=⟨S,fun _ h=>h,d,h⟩
def JF (k:Nat):List Nat→Bool
 | []=>false
 | i::r=>Nat.beq k i || JF k r
def Jz (ops:Array Oper)(j:Nat):List Nat:=match ops[j]? with|some o=>(o.after.toList.filter fun e=>Region.binds .any e).map (·.on)|none=>[]
def Jy (ops:Array Oper):Nat→List Nat→List Nat→List Nat
 | 0,_,seen=>seen
 | _+1,[],seen=>seen
 | f+1,j::todo,seen=>match JF j seen with|true=>Jy ops f todo seen|false=>Jy ops f (Jz ops j++todo) (j::seen)
def oY (ops:Array Oper)(pend:List Nat)(i:Nat):List Nat:=pend.filter fun k=>match JF k (Jy ops 1000 (Jz ops i) [])with|true=>false|false=>true
def mw (ops:Array Oper)(K:KE):Nat→Array Bool→List Nat→(World→Prop)→Env→World→Prop
  | 0,listed,_,_,e,w=>@Bool.rec (fun _=>Prop) False (K e w) (Region.ready .any ops listed).isEmpty
  | f+1,listed,pend,S,e,w =>
    @Bool.rec (fun _=>Prop)
      (match (Region.ready .any ops listed).find? (IC ops listed)with
       | some i=>hAt ops i fun o =>
         match OH o with
         | true=>hOp P (fun _=>True) e o fun v=>mw ops K f (listed.setIfInBounds i true) pend S (pt e o.dst v) w
         | false=>Rm P ops S e o fun v=>mw ops K f (listed.setIfInBounds i true) (i::pend) S (pt e o.dst v) w
       | none=>Dh (Region.ready .any ops listed) fun i=>hAt ops i fun o=>QP P ops e o (fun v w' =>
           match oY ops pend i with
           | [] =>
             match (Region.ready .any ops (listed.setIfInBounds i true)).isEmpty with
             | true=>mw ops K f (listed.setIfInBounds i true) [] S (pt e o.dst v) w'
             | false=>aG (fun S w=>mw ops K f (listed.setIfInBounds i true) [] S (pt e o.dst v) w) w'
           | p::ps=>aY S (fun S w=>mw ops K f (listed.setIfInBounds i true) (p::ps) S (pt e o.dst v) w) w') w)
      (K e w) (Region.ready .any ops listed).isEmpty

def cond (v:Value)(p q:Prop):Prop:=∃b,v=.bool b∧(b=true→p)∧(b=false→q)
def SA (body:KE→Env→World→Prop)(e:Env)(w:World):Prop :=
 ∃(I:KE) (μ:Env→World→Nat),I e w∧∀e' w',I e' w'→body (fun e2 w2=>I e2 w2∧μ e2 w2<μ e' w') e' w'
def ae :Code→KE→(Nat→KE)→KE→Env→World→Prop
 | .skip,N,_,_=>N
 | .region _ ops false,N,_,_=>fh P ops.toList (grp ops.toList) N
 | .region _ ops true,N,_,_=>fun e w =>
  @Bool.rec (fun _=>Prop)
   (@Bool.rec (fun _=>Prop) False
    (wZ P ops.toList (grp (ops.toList.take (jC ops))) (fh P ops.toList (grp (ops.toList.drop (jC ops))) N) e w.drew)
    (P.follows .mixedOrders&&Nat.ble (jC ops) ops.size))
   (aG (fun S w=>mw P ops N ops.size (Array.replicate ops.size false) [] S e w) w.drew)
   (P.follows .mixedOrders&&FS P ops)
 | .seq a b,N,X,R=>ae a (ae b N X R) X R
 | .cond c x y,N,X,R=>fun e w=>cond (ev e c) (ae x N X R e w) (ae y N X R e w)
 | .block id c,N,X,R=>ae c N (fun i=>@Bool.rec (fun _=>KE) (X i) N (Nat.beq i id)) R
 | .loop c,_,X,R=>SA fun N' => ae c N' X R
 | .exit i,_,X,_=>X i
 | .ret,_,_,R=>R
 | _,_,_,_=>fun _ _=>False
end ops
/-! ## It implies the model's own. -/
section sound
variable {P:Program}{ds:List Deferred}
theorem zS (e:Env)(t:Nat):e.toArray.getD t undef=gd e t:=by
 simp[gd,Array.getD,List.getD];split<;>simp_all
theorem pY (e:Env)(ds:List Deferred)(x:Operand):Act.eval ⟨e.toArray,ds⟩ x=ev e x:=by
 cases x with
 | tmp t=>exact zS e t
 | _=>rfl
theorem tt (e:Env)(ds:List Deferred)(d:Option Tmp)(v:Value):Act.put ⟨e.toArray,ds⟩ d v=⟨(pt e d v).toArray,ds⟩:=by
 cases d<;>simp[Act.put,pt]
def QQ (ds:List Deferred)(N:KE)(X:Nat→KE)(R:KE):Exit→Act→World→Prop
 | .normal,a,w=>∃e:Env,a=⟨e.toArray,ds⟩∧N e w
 | .exit i,a,w=>∃e:Env,a=⟨e.toArray,ds⟩∧X i e w
 | .ret,a,w=>∃e:Env,a=⟨e.toArray,ds⟩∧R e w
 | _,_,_=>False
theorem KC (s:Sem Value)(w:World):(do pure (.value (←s)):Sem Next).run P w=(s.run P w).andThen fun v w' => .ok (.value v) w':=by
 simp[Sem.run_bind,Sem.run_pure]
def FO (P:Program)(o:Oper)(a:Act)(K:KV)(w:World):Prop :=
 (∃v w',(execOp a.eval o).run P w=.ok (.value v) w'∧K v w')∨(∃w',(execOp a.eval o).run P w=.ok .skip w'∧K undef w') ∨
 (∃f args,(execOp a.eval o).run P w=.ok (.enter f args) w∧Gives P f args w K)
theorem ko {o:Oper}{a:Act}{w:World}{K:KV}(s:Sem Value)(j:execOp a.eval o=(do pure (.value (←s)):Sem Next))(h:okV P s K w):FO P o a K w:=by
 unfold okV at h;split at h
 ·rename_i v w' d;exact .inl ⟨v,w',by rw[j,KC,d];rfl,h⟩
 ·exact h.elim
theorem EB {o:Oper}{a:Act}{w:World}{K:KV}(s:Sem Unit)(j:execOp a.eval o=(do s;pure .skip:Sem Next))(h:okU P s K w):FO P o a K w:=by
 unfold okU at h;split at h
 ·rename_i u w' d;exact .inr (.inl ⟨w',by rw[j];simp only[Sem.run_bind,d,Result.andThen,Sem.run_pure],h⟩)
 ·exact h.elim
theorem Fy {f:FuncId} (M:EO P f) (args:Array Value) (w:World):(callFunc f args).run P w=.ok (.enter f args) w:=by
 obtain ⟨h,u,I,J⟩:=M;have d : ¬ h.name = "runtime.NumGoroutine" := by simpa using I
 cases j:h.body with
 | none=>simp [j] at J
 | some c=>simp [callFunc,u,d,j]
theorem Nq {o:Oper}{a:Act}{w:World}{K:KV}(f:FuncId)(args:Array Value)(d:(execOp a.eval o).run P w=(callFunc f args).run P w)(h:call P f args K w):FO P o a K w :=
 .inr (.inr ⟨f,args,by rw[d,Fy h.1],h.2⟩)
theorem HD (e:Env)(ps:Array (Nat×Operand)):(ps.map fun(i,x)=>(i,ev e x))=(ps.toList.map fun p=>(p.1,ev e p.2)).toArray:=by
 rw[←Array.toList_map]
theorem Ki {o:Oper}{e:Env}{w:World}{K:KV}(h:cOp P (ev e) o K w):FO P o ⟨e.toArray,ds⟩ K w:=by
 have he:Act.eval ⟨e.toArray,ds⟩=ev e:=funext (pY e ds)
 obtain⟨dst,op,ty,pos,after,guard⟩:=o
 cases op<;>simp only[cOp]at h
 case move x=>exact .inl ⟨_,w,by rw[he];rfl,h⟩
 case assign x=>exact .inl ⟨_,w,by rw[he];rfl,h⟩
 case pick c x y =>
  obtain⟨b,hb,hk⟩:=h
  exact .inl ⟨_,w,by unfold execOp;simp only[he,hb,asBool,Sem.run_bind,Sem.run_pure,Result.andThen],hk⟩
 case alloc t=>exact ko _ rfl h
 case box t x=>exact ko (Instr.box t (ev e x)) (by rw[he];rfl) h
 case build t ps=>exact ko (Instr.build t (ps.toList.map fun p:Nat×Operand=>(p.1,ev e p.2)).toArray) (by rw[he];exact congrArg (fun l=>(do pure (.value (←Instr.build t l)):Sem Next)) (HD e ps)) h
 case buildSlice t n ps=>exact ko (Instr.buildSlice t n (ps.toList.map fun p:Nat×Operand=>(p.1,ev e p.2)).toArray) (by rw[he];exact congrArg (fun l=>(do pure (.value (←Instr.buildSlice t n l)):Sem Next)) (HD e ps)) h
 case load t x=>exact ko (Instr.loadAt t (ev e x)) (by rw[he];rfl) h
 case store t x y=>exact EB (Instr.storeAt t (ev e x) (ev e y)) (by rw[he];rfl) h
 case ready g=>exact EB _ rfl h
 case waits g=>exact ko _ rfl h
 case nilCheck x =>
  unfold aU at h
  split at h
  ·rename_i a ha;exact .inl ⟨_,w,by unfold execOp;simp only[he,ha];rfl,h⟩
  ·rename_i f first cap ha;exact .inl ⟨_,w,by unfold execOp;simp only[he,ha];rfl,h⟩
  ·exact h.elim
 case binOp op t x y yt=>exact ko (do eqG op t (isC x) (isC y) (ev e x) (ev e y);binOp op t (ev e x) (ev e y)) (by rw[he, ←Po];rfl) h
 case unOp op t x=>exact ko (Op.unary op (ev e x)) (by rw[he];rfl) h
 case convert s d x=>exact ko (Go.convert s d (ev e x)) (by rw[he];rfl) h
 case makeInterface t x=>exact ko (Instr.makeInterface t (ev e x)) (by rw[he];rfl) h
 case makeFunc fn first cap =>
  have e1:first.map (ev e)=(first.toList.map (ev e)).toArray:=by rw[←Array.toList_map]
  have e2:cap.map (ev e)=(cap.toList.map (ev e)).toArray:=by rw[←Array.toList_map]
  exact .inl ⟨_,w,by unfold execOp;simp only[he,Instr.makeFunc,Sem.run_bind,Sem.run_pure,Result.andThen];rw[e1,e2],h⟩
 case makeMap t r=>exact ko (Instr.makeMap t (r.map (ev e))) (by rw[he];rfl) h
 case makeSlice t l c=>exact ko (Instr.makeSlice t (ev e l) (ev e c)) (by rw[he];rfl) h
 case slice t x lo hi mx=>exact ko (Instr.sliceAt t (ev e x) (lo.map (ev e)) (hi.map (ev e)) (mx.map (ev e))) (by rw[he];rfl) h
 case fieldAddr s x f=>exact ko (Instr.fieldAt s (ev e x) f) (by rw[he];rfl) h
 case field s x f=>exact ko (Instr.field s (ev e x) f) (by rw[he];rfl) h
 case indexAddr t x i=>exact ko (Instr.indexAt t (ev e x) (ev e i)) (by rw[he];rfl) h
 case index t x i=>exact ko (Instr.index t (ev e x) (ev e i)) (by rw[he];rfl) h
 case lookup t x i ok=>exact ko (Instr.lookup t (ev e x) (ev e i) ok) (by rw[he];rfl) h
 case mapUpdate t m k x=>exact EB (Instr.mapUpdate t (ev e m) (ev e k) (ev e x)) (by rw[he];rfl) h
 case insert t m k x=>exact EB (Instr.mapUpdate t (ev e m) (ev e k) (ev e x)) (by rw[he];rfl) h
 case mapEntry t m k=>exact ko (Instr.mapEntry t (ev e m) (ev e k)) (by rw[he];rfl) h
 case entryStore t m s x=>exact EB (Instr.entryStore t (ev e m) (ev e s) (ev e x)) (by rw[he];rfl) h
 case range t x=>exact ko (Instr.range t (ev e x)) (by rw[he];rfl) h
 case next it s=>exact ko (Instr.next (ev e it) s ty) (by rw[he];rfl) h
 case entry it=>exact ko (Instr.entry (ev e it)) (by rw[he];rfl) h
 case extract t i=>exact ko (Instr.extract (ev e t) i) (by rw[he];rfl) h
 case call c =>
  obtain⟨callee,args,ats⟩:=c
  have ea:args.map (ev e)=(args.toList.map (ev e)).toArray:=by rw[←Array.toList_map]
  cases callee with
  | invoke r m=>exact h.elim
  | builtin b =>
   have hx:execOp (Act.eval ⟨e.toArray,ds⟩) {dst,op:=.call {callee:=.builtin b,args,argTypes:=ats},type:=ty,pos,after,guard} = builtin b ats ty (args.map isC) (args.map (ev e)):=by rw[he];rfl
   have hc:args.map isC=(args.toList.map isC).toArray:=by rw[←Array.toList_map]
   have h:blt P b ats ty (args.toList.map isC).toArray (args.toList.map (ev e)).toArray K w:=h
   unfold blt at h
   split at h
   ·rename_i v w' hr;exact .inl ⟨v,w',by rw[hx,hc,ea];exact hr,h⟩
   ·exact h.elim
  | value f =>
   cases f with
   | func f =>
    refine Nq f (args.toList.map (ev e)).toArray ?_ h
    simp only[execOp,resolve,Deferred.ofValue,invoke,Sem.run_bind,Sem.run_pure,Result.andThen_ok,he,ea]
    simp[ev]
   | _ =>
    obtain⟨f,first,cap,hf,hc⟩:=h
    refine Nq f _ ?_ hc
    simp only[execOp,resolve,Deferred.ofValue,invoke,Sem.run_bind,Sem.run_pure,Result.andThen_ok,he,ea,hf]
 all_goals exact h.elim
theorem xn {o:Oper}{e:Env}{w:World}{K:KV}{d:Act→World→Prop}{Q:Exit→Act→World→Prop}(h:cOp P (ev e) o K w)(M:∀v w',K v w'→d ⟨(pt e o.dst v).toArray,ds⟩ w'):o.wp P ⟨e.toArray,ds⟩ w d Q:=by
 have j:∀v w',K v w'→d (Act.put ⟨e.toArray,ds⟩ o.dst v) w':=fun v w' J=>by rw[tt];exact M v w' J
 unfold Oper.wp;rcases Ki h with⟨v,w',I,u⟩|⟨w',I,u⟩|⟨f,args,I,u⟩
 ·rw[I];exact j _ _ u
 ·rw[I];exact j _ _ u
 ·rw[I];refine Calls.mono u ?_;rintro e w' ⟨v,rfl,J⟩;exact j _ _ J
theorem td (ops:List Oper)(e:Env)(o:Oper)(j:Nat)(u:Bool)(I:o.guard=some (j,u)):Region.wanted o (yielded ops.toArray e.toArray)=(asB (ph ops e j)==some u):=by
 simp only[Region.wanted,I]
 have:yielded ops.toArray e.toArray j=asB (ph ops e j):=by
  unfold yielded ph;simp only[List.getElem?_toArray];cases h:(ops[j]?).bind (·.dst)with
  | none=>simp[undef,asB]
  | some d =>
   simp only[Option.bind_some,List.getElem?_toArray,gd,List.getD];cases J:e[d]? with
   | none=>simp[undef,asB]
   | some v=>cases v<;>simp[asB]
 rw[this]
theorem FR {ops:List Oper}{e:Env}{j:Nat}{d:Option Tmp}{v:Value}(h:((ops[j]?).bind (·.dst)).any (d.toList.contains ·)=false):ph ops (pt e d v) j=ph ops e j:=by
 unfold ph;cases J:(ops[j]?).bind (·.dst)with
 | none=>rfl
 | some dj =>
  cases d with
  | none=>rfl
  | some d =>
   have u:dj≠d:=by
    intro I;subst I;simp[J]at h
   have:d≠dj:=fun e=>u e.symm
   simp[pt,gd,List.getD,List.getElem?_set_ne this]
theorem CR {ops:List Oper}{j:Nat}{o:Oper}{l:List Oper}(h:((ops[j]?).bind (·.dst)).any ((fi (o::l)).contains ·)=false):((ops[j]?).bind (·.dst)).any (o.dst.toList.contains ·)=false∧((ops[j]?).bind (·.dst)).any ((fi l).contains ·)=false:=by
 cases I:(ops[j]?).bind (·.dst)with
 | none=>simp
 | some d =>
  rw[I]at h;unfold fi at *;rw[List.filterMap_cons]at h;cases u:o.dst with
  | none=>rw[u]at h;simpa using h
  | some d' => rw[u]at h;simpa using h
theorem Qo {ops:List Oper}{K:KE}{Q:Exit→Act→World→Prop}{rest:List Oper}(I:∀e w,K e w→wpList P ops.toArray Q rest ⟨e.toArray,ds⟩ w):∀(l:List Oper) (e:Env) (w:World),(∀o∈l,o.guard=none)→fT P l K e w→wpList P ops.toArray Q (l++rest) ⟨e.toArray,ds⟩ w:=by
 intro l
 induction l with
 | nil=>intro e w _ h;exact I e w h
 | cons o l ih =>
  intro e w u h;refine wpList_step fun KK d=>?_;rw[if_pos (by simp[Region.wanted,u o (List.mem_cons_self ..)])];exact xn h fun v w' J=>d _ _ (ih _ _ (fun M j => u M (List.mem_cons_of_mem _ j)) J)
theorem OT {ops:List Oper}{K:KE}{Q:Exit→Act→World→Prop}{rest:List Oper}{j:Nat}{d:Bool}(hK:∀e w,K e w→wpList P ops.toArray Q rest ⟨e.toArray,ds⟩ w):∀(l:List Oper) (e:Env) (w:World),(∀o∈l,o.guard=some (j,d))→((ops[j]?).bind (·.dst)).any ((fi l).contains ·)=false→asB (ph ops e j)=some d→fT P l K e w →
   wpList P ops.toArray Q (l++rest) ⟨e.toArray,ds⟩ w:=by
 intro l
 induction l with
 | nil=>intro e w _ _ _ h;exact hK e w h
 | cons o l ih =>
  intro e w U hd X h;obtain⟨I,J⟩:=CR hd;refine wpList_step fun KK u=>?_;have Z:=td ops e o j d (U o (List.mem_cons_self ..));dsimp only at Z ⊢;rw[Z,if_pos (by simp[X])];exact xn h fun v w' O => u _ _ (ih _ _ (fun o' M => U o' (List.mem_cons_of_mem _ M)) J (by rw[FR I];exact X) O)
theorem GH (I:List Value)(J:∀i,gd I i=undef):∀(ds:List Nat) (k u:Nat) (e:Env) (j:List Value),(∀i,gd j i=undef)→tx I ds k e=tx j ds u e:=by
 intro ds
 induction ds with
 | nil=>intro k u e j _;rfl
 | cons d ds ih=>intro k u e j h;simp only[tx,J,h];exact ih _ _ _ _ h
theorem Kj (ds:List Nat)(i:Nat):gd (ds.map fun _=>undef) i=undef:=by
 simp only[gd,List.getD,List.getElem?_map];cases ds[i]? <;> rfl
theorem Nj {ops:List Oper}{Q:Exit→Act→World→Prop}{rest:List Oper}{j:Nat}{u:Bool}:∀(l:List Oper) (e:Env) (w:World),(∀o∈l,o.guard=some (j,u))→((ops[j]?).bind (·.dst)).any ((fi l).contains ·)=false→asB (ph ops e j)≠some u →
   wpList P ops.toArray Q rest ⟨(vG e (fi l) ((fi l).map fun _=>undef)).toArray,ds⟩ w→wpList P ops.toArray Q (l++rest) ⟨e.toArray,ds⟩ w:=by
 intro l
 induction l with
 | nil=>intro e w _ _ _ h;exact h
 | cons o l ih =>
  intro e w X hd Z h;obtain⟨J,M⟩:=CR hd;refine wpList_step fun KK I=>?_;have hw:=td ops e o j u (X o (List.mem_cons_self ..));dsimp only at hw ⊢;rw[hw,if_neg (by simpa using Z),tt];refine I _ _ (ih _ _ (fun o' O => X o' (List.mem_cons_of_mem _ O)) M (by rw[FR J];exact Z) ?_)
  have he:vG e (fi (o::l)) ((fi (o::l)).map fun _=>undef)=vG (pt e o.dst undef) (fi l) ((fi l).map fun _=>undef):=by
   have U:=fun ds=>Kj ds;unfold fi;rw[List.filterMap_cons];cases o.dst with
   | none=>rfl
   | some d =>
    simp only[vG,tx,U,pt];exact GH _ (U _) _ _ _ _ _ (U _)
  rw[←he];exact h
theorem Qp (j:List Value):∀(ds:List Nat) (k:Nat) (e:Env) (i:Nat),i∉ds→(tx j ds k e)[i]? = e[i]? := by
 intro ds
 induction ds with
 | nil=>intro k e i _;rfl
 | cons d ds ih =>
  intro k e i hi;simp only[List.mem_cons,not_or]at hi;simp only[tx];rw[ih _ _ _ hi.2,List.getElem?_set_ne (fun h=>hi.1 h.symm)]
theorem OU (O:List Value)(e':Env):∀(ds:List Nat) (k:Nat) (e:Env),(∀i d,ds[i]? = some d→gd O (k+i)=gd e' d)→e'.length=e.length→(∀i,i∉ds→e'[i]? = e[i]?)→tx O ds k e=e':=by
 intro ds
 induction ds with
 | nil=>intro k e _ J h;exact(List.ext_getElem? fun i=>h i (by simp)).symm
 | cons d ds ih =>
  intro k e M J h;simp only[tx];refine ih (k+1) _ (fun i U X=>by rw[show k+1+i=k+(i+1)by omega];exact M (i+1) U (by simpa using X)) (by simp[J]) ?_;have I:=M 0 d (by simp);rw[Nat.add_zero]at I;intro i hi;by_cases j:i=d
  ·subst j;by_cases u:i<e.length
   ·rw[List.getElem?_set_self u,I]
    have:i<e'.length:=by omega
    simp[gd,List.getD,this]
   ·rw[List.getElem?_eq_none (show e'.length≤i by omega),List.getElem?_eq_none (by simp;omega)]
  ·rw[List.getElem?_set_ne (fun h=>j h.symm)];exact h i (by simp[j,hi])
theorem Qq (ds:List Nat)(e e':Env)(u:e'.length=e.length)(h:∀i,i∉ds→e'[i]? = e[i]?):vG e ds (ds.map (gd e'))=e':=by
 refine OU _ e' ds 0 e (fun i d j=>?_) u h;rw[Nat.zero_add];simp[gd,List.getD,List.getElem?_map,j]
theorem qT :∀(l:List Oper),((grp l).flatMap (·.2))=l∧∀g∈grp l,∀o∈g.2,o.guard=g.1:=by
 intro l
 induction l with
 | nil=>simp[grp]
 | cons o l ih =>
  obtain⟨j,u⟩:=ih;unfold grp;split
  ·rename_i J;rw[J]at j;simp at j;subst j;simp
  ·rename_i g l' O J;rw[J]at j u;split
   ·rename_i M;refine⟨by simpa using j,?_⟩;intro x h I d;simp only[List.mem_cons]at h;rcases h with rfl|h
    ·simp only[List.mem_cons]at d;rcases d with rfl|d
     ·exact M
     ·exact u (g,l') (by simp) I d
    ·exact u x (by simp[h]) I d
   ·refine⟨by simpa using j,?_⟩;intro x h I d;simp only[List.mem_cons]at h;rcases h with rfl|rfl|h
    ·simp only[List.mem_singleton]at d;rw[d]
    ·exact u (g,l') (by simp) I d
    ·exact u x (by simp[h]) I d
def agree (ws:List Nat)(e e':Env):Prop:=e'.length=e.length∧∀i,i∉ws→gd e' i=gd e i
theorem agree.refl (d:List Nat)(e:Env):agree d e e:=⟨rfl,fun _ _=>rfl⟩
theorem agree.trans {j d:List Nat}{a b c:Env}(h:agree j a b)(k:agree d b c):agree (j++d) a c :=
 ⟨k.1.trans h.1,fun i hi=>by
  simp only[List.mem_append,not_or]at hi;rw[k.2 i hi.2,h.2 i hi.1]⟩
theorem agree.mono {j d:List Nat}{a b:Env}(h:agree j a b)(I:∀i∈j,i∈d):agree d a b:=⟨h.1,fun i hi=>h.2 i fun u=>hi (I i u)⟩
theorem CQ (e:Env)(d:Option Tmp)(v:Value):agree d.toList e (pt e d v):=by
 cases d with
 | none=>exact agree.refl _ _
 | some d =>
  refine⟨by simp[pt],fun i hi=>?_⟩
  have:d≠i:=by simpa[eq_comm]using hi
  simp[pt,gd,List.getD,List.getElem?_set_ne this]
theorem Ex {f:FuncId}{args:Array Value}{K K':KV}{w:World}(d:∀v w',K v w'→K' v w')(h:call P f args K w):call P f args K' w:=⟨h.1,h.2.mono d⟩
theorem zI {r:Operand→Value}{o:Oper}{K K':KV}{w:World}(hk:∀v w',K v w'→K' v w')(h:cOp P r o K w):cOp P r o K' w:=by
 unfold cOp at *
 split at h<;>first
  | exact hk _ _ h
  | exact RU hk h
  | exact RT hk h
  | exact h.elim
  | skip
 ·obtain⟨b,hb,h⟩:=h;exact⟨b,hb,hk _ _ h⟩
 ·unfold aU at *
  split at h
  ·exact hk _ _ h
  ·exact hk _ _ h
  ·exact h.elim
 ·split at h
  ·exact Ex hk h
  ·obtain⟨f,first,cap,hf,hc⟩:=h;exact⟨f,first,cap,hf,Ex hk hc⟩
  ·unfold blt at *
   split at h
   ·exact hk _ _ h
   ·exact h.elim
  ·exact h.elim
theorem CS :∀(l:List Oper) {K K':KE} {e:Env} {w:World},fT P l K e w→(∀j u,agree (fi l) e j→K j u→K' j u)→fT P l K' e w:=by
 intro l
 induction l with
 | nil=>intro K K' e w h J;exact J _ _ (agree.refl _ _) h
 | cons o rest ih =>
  intro K K' e w h J;exact zI (fun v w' h=>ih h fun j u O M=>J j u (((CQ e o.dst v).trans O).mono (by
   intro i hi;simp only[List.mem_append]at hi;unfold fi;rw[List.filterMap_cons];rcases hi with hi|hi
   ·cases I:o.dst with
    | none=>simp[I]at hi
    | some d=>simp[I]at hi;simp[hi]
   ·cases I:o.dst with
    | none=>exact hi
    | some d=>exact List.mem_cons_of_mem _ hi)) M) h
theorem Ih {ds:List Nat}{e e':Env}(h:agree ds e e'):vG e ds (ds.map (gd e'))=e':=by
 refine Qq ds e e' h.1 fun i hi=>?_;have u:=h.2 i hi;by_cases d:i<e.length
 ·have j:i<e'.length:=by rw[h.1];exact d
  simp only[gd,List.getD,List.getElem?_eq_getElem d,List.getElem?_eq_getElem j,Option.getD_some]at u ⊢;rw[u]
 ·simp[List.getElem?_eq_none (Nat.le_of_not_lt d),List.getElem?_eq_none (show e'.length≤i by rw[h.1];omega)]
theorem yM {ops:List Oper}{K:KE}{Q:Exit→Act→World→Prop}(hK:∀e w,K e w→Q .normal ⟨e.toArray,ds⟩ w):∀(d:List (Option (Nat×Bool)×List Oper)) (e:Env) (w:World),(∀g∈d,∀o∈g.2,o.guard=g.1)→fh P ops d K e w→wpList P ops.toArray Q (d.flatMap (·.2)) ⟨e.toArray,ds⟩ w:=by
 intro d
 induction d with
 | nil=>intro e w _ h;exact hK e w h
 | cons g d ih =>
  intro e w Z h;obtain⟨I,l⟩:=g;have u:∀g∈d,∀o∈g.2,o.guard=g.1:=fun g hh=>Z g (List.mem_cons_of_mem _ hh);have X:=Z (I,l) (List.mem_cons_self ..);rw[List.flatMap_cons];cases I with
  | none=>exact Qo (fun e w h=>ih e w u h) l e w X h
  | some jw =>
   obtain⟨j,J⟩:=jw;simp only[fh]at h;cases M:((ops[j]?).bind (·.dst)).any ((fi l).contains ·)
   case true=>rw[M]at h;exact h.elim
   case false =>
    rw[M]at h;have h:aI _ _ _ _ _:=h;by_cases O:asB (ph ops e j)=some J
    ·refine OT (K:=fun e' w' => fh P ops d K e' w') (fun e w h=>ih e w u h) l e w X M O <|CS l (h.1 O) ?_;intro e2 w2 ha U;dsimp only at U;rw[Ih ha]at U;exact U
    ·exact Nj l e w X M O (ih _ w u (h.2 O))
theorem OZ {o:Oper}{e:Env}{w:World}{k:KV}(h:sOp P e o k w):sti (fun k w=>cOp P (ev e) o k w) k w:=by
 unfold sOp at h;split at h
 ·rename_i x d;exact⟨_,by unfold cOp;simp only[d];exact⟨(by first|trivial|rfl),(by first|trivial|rfl)⟩,h⟩
 ·rename_i x d;exact⟨_,by unfold cOp;simp only[d];exact⟨(by first|trivial|rfl),(by first|trivial|rfl)⟩,h⟩
 ·exact h
theorem Sj {o:Oper}{e:Env}{w:World}{k j:KV}(d:∀v,k v w→j v w)(h:sOp P e o k w):sOp P e o j w:=by
 unfold sOp at *;split at h
 ·exact d _ h
 ·exact d _ h
 ·obtain⟨v,u,h⟩:=h;exact⟨v,u,d _ h⟩
theorem ML {o:Oper}{e:Env}{w:World}{k:KV}{next:Act→Prop}(h:sOp P e o k w)(I:∀v,k v w→next ⟨(pt e o.dst v).toArray,ds⟩):o.still P ⟨e.toArray,ds⟩ w next:=by
 obtain⟨v,O,u⟩:=OZ h;have d:∀v',Act.put ⟨e.toArray,ds⟩ o.dst v'=⟨(pt e o.dst v').toArray,ds⟩:=fun v' => tt e ds o.dst v';unfold Oper.still;rcases Ki O with⟨v',w',j,rfl,rfl⟩|⟨w',j,J,rfl⟩|⟨f,args,j,M⟩
 ·rw[j];exact⟨rfl,by rw[d];exact I _ u⟩
 ·rw[j];exact⟨rfl,by rw[d,J];exact I _ u⟩
 ·rw[j];exact⟨rfl,v,Calls.mono M (by rintro e' w' ⟨v',rfl,rfl,rfl⟩;exact⟨rfl,rfl⟩),by rw[d];exact I _ u⟩
theorem OS {ops:List Oper}{K:KE}{Q:Act→Prop}{w:World}{rest:List Oper}(u:∀e,K e w→wpStill P ops.toArray w Q rest ⟨e.toArray,ds⟩):∀(l:List Oper) (e:Env),(∀o∈l,o.guard=none)→HT P l K e w→wpStill P ops.toArray w Q (l++rest) ⟨e.toArray,ds⟩:=by
 intro l
 induction l with
 | nil=>intro e _ h;exact u e h
 | cons o l ih =>
  intro e j h;simp only[List.cons_append,wpStill];rw[if_pos (by simp[Region.wanted,j o (List.mem_cons_self ..)])];exact ML h fun v I=>ih _ (fun J d => j J (List.mem_cons_of_mem _ d)) I
theorem Nh {ops:List Oper}{K:KE}{Q:Act→Prop}{w:World}{rest:List Oper}{j:Nat}{d:Bool}(X:∀e,K e w→wpStill P ops.toArray w Q rest ⟨e.toArray,ds⟩):∀(l:List Oper) (e:Env),(∀o∈l,o.guard=some (j,d))→((ops[j]?).bind (·.dst)).any ((fi l).contains ·)=false→asB (ph ops e j)=some d→HT P l K e w →
   wpStill P ops.toArray w Q (l++rest) ⟨e.toArray,ds⟩:=by
 intro l
 induction l with
 | nil=>intro e _ _ _ h;exact X e h
 | cons o l ih =>
  intro e O Z U h;obtain⟨u,I⟩:=CR Z;have hw:=td ops e o j d (O o (List.mem_cons_self ..));simp only[List.cons_append,wpStill];rw[hw,if_pos (by simp[U])];exact ML h fun v M => ih _ (fun o' J => O o' (List.mem_cons_of_mem _ J)) I (by rw[FR u];exact U) M
theorem Ni {ops:List Oper}{Q:Act→Prop}{w:World}{rest:List Oper}{j:Nat}{u:Bool}:∀(l:List Oper) (e:Env),(∀o∈l,o.guard=some (j,u))→((ops[j]?).bind (·.dst)).any ((fi l).contains ·)=false→asB (ph ops e j)≠some u →
   wpStill P ops.toArray w Q rest ⟨(vG e (fi l) ((fi l).map fun _=>undef)).toArray,ds⟩→wpStill P ops.toArray w Q (l++rest) ⟨e.toArray,ds⟩:=by
 intro l
 induction l with
 | nil=>intro e _ _ _ h;exact h
 | cons o l ih =>
  intro e U Z X h;obtain⟨I,J⟩:=CR Z;have hw:=td ops e o j u (U o (List.mem_cons_self ..));simp only[List.cons_append,wpStill];rw[hw,if_neg (by simpa using X),tt];refine ih _ (fun o' M => U o' (List.mem_cons_of_mem _ M)) J (by rw[FR I];exact X) ?_;have he:vG e (fi (o::l)) ((fi (o::l)).map fun _=>undef)=vG (pt e o.dst undef) (fi l) ((fi l).map fun _=>undef):=by
   have O:=fun ds=>Kj ds;unfold fi;rw[List.filterMap_cons];cases o.dst with
   | none=>rfl
   | some d =>
    simp only[vG,tx,O,pt];exact GH _ (O _) _ _ _ _ _ (O _)
  rw[←he];exact h
theorem DU :∀(l:List Oper) {K K':KE} {e:Env} {w:World},HT P l K e w→(∀j,agree (fi l) e j→K j w→K' j w)→HT P l K' e w:=by
 intro l
 induction l with
 | nil=>intro K K' e w h I;exact I _ (agree.refl _ _) h
 | cons o rest ih =>
  intro K K' e w h I;refine Sj (fun v h=>ih h fun j M J=>I j (((CQ e o.dst v).trans M).mono ?_) J) h;intro i hi;simp only[List.mem_append]at hi;unfold fi;rw[List.filterMap_cons];rcases hi with hi|hi
  ·cases u:o.dst with
   | none=>simp[u]at hi
   | some d=>simp[u]at hi;simp[hi]
  ·cases u:o.dst with
   | none=>exact hi
   | some d=>exact List.mem_cons_of_mem _ hi
theorem zw {ops:List Oper}{K:KE}{Q:Act→Prop}{w:World}(hK:∀e,K e w→Q ⟨e.toArray,ds⟩):∀(d:List (Option (Nat×Bool)×List Oper)) (e:Env),(∀g∈d,∀o∈g.2,o.guard=g.1)→wZ P ops d K e w→wpStill P ops.toArray w Q (d.flatMap (·.2)) ⟨e.toArray,ds⟩:=by
 intro d
 induction d with
 | nil=>intro e _ h;exact hK e h
 | cons g d ih =>
  intro e Z h;obtain⟨I,l⟩:=g;have u:∀g∈d,∀o∈g.2,o.guard=g.1:=fun g hh=>Z g (List.mem_cons_of_mem _ hh);have X:=Z (I,l) (List.mem_cons_self ..);rw[List.flatMap_cons];cases I with
  | none=>exact OS (fun e h=>ih e u h) l e X h
  | some jw =>
   obtain⟨j,J⟩:=jw;simp only[wZ]at h;cases M:((ops[j]?).bind (·.dst)).any ((fi l).contains ·)
   case true=>rw[M]at h;exact h.elim
   case false =>
    rw[M]at h;have h:aI _ _ _ _ _:=h;by_cases O:asB (ph ops e j)=some J
    ·refine Nh (K:=fun e' w' => wZ P ops d K e' w') (fun e h=>ih e u h) l e X M O <|DU l (h.1 O) ?_;intro e2 ha U;dsimp only at U;rw[Ih ha]at U;exact U
    ·exact Ni l e X M O (ih _ u (h.2 O))
theorem Is (ops:Array Oper)(h:Nat.ble (jC ops) ops.size=true):(Region.lexB .any ops=true∧jC ops=ops.size)∨(Region.lexTailB .any ops (jC ops)=true∧jC ops<ops.size):=by
 have d:∀n,n≤ops.size→Nat.ble (ss ops n) ops.size=true→Region.lexTailB .any ops (ss ops n)=true∧ss ops n<ops.size:=by
  intro n
  induction n with
  | zero=>intro _ h;simp only[ss]at h;have:=Nat.le_of_ble_eq_true h;omega
  | succ n ih =>
   intro J h;simp only[ss]at h ⊢;cases u:Region.lexTailB .any ops n
   case true=>exact⟨u,by show n<_;omega⟩
   case false=>rw[u]at h;exact ih (by omega) h
 unfold jC at *;cases j:Nat.ble (Pa ops+1) ops.size
 case true =>
  right;rw[j]at h;exact d _ (Nat.le_of_ble_eq_true j) h
 case false =>
  rw[j]at h;cases I:Region.lexB .any ops
  case true=>left;exact⟨rfl,rfl⟩
  case false =>
   right;rw[I]at h;exact d ops.size (Nat.le_refl _) h
theorem qM {o:Oper}{a:Act}{w:World}{K:KV}(s:Sem Value)(j:execOp a.eval o=(do pure (.value (←s)):Sem Next))(h:okV P s K w):∃v w',(execOp a.eval o).run P w=.ok (.value v) w'∧K v w':=by
 unfold okV at h;split at h
 ·rename_i v w' d;exact⟨v,w',by rw[j,KC,d];rfl,h⟩
 ·exact h.elim
theorem Jp {o:Oper}{e:Env}{w:World}{K:KV}(hr:Cn o=true)(h:cOp P (ev e) o K w):∃v w',(execOp (Act.eval ⟨e.toArray,ds⟩) o).run P w=.ok (.value v) w'∧K v w':=by
 have he:Act.eval ⟨e.toArray,ds⟩=ev e:=funext (pY e ds)
 obtain⟨dst,op,ty,pos,after,guard⟩:=o
 cases op<;>simp only[cOp]at h
 case move x=>exact⟨_,w,by rw[he];rfl,h⟩
 case assign x=>exact⟨_,w,by rw[he];rfl,h⟩
 case pick c x y =>
  obtain⟨b,hb,hk⟩:=h
  exact⟨_,w,by unfold execOp;simp only[he,hb,asBool,Sem.run_bind,Sem.run_pure,Result.andThen],hk⟩
 case build t ps=>exact qM (a:=⟨e.toArray,ds⟩) (Instr.build t (ps.toList.map fun p:Nat×Operand=>(p.1,ev e p.2)).toArray) (by rw[he];exact congrArg (fun l=>(do pure (.value (←Instr.build t l)):Sem Next)) (HD e ps)) h
 case load t x=>exact qM (a:=⟨e.toArray,ds⟩) (Instr.loadAt t (ev e x)) (by rw[he];rfl) h
 case nilCheck x =>
  unfold aU at h
  split at h
  ·rename_i a ha;exact⟨_,w,by unfold execOp;simp only[he,ha];rfl,h⟩
  ·rename_i f first cap ha;exact⟨_,w,by unfold execOp;simp only[he,ha];rfl,h⟩
  ·exact h.elim
 case binOp op t x y yt=>exact qM (a:=⟨e.toArray,ds⟩) (do eqG op t (isC x) (isC y) (ev e x) (ev e y);binOp op t (ev e x) (ev e y)) (by rw[he, ←Po];rfl) h
 case unOp op t x=>exact qM (a:=⟨e.toArray,ds⟩) (Op.unary op (ev e x)) (by rw[he];rfl) h
 case convert s d x=>exact qM (a:=⟨e.toArray,ds⟩) (Go.convert s d (ev e x)) (by rw[he];rfl) h
 case makeInterface t x=>exact qM (a:=⟨e.toArray,ds⟩) (Instr.makeInterface t (ev e x)) (by rw[he];rfl) h
 case makeFunc fn first cap =>
  have e1:first.map (ev e)=(first.toList.map (ev e)).toArray:=by rw[←Array.toList_map]
  have e2:cap.map (ev e)=(cap.toList.map (ev e)).toArray:=by rw[←Array.toList_map]
  exact⟨_,w,by unfold execOp;simp only[he,Instr.makeFunc,Sem.run_bind,Sem.run_pure,Result.andThen];rw[e1,e2],h⟩
 case slice t x lo hi mx=>exact qM (a:=⟨e.toArray,ds⟩) (Instr.sliceAt t (ev e x) (lo.map (ev e)) (hi.map (ev e)) (mx.map (ev e))) (by rw[he];rfl) h
 case fieldAddr s x f=>exact qM (a:=⟨e.toArray,ds⟩) (Instr.fieldAt s (ev e x) f) (by rw[he];rfl) h
 case field s x f=>exact qM (a:=⟨e.toArray,ds⟩) (Instr.field s (ev e x) f) (by rw[he];rfl) h
 case indexAddr t x i=>exact qM (a:=⟨e.toArray,ds⟩) (Instr.indexAt t (ev e x) (ev e i)) (by rw[he];rfl) h
 case index t x i=>exact qM (a:=⟨e.toArray,ds⟩) (Instr.index t (ev e x) (ev e i)) (by rw[he];rfl) h
 case lookup t x i ok=>exact qM (a:=⟨e.toArray,ds⟩) (Instr.lookup t (ev e x) (ev e i) ok) (by rw[he];rfl) h
 case extract t i=>exact qM (a:=⟨e.toArray,ds⟩) (Instr.extract (ev e t) i) (by rw[he];rfl) h
 case call c =>
  obtain⟨callee,args,ats⟩:=c
  have ea:args.map (ev e)=(args.toList.map (ev e)).toArray:=by rw[←Array.toList_map]
  cases callee with
  | invoke r m=>exact h.elim
  | builtin b =>
   have hx:execOp (Act.eval ⟨e.toArray,ds⟩) {dst,op:=.call {callee:=.builtin b,args,argTypes:=ats},type:=ty,pos,after,guard} = builtin b ats ty (args.map isC) (args.map (ev e)):=by rw[he];rfl
   have hc:args.map isC=(args.toList.map isC).toArray:=by rw[←Array.toList_map]
   have h:blt P b ats ty (args.toList.map isC).toArray (args.toList.map (ev e)).toArray K w:=h
   unfold blt at h
   split at h
   ·rename_i v w' hr;exact⟨v,w',by rw[hx,hc,ea];exact hr,h⟩
   ·exact h.elim
  | value f=>simp[Cn]at hr
 all_goals first|exact h.elim|(simp[Cn]at hr)
theorem NA {S:World→Prop}{e:Env}{o:Oper}{k:Value→Prop}(h:hOp P S e o k):hld S (fun k w=>cOp P (ev e) o k w) k:=by
 unfold hOp at h
 split at h
 ·rename_i x ho;exact⟨_,fun w _=>by unfold cOp;simp only[ho];exact⟨(by first|trivial|rfl),(by first|trivial|rfl)⟩,h⟩
 ·rename_i x ho;exact⟨_,fun w _=>by unfold cOp;simp only[ho];exact⟨(by first|trivial|rfl),(by first|trivial|rfl)⟩,h⟩
 ·rename_i fn first cap ho;exact⟨_,fun w _=>by unfold cOp;simp only[ho];exact⟨(by first|trivial|rfl),(by first|trivial|rfl)⟩,h⟩
 ·exact h
theorem Py {f:Nat→Prop}:∀(l:List Nat),Dh l f→∀i∈l,f i:=by
 intro l
 induction l with
 | nil=>intro _ i hi;cases hi
 | cons j r ih =>
  intro h i hi;cases r with
  | nil =>
   rcases List.mem_cons.1 hi with rfl|hi
   ·exact h
   ·cases hi
  | cons d r2 =>
   have h:f j∧Dh (d::r2) f:=h;rcases List.mem_cons.1 hi with rfl|hi
   ·exact h.1
   ·exact ih h.2 i hi
theorem Ow {f g:Nat→Prop}(d:∀i,f i→g i):∀(l:List Nat),Dh l f→Dh l g:=by
 intro l
 induction l with
 | nil=>exact id
 | cons j r ih =>
  intro h;cases r with
  | nil=>exact d _ h
  | cons u r2 =>
   have h:f j∧Dh (u::r2) f:=h;exact⟨d _ h.1,ih h.2⟩
/-! ### A reading may be taken ahead of what does not turn it. -/
section taken
variable {ops:Array Oper}{Q:Exit→Act→World→Prop}{S:World→Prop}
def xo (ops:Array Oper)(listed:Array Bool):Prop:=∀(j:Nat) (o:Oper),ops[j]? = some o→listed.getD j false=true→∀e∈o.after,Region.binds .any e=true→listed.getD e.on false=true
theorem KO {d:Array Bool}{i j:Nat}(h:(d.setIfInBounds i true).getD j false=true):d.getD j false=true∨j=i:=by
 by_cases u:j=i
 ·exact .inr u
 ·left;rw[getD_set_ne false (Ne.symm u)]at h;exact h
theorem th {d:Array Bool}{i:Nat}(U:xo ops d)(Z:i∈Region.ready .any ops d):xo ops (d.setIfInBounds i true):=by
 intro j o O X e M J;rcases KO X with h|rfl
 ·exact getD_set_true (U j o O h e M J)
 ·obtain⟨_,o',I,u⟩:=mem_ready.1 Z;rw[O]at I;cases I;exact getD_set_true (u e M J)
theorem GF {d:Array Bool}{j:Nat}(J:∀o,ops[j]? = some o→∀e∈o.after,Region.binds .any e=true→d.getD e.on false=true):∀x∈Jz ops j,d.getD x false=true:=by
 intro x h;unfold Jz at h;split at h
 ·rename_i o M;simp only[List.mem_map,List.mem_filter]at h;obtain⟨e,⟨I,u⟩,rfl⟩:=h;exact J o M e (by simpa using I) u
 ·cases h
theorem Na {d:Array Bool}(U:xo ops d):∀(f:Nat) (h u:List Nat),(∀x∈h,d.getD x false=true)→(∀x∈u,d.getD x false=true)→∀x∈Jy ops f h u,d.getD x false=true:=by
 intro f
 induction f with
 | zero=>intro h u _ J;exact J
 | succ f ih =>
  intro h u M J;cases h with
  | nil=>exact J
  | cons j h =>
   simp only[Jy];split
   ·exact ih _ _ (fun x I=>M x (List.mem_cons_of_mem _ I)) J
   ·refine ih _ _ (fun x I=>?_) (fun x I=>?_)
    ·rcases List.mem_append.1 I with I|I
     ·exact GF (fun o Z e X O=>U j o Z (M j (List.mem_cons_self ..)) e X O) x I
     ·exact M x (List.mem_cons_of_mem _ I)
    ·rcases List.mem_cons.1 I with rfl|I
     ·exact M _ (List.mem_cons_self ..)
     ·exact J x I
theorem RM {k:Nat}:∀{l:List Nat},JF k l=true→k∈l:=by
 intro l
 induction l with
 | nil=>intro h;cases h
 | cons i r ih =>
  intro h;simp only[JF,Bool.or_eq_true]at h;rcases h with h|h
  ·rw[Nat.eq_of_beq_eq_true h];exact List.mem_cons_self ..
  ·exact List.mem_cons_of_mem _ (ih h)
theorem Nb {d:Array Bool}{i j:Nat}{h:List Nat}(U:xo ops d)(X:j∈Region.ready .any ops d)(hi:i∈Region.ready .any ops d):oY ops (i::h) j=i::oY ops h j:=by
 unfold oY;rw[List.filter_cons_of_pos];cases Z:JF i (Jy ops 1000 (Jz ops j) [])with
 | false=>rfl
 | true =>
  obtain⟨_,o,ho,u⟩:=mem_ready.1 X;have J:=Na U 1000 (Jz ops j) [] (GF fun o' I => by rw[ho]at I;cases I;exact u) (fun x hx=>by cases hx) i (RM Z);have O:=(mem_ready.1 hi).1;rcases Nat.lt_or_ge i d.size with M|M
  ·simp[M]at O J;rw[O]at J;cases J
  ·simp[Array.getElem?_eq_none M]at J
def pX (P:Program)(ops:Array Oper)(Q:Exit→Act→World→Prop)(S:World→Prop):Nat→Array Bool→List Nat→Act→World→Prop
 | 0,listed,_,a,w=>Region.ready .any ops listed=[]∧Q .normal a w
 | fuel+1,listed,pend,a,w =>
  (Region.ready .any ops listed=[]→Q .normal a w) ∧
  ∀i∈Region.ready .any ops listed,wpOp P ops Q i (fun a' w' => (oY ops pend i≠[]→S w')∧pX P ops Q S fuel (listed.setIfInBounds i true) (oY ops pend i) a' w') a w
theorem zA :∀(fuel:Nat) (d:Array Bool) (j:List Nat) (a:Act) (w:World),pX P ops Q S fuel d j a w→wpAny P .any ops Q fuel d a w
 | 0,_,_,_,_,h=>h
 | fuel+1,_,_,_,_,h=>⟨h.1,fun i hi=>wpOp_mono (fun u w' I => zA fuel _ _ u w' I.2) (h.2 i hi)⟩
theorem KG :∀(fuel:Nat) (d:Array Bool) (a:Act) (w:World),wpAny P .any ops Q fuel d a w→pX P ops Q S fuel d [] a w
 | 0,_,_,_,h=>h
 | fuel+1,_,_,_,h=>⟨h.1,fun i hi=>wpOp_mono (fun j w' u => ⟨fun I=>absurd rfl I,KG fuel _ j w' u⟩) (h.2 i hi)⟩
theorem MU {S2:World→Prop}(J:∀x,S2 x→S x):∀(fuel:Nat) (d:Array Bool) (j:List Nat) (a:Act) (w:World),pX P ops Q S2 fuel d j a w→pX P ops Q S fuel d j a w
 | 0,_,_,_,_,h=>h
 | fuel+1,_,_,_,_,h=>⟨h.1,fun i hi=>wpOp_mono (fun M w' I => ⟨fun u=>J _ (I.1 u),MU J fuel _ _ M w' I.2⟩) (h.2 i hi)⟩
theorem Kl {p j:List Nat}{i:Nat}(h:∀x∈p,x∈j):∀x∈oY ops p i,x∈oY ops j i:=by
 intro x d;unfold oY at *;rw[List.mem_filter]at *;exact⟨h x d.1,d.2⟩
theorem xm :∀(fuel:Nat) (d:Array Bool) (p u:List Nat) (a:Act) (w:World),(∀x∈p,x∈u)→pX P ops Q S fuel d u a w→pX P ops Q S fuel d p a w
 | 0,_,_,_,_,_,_,h=>h
 | fuel+1,_,p,u,_,_,hp,h=>⟨h.1,fun i hi=>wpOp_mono (fun J w' I => ⟨fun j=>I.1 (fun M=>j (by
   cases O:oY ops p i with
   | nil=>rfl
   | cons x r =>
    have:=Kl (ops:=ops) (i:=i) hp x (by rw[O];exact List.mem_cons_self ..)
    rw[M]at this;cases this)),xm fuel _ _ _ J w' (Kl hp) I.2⟩) (h.2 i hi)⟩
theorem MV {i:Nat}{oi:Oper}{v:Value}(hi:ops[i]? = some oi)(Z:∀(j:Nat) (o:Oper) cs b,ops[j]? = some o→o.op≠.select cs b)(hQ:∀c a w,Q (.panic c) (a.put oi.dst v) w→Q (.panic c) a w):∀(fuel:Nat) (d:Array Bool) (I:List Nat) (a:Act) (w:World),xo ops d →
   (∀j oj,ops[j]? = some oj→j≠i→d.getD j true=false→(∀e∈oj.after,Region.binds .any e=true→e.on≠i)→oi.apart ops oj=true) →
   i∈Region.ready .any ops d→YieldsIf P ops S oi v a→S w →
   pX P ops Q S fuel (d.setIfInBounds i true) (i::I) (a.put oi.dst v) w→pX P ops Q S (fuel+1) d I a w:=by
 intro fuel
 induction fuel with
 | zero =>
  intro d I a w _ _ X hy hS H;refine⟨fun h=>(by rw[h]at X;cases X),fun j hj=>?_⟩;by_cases u:j=i
  ·subst u;exact hy.wpOp hi hS ⟨fun _=>hS,H⟩
  ·have:=ready_mono hj u
   rw[H.1]at this;cases this
 | succ fuel ih =>
  intro d I a w hc J X hy hS H;refine⟨fun h=>(by rw[h]at X;cases X),fun j hj=>?_⟩;by_cases u:j=i
  ·subst u;refine hy.wpOp hi hS ⟨fun _=>hS,xm _ _ _ _ _ _ (fun x hx=>?_) H⟩;unfold oY at hx;exact List.mem_cons_of_mem _ (List.mem_filter.1 hx).1
  ·have O:=H.2 j (ready_mono hj u);rw[Nb hc hj X]at O;obtain⟨U,oj,ad,al⟩:=mem_ready.1 hj;have an:∀e∈oj.after,Region.binds .any e=true→e.on≠i:=fun e he hb ar=>by
    have O:=al e he hb;have h0:=(mem_ready.1 X).1;rw[ar]at O;rcases Nat.lt_or_ge i d.size with h'|h'
    ·simp[h']at h0 O;rw[h0]at O;cases O
    ·simp[Array.getElem?_eq_none h']at O
   have h2:=wpOp_putIf ad (J j oj ad u U an) (fun cs b=>Z i oi cs b hi) (fun cs b=>Z j oj cs b ad) hQ hy O;have M:∀k ok,ops[k]? = some ok→k≠i→(d.setIfInBounds j true).getD k true=false →
     (∀e∈ok.after,Region.binds .any e=true→e.on≠i)→oi.apart ops ok=true:=fun k ok hk av ap az=>by
    refine J k ok hk av ?_ az;by_cases am:j=k
    ·subst am;exact U
    ·rw[getD_set_ne true am]at ap;exact ap
   refine wpOp_mono (fun a' w' h3=>?_) h2;have ag:S w':=h3.2.1 (by simp);refine⟨fun _=>ag,ih (d.setIfInBounds j true) _ a' w' (th hc hj) M (ready_mono X (Ne.symm u)) h3.1 ag ?_⟩;rw[Array.setIfInBounds_comm _ _ u];exact h3.2.2
theorem Nl {i:Nat}{oi:Oper}{v:Value}(hi:ops[i]? = some oi)(U:∀(j:Nat) (o:Oper) cs b,ops[j]? = some o→o.op≠.select cs b)(hQ:∀c a w,Q (.panic c) (a.put oi.dst v) w→Q (.panic c) a w):∀(fuel:Nat) (d:Array Bool) (u:List Nat) (a:Act) (w:World),xo ops d →
   (∀j oj,ops[j]? = some oj→j≠i→d.getD j true=false→(∀e∈oj.after,Region.binds .any e=true→e.on≠i)→oi.apart ops oj=true) →
   i∈Region.ready .any ops d→YieldsIf P ops (fun _=>True) oi v a→(u≠[]→S w) →
   pX P ops Q S fuel (d.setIfInBounds i true) u (a.put oi.dst v) w→pX P ops Q S (fuel+1) d u a w:=by
 intro fuel
 induction fuel with
 | zero =>
  intro d u a w _ _ hr hy hS H;refine⟨fun h=>(by rw[h]at hr;cases hr),fun j hj=>?_⟩;by_cases I:j=i
  ·subst I;exact hy.wpOp hi trivial ⟨fun hh=>hS (fun h0=>hh (by rw[h0];rfl)),xm 0 _ _ u _ _ (fun x hx=>(List.mem_filter.1 hx).1) H⟩
  ·have:=ready_mono hj I
   rw[H.1]at this;cases this
 | succ fuel ih =>
  intro d u a w hc J hr hy hS H;refine⟨fun h=>(by rw[h]at hr;cases hr),fun j hj=>?_⟩;by_cases I:j=i
  ·subst I;exact hy.wpOp hi trivial ⟨fun hh=>hS (fun h0=>hh (by rw[h0];rfl)),xm _ _ _ _ _ _ (fun x hx=>(List.mem_filter.1 hx).1) H⟩
  ·have X:=H.2 j (ready_mono hj I);obtain⟨O,oj,Z,ad⟩:=mem_ready.1 hj;have al:∀e∈oj.after,Region.binds .any e=true→e.on≠i:=fun e he hb an=>by
    have X:=ad e he hb;have h0:=(mem_ready.1 hr).1;rw[an]at X;rcases Nat.lt_or_ge i d.size with h'|h'
    ·simp[h']at h0 X;rw[h0]at X;cases X
    ·simp[Array.getElem?_eq_none h']at X
   have h2:=wpOp_putIf Z (J j oj Z I O al) (fun cs b=>U i oi cs b hi) (fun cs b=>U j oj cs b Z) hQ hy X;have M:∀k ok,ops[k]? = some ok→k≠i→(d.setIfInBounds j true).getD k true=false →
     (∀e∈ok.after,Region.binds .any e=true→e.on≠i)→oi.apart ops ok=true:=fun k ok hk ap am ar=>by
    refine J k ok hk ap ?_ ar;by_cases ag:j=k
    ·subst ag;exact O
    ·rw[getD_set_ne true ag]at am;exact am
   refine wpOp_mono (fun a' w' h3=>?_) h2;refine⟨h3.2.1,ih (d.setIfInBounds j true) _ a' w' (th hc hj) M (ready_mono hr (Ne.symm I)) h3.1 h3.2.1 ?_⟩;rw[Array.setIfInBounds_comm _ _ I];exact h3.2.2
theorem Cd {d:Array Bool}{j:List Nat}{a:Act}{w:World}(u:Region.ready .any ops d=[])(h:Q .normal a w):∀fuel,pX P ops Q S fuel d j a w
 | 0=>⟨u,h⟩
 | _+1=>⟨fun _=>h,by rw[u];simp⟩
end taken
theorem ID {ops:Array Oper}{K:KE}{Q:Exit→Act→World→Prop}(hK:∀e w,K e w→Q .normal ⟨e.toArray,ds⟩ w)(hQ:∀c a w,¬Q (.panic c) a w)(hs:Region.noSelect ops=true):∀(f:Nat) (d:Array Bool) (u:List Nat) (S:World→Prop) (e:Env) (w:World),S w→xo ops d→mw P ops K f d u S e w→pX P ops Q S f d u ⟨e.toArray,ds⟩ w:=by
 intro f
 induction f with
 | zero =>
  intro d u S e w Z hc h;simp only[mw]at h;cases hr:(Region.ready .any ops d).isEmpty
  case false=>rw[hr]at h;exact h.elim
  case true =>
   rw[hr]at h;exact Cd (List.isEmpty_iff.1 hr) (hK _ _ h) 0
 | succ f ih =>
  intro d u S e w Z hc h;simp only[mw]at h;cases hr:(Region.ready .any ops d).isEmpty
  case true =>
   rw[hr]at h;exact Cd (List.isEmpty_iff.1 hr) (hK _ _ h) _
  case false =>
   rw[hr]at h;have av:Region.ready .any ops d≠[]:=fun I=>by rw[I]at hr;cases hr
   dsimp only at h;cases hf:(Region.ready .any ops d).find? (IC ops d)with
   | some i =>
    rw[hf]at h;have h:hAt ops i _:=h;have U:=List.mem_of_find?_eq_some hf;have M:=List.find?_some hf;unfold IC at M;unfold hAt at h;cases ho:ops[i]? with
    | none=>rw[ho]at h;exact h.elim
    | some o =>
     rw[ho]at h M;simp only[Bool.and_eq_true]at M;cases ad:OH o with
     | true =>
      dsimp only at h;rw[ad]at h;obtain⟨v,hv,hk⟩:=NA h;have J:o.guard=none:=by
       unfold OH at ad;cases hg:o.guard with
       | none=>rfl
       | some _=>rw[hg]at ad;cases ad
      have hy:YieldsIf P ops (fun _=>True) o v ⟨e.toArray,ds⟩:=.inl ⟨by simp[Region.wanted,J],fun w Z=>by
       obtain⟨v',w',ag,rfl,rfl⟩:=Jp M.1 (hv w Z);exact ag⟩
      refine Nl ho (Region.noSelect_spec hs) (fun c a w I=>absurd I (hQ _ _ _)) (v:=v) _ _ _ _ _ hc (Region.free_spec ho M.2) U hy (fun _=>Z) ?_;rw[tt];exact ih _ _ _ _ _ Z (th hc U) hk
     | false =>
     dsimp only at h;rw[ad]at h;have az:∃v,YieldsIf P ops S o v ⟨e.toArray,ds⟩∧mw P ops K f (d.setIfInBounds i true) (i::u) S (pt e o.dst v) w:=by
      dsimp only at h;unfold Rm at h;cases J:o.guard with
      | none =>
       rw[J]at h;obtain⟨v,hv,hk⟩:=NA h;refine⟨v,.inl ⟨by simp[Region.wanted,J],fun w Z=>?_⟩,hk⟩;obtain⟨v',w',ag,rfl,rfl⟩:=Jp M.1 (hv w Z);exact ag
      | some jw =>
       obtain⟨j,O⟩:=jw;rw[J]at h;obtain⟨v,hv,hu,hk⟩:=h;have hw:=td ops.toList e o j O J;rw[show ops.toList.toArray=ops from rfl]at hw;refine⟨v,?_,hk⟩;by_cases ha:asB (ph ops.toList e j)=some O
       ·refine .inl ⟨by rw[hw,ha];simp,fun w Z=>?_⟩;obtain⟨v',w',ag,rfl,rfl⟩:=Jp M.1 (hv ha w Z);exact ag
       ·exact .inr ⟨by rw[hw];simpa using ha,hu ha⟩
     obtain⟨v,hy,hk⟩:=az;refine MV ho (Region.noSelect_spec hs) (fun c a w I=>absurd I (hQ _ _ _)) (v:=v) _ _ _ _ _ hc (Region.free_spec ho M.2) U hy Z ?_;rw[tt];exact ih _ _ _ _ _ Z (th hc U) hk
   | none =>
    rw[hf]at h;refine⟨fun h0=>absurd h0 av,fun i hi=>?_⟩;have X:=Py _ h i hi;unfold hAt at X;cases ho:ops[i]? with
    | none=>rw[ho]at X;exact X.elim
    | some o =>
     rw[ho]at X;have an:∀(v:Value) (w':World),(match oY ops u i with
       | [] =>
        match (Region.ready .any ops (d.setIfInBounds i true)).isEmpty with
        | true=>mw P ops K f (d.setIfInBounds i true) [] S (pt e o.dst v) w'
        | false=>aG (fun S w=>mw P ops K f (d.setIfInBounds i true) [] S (pt e o.dst v) w) w'
       | p::ps=>aY S (fun S w=>mw P ops K f (d.setIfInBounds i true) (p::ps) S (pt e o.dst v) w) w') →
       (oY ops u i≠[]→S w')∧pX P ops Q S f (d.setIfInBounds i true) (oY ops u i) ⟨(pt e o.dst v).toArray,ds⟩ w':=by
      intro v w' I;cases hl:oY ops u i with
      | nil =>
       rw[hl]at I;dsimp only at I;refine⟨fun h0=>absurd rfl h0,?_⟩;cases al:(Region.ready .any ops (d.setIfInBounds i true)).isEmpty with
       | true =>
        rw[al]at I;have I:mw P ops K f (d.setIfInBounds i true) [] S (pt e o.dst v) w':=I
        have:K (pt e o.dst v) w':=by
         cases f with
         | zero=>simp only[mw,al]at I;exact I
         | succ f=>simp only[mw,al]at I;exact I
        exact Cd (List.isEmpty_iff.1 al) (hK _ _ this) _
       | false =>
        rw[al]at I;obtain⟨S2,am,I⟩:=I;exact KG _ _ _ _ (zA _ _ _ _ _ (ih _ _ _ _ _ am (th hc hi) I))
      | cons p ps =>
       rw[hl]at I;obtain⟨S2,am,ar,I⟩:aY S (fun S w=>mw P ops K f (d.setIfInBounds i true) (p::ps) S (pt e o.dst v) w) w':=I;exact⟨fun _=>am _ ar,MU am _ _ _ _ _ (ih _ _ _ _ _ ar (th hc hi) I)⟩
     refine wpOp_step ho fun K' ap=>?_;dsimp only at X;unfold QP at X;cases J:o.guard with
     | none =>
      rw[J]at X;rw[if_pos (by simp[Region.wanted,J])];exact xn X fun v w' I=>ap _ _ (an v w' I)
     | some jw =>
      obtain⟨j,O⟩:=jw;rw[J]at X;have hw:=td ops.toList e o j O J;rw[show ops.toList.toArray=ops from rfl]at hw;by_cases ha:asB (ph ops.toList e j)=some O
      ·rw[if_pos (by rw[hw,ha];simp)];exact xn (X.1 ha) fun v w' I=>ap _ _ (an v w' I)
      ·rw[if_neg (by rw[hw];simpa using ha)];refine ap _ _ ?_;rw[tt];exact an undef w (X.2 ha)
theorem GC (ops:Array Oper)(n:Nat):xo ops (Array.replicate n false):=by
 intro j o _ h;rcases Nat.lt_or_ge j n with d|d
 ·simp[Array.getD,d]at h
 ·simp[Array.getD,Nat.not_lt.2 d]at h
theorem IE {ops:Array Oper}(h:FS P ops=true):Region.noSelect ops=true:=by
 simp only[FS,Bool.and_eq_true]at h;exact h.1
theorem xh :∀(c:Code) (N:KE) (X:Nat→KE) (R:KE) (e:Env) (w:World),ae P c N X R e w→c.wp P (QQ ds N X R) ⟨e.toArray,ds⟩ w:=by
 intro c
 induction c with
 | skip=>intro N X R e w h;exact wp_skip ⟨e,rfl,h⟩
 | region id ops draw =>
  intro N X R e w h;cases draw with
  | true =>
   simp only[ae]at h;cases U:(P.follows .mixedOrders&&FS P ops)
   case true =>
    rw[U]at h;obtain⟨S,hS,h⟩:=h;simp only[Bool.and_eq_true]at U;exact wp_region_any U.1 (zA _ _ _ _ _ (ID (fun e w hN=>⟨e,rfl,hN⟩) (fun c a w hh=>hh) (IE U.2) _ _ _ _ _ _ hS (GC ops _) h))
   case false =>
   rw[U]at h;dsimp only at h;cases O:(P.follows .mixedOrders&&Nat.ble (jC ops) ops.size)
   case false=>rw[O]at h;exact h.elim
   case true =>
    rw[O]at h;have h:wZ _ _ _ _ _ _:=h;simp only[Bool.and_eq_true]at O;obtain⟨d,j⟩:=qT (ops.toList.take (jC ops));obtain⟨h3,h4⟩:=qT (ops.toList.drop (jC ops));have J:∀e,fh P ops.toList (grp (ops.toList.drop (jC ops))) N e w.drew→wpList P ops.toList.toArray (QQ ds N X R) (ops.toList.drop (jC ops)) ⟨e.toArray,ds⟩ w.drew:=by
     intro e Z
     have:=yM (P:=P) (ops:=ops.toList) (Q:=QQ ds N X R) (K:=N) (fun e w h=>⟨e,rfl,h⟩) (grp (ops.toList.drop (jC ops))) e w.drew h4 Z
     rwa[h3]at this
    rcases Is ops O.2 with⟨hB,hn⟩|⟨hB,hn⟩
    ·have M:=zw (P:=P) (ops:=ops.toList) (Q:=fun a=>QQ ds N X R .normal a w.drew) (w:=w.drew) (fun e Z=>by
      have:=J e Z
      rw[hn,List.drop_of_length_le (by simp)]at this;exact this) _ e j h
     rw[d,hn,List.take_of_length_le (by simp)]at M;refine wp_region_still O.1 hB ?_;simpa using M
    ·have M:=zw (P:=P) (ops:=ops.toList) (Q:=fun a=>wpList P ops.toList.toArray (QQ ds N X R) (ops.toList.drop (jC ops)) a w.drew) (w:=w.drew) (fun e Z=>J e Z) _ e j h;rw[d]at M
     have:=wp_region_still_tail (P:=P) (id:=id) (Q:=QQ ds N X R) (a:=⟨e.toArray,ds⟩) (w:=w) (l:=ops.toList) (jC ops) O.1 (by simpa using hB) M
     simpa using this
  | false =>
   refine wp_region_list ?_;obtain⟨d,j⟩:=qT ops.toList
   have:=yM (P:=P) (ops:=ops.toList) (Q:=QQ ds N X R) (K:=N) (fun e w h=>⟨e,rfl,h⟩) (grp ops.toList) e w j h
   rw[d]at this;simpa using this
 | seq a b iha ihb =>
  intro N X R e w h;refine wp_seq (wp_mono (iha _ _ _ _ _ h) ?_);intro x a w u;cases x with
  | normal=>obtain⟨e,rfl,h⟩:=u;exact ihb _ _ _ _ _ h
  | _=>exact u
 | cond c x y ihx ihy =>
  intro N X R e w h;obtain⟨b,hb,d,j⟩:=h;cases b with
  | true=>exact wp_cond (t:=true) (by rw[pY];exact hb) (ihx _ _ _ _ _ (d rfl))
  | false=>exact wp_cond (t:=false) (by rw[pY];exact hb) (ihy _ _ _ _ _ (j rfl))
 | block id c ih =>
  intro N X R e w h;refine wp_block (wp_mono (ih _ _ _ _ _ h) ?_);intro x a w u;cases x with
  | exit i =>
   obtain⟨e,rfl,h⟩:=u;simp only[Exit.inBlock];by_cases hi:i=id
   ·rw[if_pos hi]
    have:Nat.beq i id=true:=by rw[hi];exact Nat.beq_refl id
    rw[this]at h;exact⟨e,rfl,h⟩
   ·rw[if_neg hi]
    have:Nat.beq i id=false:=by
     cases hb:Nat.beq i id with
     | false=>rfl
     | true=>exact absurd (Nat.eq_of_beq_eq_true hb) hi
    rw[this]at h;exact⟨e,rfl,h⟩
  | _=>exact u
 | loop c ih =>
  intro N X R e w h;obtain⟨I,μ,h0,M⟩:=h;refine wp_loop (fun a w=>∃e:Env,a=⟨e.toArray,ds⟩∧I e w) (fun a w=>μ a.tmps.toList w) ⟨e,rfl,h0⟩ ?_;rintro _ w' ⟨e',rfl,hI⟩;refine wp_mono (ih _ _ _ _ _ (M e' w' hI)) ?_;intro x a w u;cases x with
  | normal=>obtain⟨e2,rfl,d,j⟩:=u;exact⟨⟨e2,rfl,d⟩,by simpa using j⟩
  | _=>exact u
 | exit i=>intro N X R e w h;exact wp_exit ⟨e,rfl,h⟩
 | ret=>intro N X R e w h;exact wp_ret ⟨e,rfl,h⟩
 | _=>intro N X R e w h;exact h.elim
def oB (l:List (Option TypeId×Value)):Sem Value:=do
 let vs ←l.toArray.mapM fun|(none,v)=>pure v|(some t,a)=>do loadVar t (←asAddr a)
 pure (if h:vs.size=1 then vs[0]else .tuple vs)
def bp (P:Program)(l:List (Option TypeId×Value))(K:KV)(w:World):Prop:=match (oB l).run P w with | .ok v w' => w'=w∧K v w|_=>False
def Fu (rs:List ResultVar)(e:Env):List (Option TypeId×Value):=rs.map fun | .tmp t=>(none,gd e t) | .cell a t=>(some t,gd e a)
def vC (P:Program)(rs:List ResultVar)(K:KV)(e:Env)(w:World):Prop :=
 match rs with
 | []=>K (.tuple #[]) w
 | [.tmp t]=>K (gd e t) w
 | [.tmp t,.tmp u]=>K (.tuple #[gd e t,gd e u]) w
 | [.tmp t,.tmp u,.tmp v]=>K (.tuple #[gd e t,gd e u,gd e v]) w
 | [.tmp t,.tmp u,.tmp v,.tmp x]=>K (.tuple #[gd e t,gd e u,gd e v,gd e x]) w
 | rs=>bp P (Fu rs e) K w
theorem OP (d:Func)(e:Env)(w:World):(results d e.toArray).run P w=(oB (Fu d.results.toList e)).run P w:=by
 unfold results oB Fu
 have:((d.results.toList.map fun | .tmp t=>((none,gd e t):Option TypeId×Value) | .cell a t=>(some t,gd e a))).toArray=d.results.map (fun | .tmp t=>((none,gd e t):Option TypeId×Value) | .cell a t=>(some t,gd e a)):=by
  rw[←Array.toList_map]
 rw[this,Array.mapM_map]
 congr 2
 congr 1
 funext x;cases x with
 | tmp t=>simp only[Function.comp,zS]
 | cell a t=>simp only[Function.comp,zS]
theorem tu {u:Func}{K:KV}{e:Env}{w:World}(h:vC P u.results.toList K e w):∃v,(results u e.toArray).run P w=.ok v w∧K v w:=by
 rw[OP];unfold vC at h;split at h
 ·rename_i d;rw[d];exact⟨_,by simp[oB,Fu],h⟩
 ·rename_i d;rw[d];exact⟨_,by simp[oB,Fu],h⟩
 ·rename_i d;rw[d];exact⟨_,by simp[oB,Fu],h⟩
 ·rename_i d;rw[d];exact⟨_,by simp[oB,Fu],h⟩
 ·rename_i d;rw[d];exact⟨_,by simp[oB,Fu],h⟩
 ·unfold bp at h;split at h
  ·rename_i v w' j;obtain⟨rfl,I⟩:=h;exact⟨v,j,I⟩
  ·exact h.elim
theorem enter {f:FuncId}{d:Func}{c:Code}{args:List Value}{w:World}{K:KV}(O:P.funcs[f]? = some d)(M:d.body=some c)(h:ae P c (vC P d.results.toList K) (fun _ _ _=>False) (vC P d.results.toList K) (args++List.replicate (d.ntmps-args.length) undef) w):Gives P f args.toArray w K:=by
 refine calls_of_wp O M ?_;have J:args.toArray++Array.replicate (d.ntmps-args.toArray.size) undef=(args++List.replicate (d.ntmps-args.length) undef).toArray:=by simp
 rw[J];refine wp_mono (xh c _ _ _ _ _ h) ?_;intro x a w j;cases x with
 | normal=>obtain⟨e,rfl,h⟩:=j;obtain⟨v,u,I⟩:=tu h;exact⟨rfl,v,u,v,rfl,I⟩
 | ret=>obtain⟨e,rfl,h⟩:=j;obtain⟨v,u,I⟩:=tu h;exact⟨rfl,v,u,v,rfl,I⟩
 | exit i=>obtain⟨_,_,h⟩:=j;exact h.elim
 | _=>exact j.elim
/-! ## What a piece of code does not write stays. -/

def wr :Code→List Nat
 | .region _ ops _=>fi ops.toList
 | .seq a b=>wr a++wr b
 | .cond _ x y=>wr x++wr y
 | .block _ c=>wr c
 | .loop c=>wr c
 | _=>[]
theorem uD :∀(ds:List Nat) (vs:List Value) (e:Env),agree ds e (vG e ds vs):=by
 intro ds vs e;refine⟨?_,fun i hi=>by simp only[gd,List.getD,vG,Qp vs ds 0 e i hi]⟩
 have:∀(ds:List Nat) (k:Nat) (e:Env),(tx vs ds k e).length=e.length:=by
  intro ds
  induction ds with
  | nil=>intro k e;rfl
  | cons d ds ih=>intro k e;simp only[tx];rw[ih];simp
 exact this ds 0 e
theorem Il {ops:List Oper}:∀(d:List (Option (Nat×Bool)×List Oper)) {K K':KE} {e:Env} {w:World},fh P ops d K e w →
  (∀I Z,agree (fi (d.flatMap (·.2))) e I→K I Z→K' I Z)→fh P ops d K' e w:=by
 intro d
 induction d with
 | nil=>intro K K' e w h u;exact u _ _ (agree.refl _ _) h
 | cons g d ih =>
  intro K K' e w h u;obtain⟨M,l⟩:=g;have hd:fi (((M,l)::d).flatMap (·.2))=fi l++fi (d.flatMap (·.2)):=by simp[fi,List.filterMap_append]
  rw[hd]at u;cases M with
  | none=>exact CS l h fun I Z ha h2=>ih h2 fun J X O=>u J X (ha.trans O)
  | some jw =>
   obtain⟨j,ad⟩:=jw;simp only[fh]at h ⊢;cases U:((ops[j]?).bind (·.dst)).any ((fi l).contains ·)
   case true=>rw[U]at h;exact h.elim
   case false =>
    rw[U]at h;have h:aI _ _ _ _ _:=h;show aI _ _ _ _ _;refine⟨fun hv=>?_,fun hv=>?_⟩
    ·refine CS l (h.1 hv) ?_;intro I Z ha h2;exact ih h2 fun J X O=>u J X ((uD _ _ _).trans O)
    ·exact ih (h.2 hv) fun J X O=>u J X ((uD _ _ _).trans O)
theorem OR {ops:List Oper}:∀(d:List (Option (Nat×Bool)×List Oper)) {K K':KE} {e:Env} {w:World},wZ P ops d K e w →
  (∀I,agree (fi (d.flatMap (·.2))) e I→K I w→K' I w)→wZ P ops d K' e w:=by
 intro d
 induction d with
 | nil=>intro K K' e w h u;exact u _ (agree.refl _ _) h
 | cons g d ih =>
  intro K K' e w h u;obtain⟨M,l⟩:=g;have hd:fi (((M,l)::d).flatMap (·.2))=fi l++fi (d.flatMap (·.2)):=by simp[fi,List.filterMap_append]
  rw[hd]at u;cases M with
  | none=>exact DU l h fun I ha X=>ih X fun J O=>u J (ha.trans O)
  | some jw =>
   obtain⟨j,ad⟩:=jw;simp only[wZ]at h ⊢;cases U:((ops[j]?).bind (·.dst)).any ((fi l).contains ·)
   case true=>rw[U]at h;exact h.elim
   case false =>
    rw[U]at h;have h:aI _ _ _ _ _:=h;show aI _ _ _ _ _;refine⟨fun Z=>?_,fun Z=>?_⟩
    ·refine DU l (h.1 Z) ?_;intro I ha X;exact ih X fun J O=>u J ((uD _ _ _).trans O)
    ·exact ih (h.2 Z) fun J O=>u J ((uD _ _ _).trans O)
theorem Ox {ops:Array Oper}{K K':KE}:∀(f:Nat) (d:Array Bool) (I:List Nat) (S:World→Prop) (e:Env) (w:World),mw P ops K f d I S e w→(∀Z w2,agree (fi ops.toList) e Z→K Z w2→K' Z w2)→mw P ops K' f d I S e w:=by
 intro f;have al:∀{i:Nat} {o:Oper} (e:Env) (v:Value),ops[i]? = some o→agree (fi ops.toList) e (pt e o.dst v):=by
  intro i o e v J;refine(CQ e o.dst v).mono fun k O=>?_;have hm:o∈ops.toList:=by have:=Array.mem_of_getElem? J;simpa using this
  simp only[fi,List.mem_filterMap];exact⟨o,hm,by simpa using O⟩
 induction f with
 | zero =>
  intro d I S e w h O;simp only[mw]at h ⊢;cases hr:(Region.ready .any ops d).isEmpty
  case false=>rw[hr]at h;exact h
  case true=>rw[hr]at h;exact O _ _ (agree.refl _ _) h
 | succ f ih =>
  intro d I S e w h O;simp only[mw]at h ⊢;cases hr:(Region.ready .any ops d).isEmpty
  case true=>rw[hr]at h;exact O _ _ (agree.refl _ _) h
  case false =>
   rw[hr]at h;dsimp only at h ⊢;have j:∀{i:Nat} {o:Oper} (p:List Nat) (S:World→Prop) (v:Value) (w':World),ops[i]? = some o→mw P ops K f (d.setIfInBounds i true) p S (pt e o.dst v) w'→mw P ops K' f (d.setIfInBounds i true) p S (pt e o.dst v) w':=by
    intro i o p S v w' J u;exact ih _ _ _ _ _ u fun Z w2 ha=>O Z w2 (((al e v J).trans ha).mono (fun k O=>by simpa using O))
   cases hf:(Region.ready .any ops d).find? (IC ops d)with
   | some i =>
    rw[hf]at h;have h:hAt ops i _:=h;show hAt ops i _;unfold hAt at *;cases J:ops[i]? with
    | none=>rw[J]at h;exact h.elim
    | some o =>
     rw[J]at h;dsimp only at h ⊢;cases ad:OH o with
     | true =>
      rw[ad]at h;dsimp only at h ⊢;unfold hOp at *;split at h
      ·exact j _ _ _ _ J h
      ·exact j _ _ _ _ J h
      ·exact j _ _ _ _ J h
      ·obtain⟨v,hv,u⟩:=h;exact⟨v,hv,j _ _ _ _ J u⟩
     | false =>
     rw[ad]at h;dsimp only at h ⊢;unfold Rm at *;cases M:o.guard with
     | some jw =>
      rw[M]at h;obtain⟨v,hv,hu,u⟩:=h;exact⟨v,hv,hu,j _ _ _ _ J u⟩
     | none =>
     rw[M]at h;dsimp only at h ⊢;unfold hOp at *;split at h
     ·exact j _ _ _ _ J h
     ·exact j _ _ _ _ J h
     ·exact j _ _ _ _ J h
     ·obtain⟨v,hv,u⟩:=h;exact⟨v,hv,j _ _ _ _ J u⟩
   | none =>
    rw[hf]at h;refine Ow (fun i u=>?_) _ h;unfold hAt at *;cases J:ops[i]? with
    | none=>rw[J]at u;exact u.elim
    | some o =>
     rw[J]at u;have U:∀(v:Value) (w':World),(match oY ops I i with
       | [] =>
        match (Region.ready .any ops (d.setIfInBounds i true)).isEmpty with
        | true=>mw P ops K f (d.setIfInBounds i true) [] S (pt e o.dst v) w'
        | false=>aG (fun S w=>mw P ops K f (d.setIfInBounds i true) [] S (pt e o.dst v) w) w'
       | p::ps=>aY S (fun S w=>mw P ops K f (d.setIfInBounds i true) (p::ps) S (pt e o.dst v) w) w')→(match oY ops I i with
       | [] =>
        match (Region.ready .any ops (d.setIfInBounds i true)).isEmpty with
        | true=>mw P ops K' f (d.setIfInBounds i true) [] S (pt e o.dst v) w'
        | false=>aG (fun S w=>mw P ops K' f (d.setIfInBounds i true) [] S (pt e o.dst v) w) w'
       | p::ps=>aY S (fun S w=>mw P ops K' f (d.setIfInBounds i true) (p::ps) S (pt e o.dst v) w) w'):=by
      intro v w' u;cases hl:oY ops I i with
      | nil =>
       rw[hl]at u;dsimp only at u ⊢;cases ag:(Region.ready .any ops (d.setIfInBounds i true)).isEmpty with
       | true=>rw[ag]at u;exact j _ _ _ _ J u
       | false=>rw[ag]at u;obtain⟨S2,X,u⟩:=u;exact⟨S2,X,j _ _ _ _ J u⟩
      | cons p ps =>
       rw[hl]at u;obtain⟨S2,X,am,u⟩:aY S (fun S w=>mw P ops K f (d.setIfInBounds i true) (p::ps) S (pt e o.dst v) w) w':=u;exact⟨S2,X,am,j _ _ _ _ J u⟩
     dsimp only at u ⊢;unfold QP at *;cases M:o.guard with
     | some jw =>
      rw[M]at u;exact⟨fun ha=>zI U (u.1 ha),fun ha=>U _ _ (u.2 ha)⟩
     | none =>
      rw[M]at u;exact zI U u
theorem xg :∀(c:Code) {N N':KE} {X X':Nat→KE} {R R':KE} {e:Env} {w:World},ae P c N X R e w→(∀e2 d,agree (wr c) e e2→N e2 d→N' e2 d) →
  (∀i e2 d,agree (wr c) e e2→X i e2 d→X' i e2 d)→(∀e2 d,agree (wr c) e e2→R e2 d→R' e2 d)→ae P c N' X' R' e w:=by
 intro c
 induction c with
 | skip=>intro N N' X X' R R' e w h hN J u;exact hN _ _ (agree.refl _ _) h
 | region id ops draw =>
  intro N N' X X' R R' e w h hN J u;cases draw with
  | true =>
   simp only[ae]at h ⊢;cases hd:(P.follows .mixedOrders&&FS P ops)
   case true =>
    rw[hd]at h;obtain⟨S,hS,h⟩:=h;exact⟨S,hS,Ox _ _ _ _ _ _ h hN⟩
   case false =>
   rw[hd]at h;dsimp only at h ⊢;cases hf:(P.follows .mixedOrders&&Nat.ble (jC ops) ops.size)
   case false=>rw[hf]at h;exact h.elim
   case true =>
    rw[hf]at h;have h:wZ _ _ _ _ _ _:=h;show wZ _ _ _ _ _ _;have hd:wr (.region id ops true)=fi (ops.toList.take (jC ops))++fi (ops.toList.drop (jC ops)):=by
     show fi ops.toList=_;simp only[fi];rw[←List.filterMap_append,List.take_append_drop]
    rw[hd]at hN;refine OR _ h ?_;rw[(qT (ops.toList.take (jC ops))).1];intro e2 j Z;refine Il _ Z ?_;rw[(qT (ops.toList.drop (jC ops))).1];intro U w3 O h3;exact hN U w3 (j.trans O) h3
  | false =>
   refine Il _ h ?_;rw[(qT ops.toList).1];exact hN
 | seq a b iha ihb =>
  intro N N' X X' R R' e w h hN J u;have hl:∀i∈wr a,i∈wr (.seq a b):=fun i hi=>List.mem_append_left _ hi;refine iha h ?_ (fun i e2 d j=>J i e2 d (j.mono hl)) (fun e2 d j=>u e2 d (j.mono hl));intro e2 d j Z;exact ihb Z (fun U w3 O=>hN U w3 (j.trans O)) (fun i U w3 O=>J i U w3 (j.trans O)) (fun U w3 O=>u U w3 (j.trans O))
 | cond c x y ihx ihy =>
  intro N N' X X' R R' e w h hN J u;have hl:∀i∈wr x,i∈wr (.cond c x y):=fun i hi=>List.mem_append_left _ hi;have hr:∀i∈wr y,i∈wr (.cond c x y):=fun i hi=>List.mem_append_right _ hi;obtain⟨b,O,h1,Z⟩:=h;exact⟨b,O,fun hh=>ihx (h1 hh) (fun e2 d j=>hN e2 d (j.mono hl)) (fun i e2 d j=>J i e2 d (j.mono hl)) (fun e2 d j=>u e2 d (j.mono hl)),
   fun hh=>ihy (Z hh) (fun e2 d j=>hN e2 d (j.mono hr)) (fun i e2 d j=>J i e2 d (j.mono hr)) (fun e2 d j=>u e2 d (j.mono hr))⟩
 | block id c ih =>
  intro N N' X X' R R' e w h hN J u;refine ih h hN ?_ u;intro i e2 d j hx;cases hi:Nat.beq i id
  ·rw[hi]at hx;exact J i e2 d j hx
  ·rw[hi]at hx;exact hN e2 d j hx
 | loop c ih =>
  intro N N' X X' R R' e w h hN J u;obtain⟨I,μ,h0,hs⟩:=h;refine⟨fun e' w' => I e' w'∧agree (wr c) e e',μ,⟨h0,agree.refl _ _⟩,?_⟩;rintro e' w' ⟨hI,ad⟩;have M:∀e2,agree (wr c) e' e2→agree (wr c) e e2:=fun e2 j=>(ad.trans j).mono (fun i hi=>by simpa using hi)
  exact ih (hs e' w' hI) (fun e2 d j ⟨h1,Z⟩=>⟨⟨h1,M e2 j⟩,Z⟩) (fun i e2 d j=>J i e2 d (M e2 j)) (fun e2 d j=>u e2 d (M e2 j))
 | exit i=>intro N N' X X' R R' e w h hN J u;exact J i _ _ (agree.refl _ _) h
 | ret=>intro N N' X X' R R' e w h hN J u;exact u _ _ (agree.refl _ _) h
 | _=>intro N N' X X' R R' e w h hN J u;exact h.elim
def mix (ws:List Nat)(e':Env):Nat→Env→Env
 | _,[]=>[]
 | k,v::e=>(if ws.contains k then gd e' k else v)::mix ws e' (k+1) e
theorem TB (d:List Nat)(e':Env):∀(e:Env) (k i:Nat),(mix d e' k e)[i]? = (e[i]?).map fun v=>if d.contains (k+i)then gd e' (k+i)else v:=by
 intro e
 induction e with
 | nil=>intro k i;simp[mix]
 | cons v e ih =>
  intro k i;cases i with
  | zero=>simp[mix]
  | succ i=>simp only[mix,List.getElem?_cons_succ,ih];rw[show k+1+i=k+(i+1)by omega]
theorem Ks {J:List Nat}{e e':Env}(h:agree J e e'):mix J e' 0 e=e':=by
 apply List.ext_getElem?;intro i;rw[TB,Nat.zero_add];by_cases hi:i<e.length
 ·have d:i<e'.length:=by rw[h.1];exact hi
  rw[List.getElem?_eq_getElem hi,List.getElem?_eq_getElem d];have j:gd e' i=e'[i]:=by simp[gd,List.getD,d]
  by_cases I:J.contains i=true
  ·simp[j];intro M;exact absurd (by simpa using I) M
  ·have u:=h.2 i (by simpa using I);rw[j]at u
   have:gd e i=e[i]:=by simp[gd,List.getD,hi]
   rw[this]at u;simp only[Option.map_some,I];simp[u]
 ·have d:¬i<e'.length:=by rw[h.1];exact hi
  simp[List.getElem?_eq_none (Nat.le_of_not_lt hi),List.getElem?_eq_none (Nat.le_of_not_lt d)]
theorem aL (c:Code)(ws:List Nat)(J:(wr c).all (ws.contains ·)=true)(I:KE)(μ:Env→World→Nat){N:KE}{X:Nat→KE}{R:KE}{e:Env}{w:World}(O:I e w)(hs:∀e' w',I e' w'→ae P c (fun u M=>I u M∧μ u M<μ e' w') X R (mix ws e' 0 e) w'):ae P (.loop c) N X R e w:=by
 have j:∀i∈wr c,i∈ws:=fun i hi=>by simpa using List.all_eq_true.1 J i hi
 refine⟨fun e' w' => I e' w'∧agree ws e e',μ,⟨O,agree.refl _ _⟩,?_⟩;rintro e' w' ⟨hI,d⟩;have h:=hs e' w' hI;rw[Ks d]at h;exact xg c h (fun u M ha ⟨U,Z⟩=>⟨⟨U,(d.trans (ha.mono j)).mono (fun i hi=>by simpa using hi)⟩,Z⟩) (fun _ _ _ _ h=>h) (fun _ _ _ h=>h)
def sub :List Nat→Code→Code
 | 0::p,.seq a _=>sub p a
 | 1::p,.seq _ b=>sub p b
 | 0::p,.cond _ x _=>sub p x
 | 1::p,.cond _ _ y=>sub p y
 | 0::p,.block _ c=>sub p c
 | 0::p,.loop c=>sub p c
 | [],c=>c
 | _,_=>.skip
def rep :List Nat→Code→Code→Code
 | 0::p,x,.seq a b=>.seq (rep p x a) b
 | 1::p,x,.seq a b=>.seq a (rep p x b)
 | 0::p,x,.cond c a b=>.cond c (rep p x a) b
 | 1::p,x,.cond c a b=>.cond c a (rep p x b)
 | 0::p,x,.block i c=>.block i (rep p x c)
 | 0::p,x,.loop c=>.loop (rep p x c)
 | [],x,_=>x
 | _,_,c=>c
def cd (f:Func)(p:List Nat):Code:=sub p (f.body.getD .skip)
theorem aB {f:FuncId}{d:Func}{args:List Value}{w:World}{K:KV}(I:P.funcs[f]? = some d)(u:d.body.isSome=true)(h:ae P (cd d []) (vC P d.results.toList K) (fun _ _ _=>False) (vC P d.results.toList K) (args++List.replicate (d.ntmps-args.length) undef) w):Gives P f args.toArray w K:=by
 cases j:d.body with
 | none=>simp[j]at u
 | some c =>
  refine enter I j ?_
  have:cd d []=c:=by simp[cd,j,sub]
  rw[this]at h;exact h
end sound
end Go.Proofs.YtkbhfjljieopoaaGreatDoor
