import Derived.WalkKit
import Derived.WalkSpells
import Derived.WalkLawsBesides
import Derived.KernelRfl
import Derived.Still
import Derived.StillTail
import Derived.OrdersHeld
import Derived.RegionTactic
namespace Go.Proofs.YtkbhfjljieopoaaGreatDoor
set_option maxRecDepth 100000
set_option maxHeartbeats 4000000
open Go.RowKit
def sq (l:List UInt8):ByteArray:=⟨l.toArray⟩
abbrev Env :=List Value
abbrev KV :=Value→World→Prop
abbrev KE :=Env→World→Prop
def gd (e:Env)(t:Nat):Value:=e.getD t undef
def ev (e:Env):Operand→Value
 | .tmp t=>gd e t
 | .const v=>v
 | .global g=>.pointer (some ⟨g,0,none⟩)
 | .func f=>.func (.func f) #[] #[]
def pt (e:Env)(d:Option Tmp)(v:Value):Env:=match d with|some d=>e.set d v|none=>e
def Gives (P:Program)(f:FuncId)(args:Array Value)(w:World)(K:KV):Prop :=
 Calls P f args w fun e w' => ∃v,e=.returned v∧K v w'
theorem Gives.mono {P:Program}{f:FuncId}{args:Array Value}{w:World}{K K':KV}(h:Gives P f args w K)(u:∀v w',K v w'→K' v w'):Gives P f args w K' :=
 Calls.mono h fun _ _ ⟨v,j,C⟩=>⟨v,j,u v _ C⟩
def okV (P:Program)(s:Sem Value)(K:KV)(w:World):Prop:=match s.run P w with | .ok v w' => K v w' | .halt _ _=>False
def okU (P:Program)(s:Sem Unit)(K:KV)(w:World):Prop:=match s.run P w with | .ok _ w' => K undef w' | .halt _ _=>False
theorem RU {P:Program}{s:Sem Value}{K K':KV}{w:World}(j:∀v w',K v w'→K' v w')(h:okV P s K w):okV P s K' w:=by
 unfold okV at *;split at h
 ·exact j _ _ h
 ·exact h.elim
theorem RT {P:Program}{s:Sem Unit}{K K':KV}{w:World}(j:∀v w',K v w'→K' v w')(h:okU P s K w):okU P s K' w:=by
 unfold okU at *;split at h
 ·exact j _ _ h
 ·exact h.elim
theorem gZ {P:Program}{s:Sem Value}{K:KV}{w w':World}{v:Value}(h:s.run P w=.ok v w')(j:K v w'):okV P s K w:=by
 unfold okV;rw[h];exact j
theorem IS {P:Program}{s:Sem Unit}{K:KV}{w w':World}{u:Unit}(h:s.run P w=.ok u w')(j:K undef w'):okU P s K w:=by
 unfold okU;rw[h];exact j
def isC :Operand→Bool | .const _=>true|_=>false
def UN (c:Bool)(v:Value):Operand:=match c with|true=>.const v|false=>.tmp 0
def eqG (op:BinOp)(t:TypeId)(cx cy:Bool)(a b:Value):Sem Unit:=eqGuard op t (UN cx a) (UN cy b) a b
theorem Po (h:BinOp)(t:TypeId)(x y:Operand)(a b:Value):eqGuard h t x y a b=eqG h t (isC x) (isC y) a b:=by
 unfold eqG eqGuard;cases x<;>cases y<;>rfl
section ops
variable (P:Program)
def bin (op:BinOp)(t:TypeId)(cx cy:Bool)(x y:Value)(K:KV)(w:World):Prop:=okV P (do eqG op t cx cy x y;binOp op t x y) K w
def un (op:UnOp)(x:Value)(K:KV)(w:World):Prop:=okV P (Op.unary op x) K w
def conv (s d:TypeId)(x:Value)(K:KV)(w:World):Prop:=okV P (convert s d x) K w
def EO (f:FuncId):Prop := ∃ fn,P.funcs[f]? = some fn∧(fn.name == "runtime.NumGoroutine")=false∧fn.body.isNone=false
def call (f:FuncId)(args:Array Value)(K:KV)(w:World):Prop:=EO P f∧Gives P f args w K
def bY (fv:Value)(args:Array Value)(K:KV)(w:World):Prop:=∃f first cap,fv=.func (.func f) first cap∧call P f (first++args++cap) K w
def blt (b:Builtin)(ats:Array TypeId)(ty:TypeId)(cs:Array Bool)(args:Array Value)(K:KV)(w:World):Prop :=
 match (builtin b ats ty cs args).run P w with | .ok (.value v) w' => K v w'|_=>False
def slc (t:TypeId)(x:Value)(lo hi mx:Option Value)(K:KV)(w:World):Prop:=okV P (Instr.sliceAt t x lo hi mx) K w
def aT (s:TypeId)(x:Value)(f:Nat)(K:KV)(w:World):Prop:=okV P (Instr.fieldAt s x f) K w
def fld (s:TypeId)(x:Value)(f:Nat)(K:KV)(w:World):Prop:=okV P (Instr.field s x f) K w
def aV (t:TypeId)(x i:Value)(K:KV)(w:World):Prop:=okV P (Instr.indexAt t x i) K w
def idx (t:TypeId)(x i:Value)(K:KV)(w:World):Prop:=okV P (Instr.index t x i) K w
def lkp (t:TypeId)(x i:Value)(ok:Bool)(K:KV)(w:World):Prop:=okV P (Instr.lookup t x i ok) K w
def dO (t:TypeId)(m k x:Value)(K:KV)(w:World):Prop:=okU P (Instr.mapUpdate t m k x) K w
def gY (t:TypeId)(m k:Value)(K:KV)(w:World):Prop:=okV P (Instr.mapEntry t m k) K w
def eSt (t:TypeId)(m s x:Value)(K:KV)(w:World):Prop:=okU P (Instr.entryStore t m s x) K w
def rng (t:TypeId)(x:Value)(K:KV)(w:World):Prop:=okV P (Instr.range t x) K w
def nxt (it:Value)(str:Bool)(ty:TypeId)(K:KV)(w:World):Prop:=okV P (Instr.next it str ty) K w
def ent (it:Value)(K:KV)(w:World):Prop:=okV P (Instr.entry it) K w
def ext (t:Value)(i:Nat)(K:KV)(w:World):Prop:=okV P (Instr.extract t i) K w
def alc (t:TypeId)(K:KV)(w:World):Prop:=okV P (Instr.alloc t true (.tuple #[])) K w
def box (t:TypeId)(x:Value)(K:KV)(w:World):Prop:=okV P (Instr.box t x) K w
def bld (t:TypeId)(ps:Array (Nat×Value))(K:KV)(w:World):Prop:=okV P (Instr.build t ps) K w
def bT (t:TypeId)(n:Nat)(ps:Array (Nat×Value))(K:KV)(w:World):Prop:=okV P (Instr.buildSlice t n ps) K w
def ld (t:TypeId)(a:Value)(K:KV)(w:World):Prop:=okV P (Instr.loadAt t a) K w
def sto (t:TypeId)(a x:Value)(K:KV)(w:World):Prop:=okU P (Instr.storeAt t a x) K w
def aU (x:Value)(K:KV)(w:World):Prop :=
 match x with
 | .pointer (some a)=>K (.pointer (some a)) w
 | .func (.func f) first cap=>K (.func (.func f) first cap) w
 | _=>False
def dE (t:TypeId)(r:Option Value)(K:KV)(w:World):Prop:=okV P (Instr.makeMap t r) K w
def mkS (t:TypeId)(l c:Value)(K:KV)(w:World):Prop:=okV P (Instr.makeSlice t l c) K w
def ifc (t:TypeId)(x:Value)(K:KV)(w:World):Prop:=okV P (Instr.makeInterface t x) K w
def pick (c x y:Value)(K:KV)(w:World):Prop:=∃b,c=.bool b∧K (if b then x else y) w
def rdy (g:Nat)(K:KV)(w:World):Prop:=okU P (Instr.ready g) K w
def wts (g:Nat)(K:KV)(w:World):Prop:=okV P (Instr.waits g) K w
def cOp (r:Operand→Value)(o:Oper)(K:KV)(w:World):Prop :=
 match o.op with
 | .move x=>K (r x) w
 | .assign x=>K (r x) w
 | .pick c a b=>pick (r c) (r a) (r b) K w
 | .alloc t=>alc P t K w
 | .box t x=>box P t (r x) K w
 | .build t ps=>bld P t (ps.toList.map fun p=>(p.1,r p.2)).toArray K w
 | .buildSlice t n ps=>bT P t n (ps.toList.map fun p=>(p.1,r p.2)).toArray K w
 | .load t a=>ld P t (r a) K w
 | .store t a x=>sto P t (r a) (r x) K w
 | .ready g=>rdy P g K w
 | .waits g=>wts P g K w
 | .nilCheck x=>aU (r x) K w
 | .binOp op t x y _=>bin P op t (isC x) (isC y) (r x) (r y) K w
 | .unOp op _ x=>un P op (r x) K w
 | .convert s d x=>conv P s d (r x) K w
 | .makeInterface t x=>ifc P t (r x) K w
 | .makeFunc fn first cap=>K (.func fn (first.toList.map r).toArray (cap.toList.map r).toArray) w
 | .makeMap t rs=>dE P t (rs.map r) K w
 | .makeSlice t l c=>mkS P t (r l) (r c) K w
 | .slice t x lo hi mx=>slc P t (r x) (lo.map r) (hi.map r) (mx.map r) K w
 | .fieldAddr s x f=>aT P s (r x) f K w
 | .field s x f=>fld P s (r x) f K w
 | .indexAddr t x i=>aV P t (r x) (r i) K w
 | .index t x i=>idx P t (r x) (r i) K w
 | .lookup t x i ok=>lkp P t (r x) (r i) ok K w
 | .mapUpdate t m k x=>dO P t (r m) (r k) (r x) K w
 | .insert t m k x=>dO P t (r m) (r k) (r x) K w
 | .mapEntry t m k=>gY P t (r m) (r k) K w
 | .entryStore t m s x=>eSt P t (r m) (r s) (r x) K w
 | .range t x=>rng P t (r x) K w
 | .next it s=>nxt P (r it) s o.type K w
 | .entry it=>ent P (r it) K w
 | .extract t i=>ext P (r t) i K w
 | .call c =>
  match c.callee with
  | .value (.func f)=>call P f (c.args.toList.map r).toArray K w
  | .value x=>bY P (r x) (c.args.toList.map r).toArray K w
  | .builtin b=>blt P b c.argTypes o.type (c.args.toList.map isC).toArray (c.args.toList.map r).toArray K w
  | .invoke _ _=>False
 | _=>False
def asB :Value→Option Bool
 | .bool b=>some b
 | _=>none
def ph (ops:List Oper)(e:Env)(j:Nat):Value:=match (ops[j]?).bind (·.dst)with|some d=>gd e d|none=>undef
def fi (l:List Oper):List Nat:=l.filterMap (·.dst)
def grp :List Oper→List (Option (Nat×Bool)×List Oper)
 | []=>[]
 | o::rest =>
  match grp rest with
  | []=>[(o.guard,[o])]
  | (g,l)::gs=>if o.guard=g then (g,o::l)::gs else (o.guard,[o])::(g,l)::gs
def fT :List Oper→KE→Env→World→Prop
 | [],K,e,w=>K e w
 | o::r,K,e,w=>cOp P (ev e) o (fun v w' => fT r K (pt e o.dst v) w') w
def aI (v:Value)(want:Bool)(A B:(List Value→World→Prop)→Prop)(K:List Value→World→Prop):Prop:=(asB v=some want→A K)∧(asB v≠some want→B K)
def tx (us:List Value):List Nat→Nat→Env→Env
 | [],_,e=>e
 | d::ds,k,e=>tx us ds (k+1) (e.set d (gd us k))
def vG (e:Env)(ds:List Nat)(us:List Value):Env:=tx us ds 0 e
def fh (ops:List Oper):List (Option (Nat×Bool)×List Oper)→KE→Env→World→Prop
 | [],K=>K
 | (none,l)::gs,K=>fT P l (fh ops gs K)
 | (some (j,want),l)::gs,K=>fun e w =>
  @Bool.rec (fun _=>Prop) (aI (ph ops e j) want (fun k=>fT P l (fun e' w' => k ((fi l).map (gd e')) w') e w) (fun k=>k ((fi l).map fun _=>undef) w) (fun us w' => fh ops gs K (vG e (fi l) us) w')) False (((ops[j]?).bind (·.dst)).any ((fi l).contains ·))
def sti (s:KV→World→Prop)(k:KV)(w:World):Prop:=∃v,s (fun v' w' => v'=v∧w'=w) w∧k v w
def sOp (e:Env)(o:Oper)(k:KV)(w:World):Prop :=
 match o.op with
 | .move x=>k (ev e x) w
 | .assign x=>k (ev e x) w
 | _=>sti (fun k w=>cOp P (ev e) o k w) k w
def HT :List Oper→KE→Env→World→Prop
 | [],K,e,w=>K e w
 | o::r,K,e,w=>sOp P e o (fun v w' => HT r K (pt e o.dst v) w') w
def wZ (ops:List Oper):List (Option (Nat×Bool)×List Oper)→KE→Env→World→Prop
 | [],K=>K
 | (none,l)::gs,K=>HT P l (wZ ops gs K)
 | (some (j,want),l)::gs,K=>fun e w =>
  @Bool.rec (fun _=>Prop) (aI (ph ops e j) want (fun k=>HT P l (fun e' w' => k ((fi l).map (gd e')) w') e w) (fun k=>k ((fi l).map fun _=>undef) w) (fun us w' => wZ ops gs K (vG e (fi l) us) w')) False (((ops[j]?).bind (·.dst)).any ((fi l).contains ·))
def ss (ops:Array Oper):Nat→Nat
 | 0=>ops.size+1
 | n+1=>match Region.lexTailB .any ops n with|true=>n|false=>ss ops n
def VW :Op→Bool | .store .. => true|_=>false
def Dr (ops:Array Oper):Nat:=ops.toList.findIdx fun o=>VW o.op
def jC (ops:Array Oper):Nat :=
 match Nat.ble (Dr ops+1) ops.size with
 | true=>ss ops (Dr ops+1)
 | false=>match Region.lexB .any ops with|true=>ops.size|false=>ss ops ops.size
def Cn (o:Oper):Bool :=
 match o.op with
 | .move _=>true | .assign _=>true | .pick .. => true | .build .. => true | .load .. => true | .nilCheck _=>true | .binOp .. => true | .unOp .. => true | .convert .. => true
 | .makeInterface .. => true | .makeFunc .. => true | .slice .. => true | .fieldAddr .. => true | .field .. => true | .indexAddr .. => true | .index .. => true | .extract .. => true | .lookup .. => true
 | .call c=>match c.callee with | .builtin .len=>true | .builtin .cap=>true|_=>false
 | _=>false
def OH (o:Oper):Bool :=
 match o.guard with
 | some _=>false
 | none=>match o.op with
  | .move _=>true
  | .binOp .sub _ _ _ _=>true
  | .binOp .add _ _ _ _=>true
  | _=>false
def Wy (o:Oper):Bool :=
 match o.op with
 | .store .. => true | .alloc _=>true | .box .. => true | .buildSlice .. => true | .makeSlice .. => true | .makeMap .. => true | .mapUpdate .. => true | .insert .. => true | .mapEntry .. => true | .entryStore .. => true
 | .call c=>match c.callee with | .builtin .append=>true | .builtin .copy=>true | .builtin .clear=>true | .builtin .delete=>true|_=>false
 | _=>false
def BA :Nat→Code→Bool
 | 0,_=>false
 | n+1,.region _ ops false=>ops.toList.all fun o =>
  match Cn o with
  | true=>true
  | false=>match o.op with
   | .call c=>match c.callee with
    | .value (.func f)=>match P.funcs[f]? with
     | some fn=>match fn.body with|some b=>BA n b|none=>false
     | none=>false
    | .builtin .max=>true
    | .builtin .min=>true
    | _=>false
   | _=>false
 | n+1,.seq a b=>match BA n a with|true=>BA n b|false=>false
 | n+1,.cond _ a b=>match BA n a with|true=>BA n b|false=>false
 | n+1,.block _ c=>BA n c
 | n+1,.loop c=>BA n c
 | _+1,.skip=>true
 | _+1,.exit _=>true
 | _+1,.ret=>true
 | _+1,_=>false
def VX (o:Oper):Bool :=
 match Wy o with
 | true=>true
 | false=>match o.op with
  | .call c=>match c.callee with
   | .value (.func f)=>match P.funcs[f]? with
    | some fn=>match fn.body with|some b=>(match BA P 60 b with|true=>false|false=>true)|none=>true
    | none=>true
   | .value _=>true
   | .invoke _ _=>true
   | _=>false
  | _=>false
def FS (ops:Array Oper):Bool :=
 Region.noSelect ops&&(match ops.toList.all (fun o=>match o.guard with|none=>true|some _=>false)with
  | true=>(ops.toList.take (Nat.min (jC ops) ops.size)).any (fun o=>match Cn o with|true=>false|false=>true)
  | false=>(ops.toList.take (Nat.min (jC ops) ops.size)).any (VX P))
def hld (S:World→Prop)(s:KV→World→Prop)(k:Value→Prop):Prop:=∃v,(∀w,S w→s (fun v' w' => v'=v∧w'=w) w)∧k v
def hOp (S:World→Prop)(e:Env)(o:Oper)(k:Value→Prop):Prop :=
 match o.op with
 | .move x=>k (ev e x)
 | .assign x=>k (ev e x)
 | .makeFunc fn first cap=>k (.func fn (first.toList.map (ev e)).toArray (cap.toList.map (ev e)).toArray)
 | _=>hld S (fun k w=>cOp P (ev e) o k w) k
def hG (v:Value)(want:Bool)(S:World→Prop)(s:KV→World→Prop)(k:Value→Prop):Prop:=∃x,(asB v=some want→∀w,S w→s (fun v' w' => v'=x∧w'=w) w)∧(asB v≠some want→x=undef)∧k x
def xG (v:Value)(want:Bool)(s:KV→World→Prop)(K:KV)(w:World):Prop:=(asB v=some want→s K w)∧(asB v≠some want→K undef w)
def Rm (ops:Array Oper)(S:World→Prop)(e:Env)(o:Oper)(k:Value→Prop):Prop :=
 match o.guard with
 | none=>hOp P S e o k
 | some (j,want)=>hG (ph ops.toList e j) want S (fun k w=>cOp P (ev e) o k w) k
def QP (ops:Array Oper)(e:Env)(o:Oper)(K:KV)(w:World):Prop :=
 match o.guard with
 | none=>cOp P (ev e) o K w
 | some (j,want)=>xG (ph ops.toList e j) want (fun k w=>cOp P (ev e) o k w) K w
def Dh :List Nat→(Nat→Prop)→Prop
 | [],_=>True
 | i::r,f=>match r with | []=>f i|_::_=>f i∧Dh r f
def hAt (ops:Array Oper)(i:Nat)(f:Oper→Prop):Prop:=match ops[i]? with|some o=>f o|none=>False
def IC (ops:Array Oper)(listed:Array Bool)(i:Nat):Bool:=(match ops[i]? with|some o=>Cn o|none=>false)&&Region.free .any ops listed i
def aG (b:(World→Prop)→World→Prop)(w:World):Prop:=∃S,S w∧b S w
def aY (S:World→Prop)(b:(World→Prop)→World→Prop)(w:World):Prop:=∃S',(∀x,S' x→S x)∧S' w∧b S' w
theorem bR {S:World→Prop}{b:(World→Prop)→World→Prop}{w:World}(j:S w)(h:b S w):aY S b w:=⟨S,fun _ h=>h,j,h⟩
def JF (k:Nat):List Nat→Bool
 | []=>false
 | i::r=>Nat.beq k i || JF k r
def Jz (ops:Array Oper)(j:Nat):List Nat:=match ops[j]? with|some o=>(o.after.toList.filter fun e=>Region.binds .any e).map (·.on)|none=>[]
def Jy (ops:Array Oper):Nat→List Nat→List Nat→List Nat
 | 0,_,seen=>seen
 | _+1,[],seen=>seen
 | f+1,j::todo,seen=>match JF j seen with|true=>Jy ops f todo seen|false=>Jy ops f (Jz ops j++todo) (j::seen)
def oY (ops:Array Oper)(pend:List Nat)(i:Nat):List Nat:=pend.filter fun k=>match JF k (Jy ops 1000 (Jz ops i) [])with|true=>false|false=>true
def iN (ops:Array Oper)(K:KE):Nat→Array Bool→List Nat→(World→Prop)→Env→World→Prop
  | 0,listed,_,_,e,w=>@Bool.rec (fun _=>Prop) False (K e w) (Region.ready .any ops listed).isEmpty
  | f+1,listed,pend,S,e,w =>
    @Bool.rec (fun _=>Prop)
      (match (Region.ready .any ops listed).find? (IC ops listed)with
       | some i=>hAt ops i fun o =>
         match OH o with
         | true=>hOp P (fun _=>True) e o fun v=>iN ops K f (listed.setIfInBounds i true) pend S (pt e o.dst v) w
         | false=>Rm P ops S e o fun v=>iN ops K f (listed.setIfInBounds i true) (i::pend) S (pt e o.dst v) w
       | none=>Dh (Region.ready .any ops listed) fun i=>hAt ops i fun o=>QP P ops e o (fun v w' =>
           match oY ops pend i with
           | [] =>
             match (Region.ready .any ops (listed.setIfInBounds i true)).isEmpty with
             | true=>iN ops K f (listed.setIfInBounds i true) [] S (pt e o.dst v) w'
             | false=>aG (fun S w=>iN ops K f (listed.setIfInBounds i true) [] S (pt e o.dst v) w) w'
           | p::ps=>aY S (fun S w=>iN ops K f (listed.setIfInBounds i true) (p::ps) S (pt e o.dst v) w) w') w)
      (K e w) (Region.ready .any ops listed).isEmpty

def cond (v:Value)(p q:Prop):Prop:=∃b,v=.bool b∧(b=true→p)∧(b=false→q)
def SA (body:KE→Env→World→Prop)(e:Env)(w:World):Prop :=
 ∃(I:KE) (μ:Env→World→Nat),I e w∧∀e' w',I e' w'→body (fun e2 w2=>I e2 w2∧μ e2 w2<μ e' w') e' w'
def ae :Code→KE→(Nat→KE)→KE→Env→World→Prop
 | .skip,N,_,_=>N
 | .region _ ops false,N,_,_=>fh P ops.toList (grp ops.toList) N
 | .region _ ops true,N,_,_=>fun e w =>
  @Bool.rec (fun _=>Prop)
   (@Bool.rec (fun _=>Prop) False
    (wZ P ops.toList (grp (ops.toList.take (jC ops))) (fh P ops.toList (grp (ops.toList.drop (jC ops))) N) e w.drew)
    (P.follows .mixedOrders&&Nat.ble (jC ops) ops.size))
   (aG (fun S w=>iN P ops N ops.size (Array.replicate ops.size false) [] S e w) w.drew)
   (P.follows .mixedOrders&&FS P ops)
 | .seq a b,N,X,R=>ae a (ae b N X R) X R
 | .cond c x y,N,X,R=>fun e w=>cond (ev e c) (ae x N X R e w) (ae y N X R e w)
 | .block id c,N,X,R=>ae c N (fun i=>@Bool.rec (fun _=>KE) (X i) N (Nat.beq i id)) R
 | .loop c,_,X,R=>SA fun N' => ae c N' X R
 | .exit i,_,X,_=>X i
 | .ret,_,_,R=>R
 | _,_,_,_=>fun _ _=>False
end ops
/-! ## It implies the model's own. -/
section sound
variable {P:Program}{ds:List Deferred}
theorem zS (e:Env)(t:Nat):e.toArray.getD t undef=gd e t:=by
 simp[gd,Array.getD,List.getD];split<;>simp_all
theorem pY (e:Env)(ds:List Deferred)(x:Operand):Act.eval ⟨e.toArray,ds⟩ x=ev e x:=by
 cases x with
 | tmp t=>exact zS e t
 | _=>rfl
theorem tt (e:Env)(ds:List Deferred)(d:Option Tmp)(v:Value):Act.put ⟨e.toArray,ds⟩ d v=⟨(pt e d v).toArray,ds⟩:=by
 cases d<;>simp[Act.put,pt]
def QQ (ds:List Deferred)(N:KE)(X:Nat→KE)(R:KE):Exit→Act→World→Prop
 | .normal,a,w=>∃e:Env,a=⟨e.toArray,ds⟩∧N e w
 | .exit i,a,w=>∃e:Env,a=⟨e.toArray,ds⟩∧X i e w
 | .ret,a,w=>∃e:Env,a=⟨e.toArray,ds⟩∧R e w
 | _,_,_=>False
theorem KC (s:Sem Value)(w:World):(do pure (.value (←s)):Sem Next).run P w=(s.run P w).andThen fun v w' => .ok (.value v) w':=by
 simp[Sem.run_bind,Sem.run_pure]
def FO (P:Program)(o:Oper)(a:Act)(K:KV)(w:World):Prop :=
 (∃v w',(execOp a.eval o).run P w=.ok (.value v) w'∧K v w')∨(∃w',(execOp a.eval o).run P w=.ok .skip w'∧K undef w') ∨
 (∃f args,(execOp a.eval o).run P w=.ok (.enter f args) w∧Gives P f args w K)
theorem ko {o:Oper}{a:Act}{w:World}{K:KV}(s:Sem Value)(u:execOp a.eval o=(do pure (.value (←s)):Sem Next))(h:okV P s K w):FO P o a K w:=by
 unfold okV at h;split at h
 ·rename_i v w' j;exact .inl ⟨v,w',by rw[u,KC,j];rfl,h⟩
 ·exact h.elim
theorem EB {o:Oper}{a:Act}{w:World}{K:KV}(s:Sem Unit)(C:execOp a.eval o=(do s;pure .skip:Sem Next))(h:okU P s K w):FO P o a K w:=by
 unfold okU at h;split at h
 ·rename_i u w' j;exact .inr (.inl ⟨w',by rw[C];simp only[Sem.run_bind,j,Result.andThen,Sem.run_pure],h⟩)
 ·exact h.elim
theorem Fy {f:FuncId} (M:EO P f) (args:Array Value) (w:World):(callFunc f args).run P w=.ok (.enter f args) w:=by
 obtain ⟨j,C,I,J⟩:=M;have h : ¬ j.name = "runtime.NumGoroutine" := by simpa using I
 cases u:j.body with
 | none=>simp [u] at J
 | some c=>simp [callFunc,C,h,u]
theorem Nq {o:Oper}{a:Act}{w:World}{K:KV}(f:FuncId)(args:Array Value)(j:(execOp a.eval o).run P w=(callFunc f args).run P w)(h:call P f args K w):FO P o a K w :=
 .inr (.inr ⟨f,args,by rw[j,Fy h.1],h.2⟩)
theorem HD (e:Env)(ps:Array (Nat×Operand)):(ps.map fun(i,x)=>(i,ev e x))=(ps.toList.map fun p=>(p.1,ev e p.2)).toArray:=by
 rw[←Array.toList_map]
theorem Ki {o:Oper}{e:Env}{w:World}{K:KV}(h:cOp P (ev e) o K w):FO P o ⟨e.toArray,ds⟩ K w:=by
 have he:Act.eval ⟨e.toArray,ds⟩=ev e:=funext (pY e ds)
 obtain⟨dst,op,ty,pos,after,guard⟩:=o
 cases op<;>simp only[cOp]at h
 case move x=>exact .inl ⟨_,w,by rw[he];rfl,h⟩
 case assign x=>exact .inl ⟨_,w,by rw[he];rfl,h⟩
 case pick c x y =>
  obtain⟨b,hb,hk⟩:=h
  exact .inl ⟨_,w,by unfold execOp;simp only[he,hb,asBool,Sem.run_bind,Sem.run_pure,Result.andThen],hk⟩
 case alloc t=>exact ko _ rfl h
 case box t x=>exact ko (Instr.box t (ev e x)) (by rw[he];rfl) h
 case build t ps=>exact ko (Instr.build t (ps.toList.map fun p:Nat×Operand=>(p.1,ev e p.2)).toArray) (by rw[he];exact congrArg (fun l=>(do pure (.value (←Instr.build t l)):Sem Next)) (HD e ps)) h
 case buildSlice t n ps=>exact ko (Instr.buildSlice t n (ps.toList.map fun p:Nat×Operand=>(p.1,ev e p.2)).toArray) (by rw[he];exact congrArg (fun l=>(do pure (.value (←Instr.buildSlice t n l)):Sem Next)) (HD e ps)) h
 case load t x=>exact ko (Instr.loadAt t (ev e x)) (by rw[he];rfl) h
 case store t x y=>exact EB (Instr.storeAt t (ev e x) (ev e y)) (by rw[he];rfl) h
 case ready g=>exact EB _ rfl h
 case waits g=>exact ko _ rfl h
 case nilCheck x =>
  unfold aU at h
  split at h
  ·rename_i a ha;exact .inl ⟨_,w,by unfold execOp;simp only[he,ha];rfl,h⟩
  ·rename_i f first cap ha;exact .inl ⟨_,w,by unfold execOp;simp only[he,ha];rfl,h⟩
  ·exact h.elim
 case binOp op t x y yt=>exact ko (do eqG op t (isC x) (isC y) (ev e x) (ev e y);binOp op t (ev e x) (ev e y)) (by rw[he, ←Po];rfl) h
 case unOp op t x=>exact ko (Op.unary op (ev e x)) (by rw[he];rfl) h
 case convert s d x=>exact ko (Go.convert s d (ev e x)) (by rw[he];rfl) h
 case makeInterface t x=>exact ko (Instr.makeInterface t (ev e x)) (by rw[he];rfl) h
 case makeFunc fn first cap =>
  have e1:first.map (ev e)=(first.toList.map (ev e)).toArray:=by rw[←Array.toList_map]
  have e2:cap.map (ev e)=(cap.toList.map (ev e)).toArray:=by rw[←Array.toList_map]
  exact .inl ⟨_,w,by unfold execOp;simp only[he,Instr.makeFunc,Sem.run_bind,Sem.run_pure,Result.andThen];rw[e1,e2],h⟩
 case makeMap t r=>exact ko (Instr.makeMap t (r.map (ev e))) (by rw[he];rfl) h
 case makeSlice t l c=>exact ko (Instr.makeSlice t (ev e l) (ev e c)) (by rw[he];rfl) h
 case slice t x lo hi mx=>exact ko (Instr.sliceAt t (ev e x) (lo.map (ev e)) (hi.map (ev e)) (mx.map (ev e))) (by rw[he];rfl) h
 case fieldAddr s x f=>exact ko (Instr.fieldAt s (ev e x) f) (by rw[he];rfl) h
 case field s x f=>exact ko (Instr.field s (ev e x) f) (by rw[he];rfl) h
 case indexAddr t x i=>exact ko (Instr.indexAt t (ev e x) (ev e i)) (by rw[he];rfl) h
 case index t x i=>exact ko (Instr.index t (ev e x) (ev e i)) (by rw[he];rfl) h
 case lookup t x i ok=>exact ko (Instr.lookup t (ev e x) (ev e i) ok) (by rw[he];rfl) h
 case mapUpdate t m k x=>exact EB (Instr.mapUpdate t (ev e m) (ev e k) (ev e x)) (by rw[he];rfl) h
 case insert t m k x=>exact EB (Instr.mapUpdate t (ev e m) (ev e k) (ev e x)) (by rw[he];rfl) h
 case mapEntry t m k=>exact ko (Instr.mapEntry t (ev e m) (ev e k)) (by rw[he];rfl) h
 case entryStore t m s x=>exact EB (Instr.entryStore t (ev e m) (ev e s) (ev e x)) (by rw[he];rfl) h
 case range t x=>exact ko (Instr.range t (ev e x)) (by rw[he];rfl) h
 case next it s=>exact ko (Instr.next (ev e it) s ty) (by rw[he];rfl) h
 case entry it=>exact ko (Instr.entry (ev e it)) (by rw[he];rfl) h
 case extract t i=>exact ko (Instr.extract (ev e t) i) (by rw[he];rfl) h
 case call c =>
  obtain⟨callee,args,ats⟩:=c
  have ea:args.map (ev e)=(args.toList.map (ev e)).toArray:=by rw[←Array.toList_map]
  cases callee with
  | invoke r m=>exact h.elim
  | builtin b =>
   have hx:execOp (Act.eval ⟨e.toArray,ds⟩) {dst,op:=.call {callee:=.builtin b,args,argTypes:=ats},type:=ty,pos,after,guard} = builtin b ats ty (args.map isC) (args.map (ev e)):=by rw[he];rfl
   have hc:args.map isC=(args.toList.map isC).toArray:=by rw[←Array.toList_map]
   have h:blt P b ats ty (args.toList.map isC).toArray (args.toList.map (ev e)).toArray K w:=h
   unfold blt at h
   split at h
   ·rename_i v w' hr;exact .inl ⟨v,w',by rw[hx,hc,ea];exact hr,h⟩
   ·exact h.elim
  | value f =>
   cases f with
   | func f =>
    refine Nq f (args.toList.map (ev e)).toArray ?_ h
    simp only[execOp,resolve,Deferred.ofValue,invoke,Sem.run_bind,Sem.run_pure,Result.andThen_ok,he,ea]
    simp[ev]
   | _ =>
    obtain⟨f,first,cap,hf,hc⟩:=h
    refine Nq f _ ?_ hc
    simp only[execOp,resolve,Deferred.ofValue,invoke,Sem.run_bind,Sem.run_pure,Result.andThen_ok,he,ea,hf]
 all_goals exact h.elim
theorem xn {o:Oper}{e:Env}{w:World}{K:KV}{j:Act→World→Prop}{Q:Exit→Act→World→Prop}(h:cOp P (ev e) o K w)(M:∀v w',K v w'→j ⟨(pt e o.dst v).toArray,ds⟩ w'):o.wp P ⟨e.toArray,ds⟩ w j Q:=by
 have u:∀v w',K v w'→j (Act.put ⟨e.toArray,ds⟩ o.dst v) w':=fun v w' J=>by rw[tt];exact M v w' J
 unfold Oper.wp;rcases Ki h with⟨v,w',I,C⟩|⟨w',I,C⟩|⟨f,args,I,C⟩
 ·rw[I];exact u _ _ C
 ·rw[I];exact u _ _ C
 ·rw[I];refine Calls.mono C ?_;rintro e w' ⟨v,rfl,J⟩;exact u _ _ J
theorem td (ops:List Oper)(e:Env)(o:Oper)(j:Nat)(u:Bool)(C:o.guard=some (j,u)):Region.wanted o (yielded ops.toArray e.toArray)=(asB (ph ops e j)==some u):=by
 simp only[Region.wanted,C]
 have:yielded ops.toArray e.toArray j=asB (ph ops e j):=by
  unfold yielded ph;simp only[List.getElem?_toArray];cases h:(ops[j]?).bind (·.dst)with
  | none=>simp[undef,asB]
  | some d =>
   simp only[Option.bind_some,List.getElem?_toArray,gd,List.getD];cases I:e[d]? with
   | none=>simp[undef,asB]
   | some v=>cases v<;>simp[asB]
 rw[this]
theorem FR {ops:List Oper}{e:Env}{j:Nat}{d:Option Tmp}{v:Value}(h:((ops[j]?).bind (·.dst)).any (d.toList.contains ·)=false):ph ops (pt e d v) j=ph ops e j:=by
 unfold ph;cases I:(ops[j]?).bind (·.dst)with
 | none=>rfl
 | some dj =>
  cases d with
  | none=>rfl
  | some d =>
   have u:dj≠d:=by
    intro C;subst C;simp[I]at h
   have:d≠dj:=fun e=>u e.symm
   simp[pt,gd,List.getD,List.getElem?_set_ne this]
theorem CR {ops:List Oper}{j:Nat}{o:Oper}{l:List Oper}(h:((ops[j]?).bind (·.dst)).any ((fi (o::l)).contains ·)=false):((ops[j]?).bind (·.dst)).any (o.dst.toList.contains ·)=false∧((ops[j]?).bind (·.dst)).any ((fi l).contains ·)=false:=by
 cases C:(ops[j]?).bind (·.dst)with
 | none=>simp
 | some d =>
  rw[C]at h;unfold fi at *;rw[List.filterMap_cons]at h;cases u:o.dst with
  | none=>rw[u]at h;simpa using h
  | some d' => rw[u]at h;simpa using h
theorem Qo {ops:List Oper}{K:KE}{Q:Exit→Act→World→Prop}{rest:List Oper}(I:∀e w,K e w→wpList P ops.toArray Q rest ⟨e.toArray,ds⟩ w):∀(l:List Oper) (e:Env) (w:World),(∀o∈l,o.guard=none)→fT P l K e w→wpList P ops.toArray Q (l++rest) ⟨e.toArray,ds⟩ w:=by
 intro l
 induction l with
 | nil=>intro e w _ h;exact I e w h
 | cons o l ih =>
  intro e w C h;refine wpList_step fun KK j=>?_;rw[if_pos (by simp[Region.wanted,C o (List.mem_cons_self ..)])];exact xn h fun v w' J=>j _ _ (ih _ _ (fun M u => C M (List.mem_cons_of_mem _ u)) J)
theorem OT {ops:List Oper}{K:KE}{Q:Exit→Act→World→Prop}{rest:List Oper}{j:Nat}{u:Bool}(hK:∀e w,K e w→wpList P ops.toArray Q rest ⟨e.toArray,ds⟩ w):∀(l:List Oper) (e:Env) (w:World),(∀o∈l,o.guard=some (j,u))→((ops[j]?).bind (·.dst)).any ((fi l).contains ·)=false→asB (ph ops e j)=some u→fT P l K e w →
   wpList P ops.toArray Q (l++rest) ⟨e.toArray,ds⟩ w:=by
 intro l
 induction l with
 | nil=>intro e w _ _ _ h;exact hK e w h
 | cons o l ih =>
  intro e w U hd hv h;obtain⟨I,J⟩:=CR hd;refine wpList_step fun KK C=>?_;have hw:=td ops e o j u (U o (List.mem_cons_self ..));dsimp only at hw ⊢;rw[hw,if_pos (by simp[hv])];exact xn h fun v w' O => C _ _ (ih _ _ (fun o' M => U o' (List.mem_cons_of_mem _ M)) J (by rw[FR I];exact hv) O)
theorem GH (C:List Value)(I:∀i,gd C i=undef):∀(ds:List Nat) (k u:Nat) (e:Env) (j:List Value),(∀i,gd j i=undef)→tx C ds k e=tx j ds u e:=by
 intro ds
 induction ds with
 | nil=>intro k u e j _;rfl
 | cons d ds ih=>intro k u e j h;simp only[tx,I,h];exact ih _ _ _ _ h
theorem Kj (ds:List Nat)(i:Nat):gd (ds.map fun _=>undef) i=undef:=by
 simp only[gd,List.getD,List.getElem?_map];cases ds[i]? <;> rfl
theorem Nj {ops:List Oper}{Q:Exit→Act→World→Prop}{rest:List Oper}{j:Nat}{u:Bool}:∀(l:List Oper) (e:Env) (w:World),(∀o∈l,o.guard=some (j,u))→((ops[j]?).bind (·.dst)).any ((fi l).contains ·)=false→asB (ph ops e j)≠some u →
   wpList P ops.toArray Q rest ⟨(vG e (fi l) ((fi l).map fun _=>undef)).toArray,ds⟩ w→wpList P ops.toArray Q (l++rest) ⟨e.toArray,ds⟩ w:=by
 intro l
 induction l with
 | nil=>intro e w _ _ _ h;exact h
 | cons o l ih =>
  intro e w U hd hv h;obtain⟨I,J⟩:=CR hd;refine wpList_step fun KK C=>?_;have hw:=td ops e o j u (U o (List.mem_cons_self ..));dsimp only at hw ⊢;rw[hw,if_neg (by simpa using hv),tt];refine C _ _ (ih _ _ (fun o' M => U o' (List.mem_cons_of_mem _ M)) J (by rw[FR I];exact hv) ?_)
  have he:vG e (fi (o::l)) ((fi (o::l)).map fun _=>undef)=vG (pt e o.dst undef) (fi l) ((fi l).map fun _=>undef):=by
   have O:=fun ds=>Kj ds;unfold fi;rw[List.filterMap_cons];cases o.dst with
   | none=>rfl
   | some d =>
    simp only[vG,tx,O,pt];exact GH _ (O _) _ _ _ _ _ (O _)
  rw[←he];exact h
theorem Qp (j:List Value):∀(ds:List Nat) (k:Nat) (e:Env) (i:Nat),i∉ds→(tx j ds k e)[i]? = e[i]? := by
 intro ds
 induction ds with
 | nil=>intro k e i _;rfl
 | cons d ds ih =>
  intro k e i hi;simp only[List.mem_cons,not_or]at hi;simp only[tx];rw[ih _ _ _ hi.2,List.getElem?_set_ne (fun h=>hi.1 h.symm)]
theorem OU (M:List Value)(e':Env):∀(ds:List Nat) (k:Nat) (e:Env),(∀i d,ds[i]? = some d→gd M (k+i)=gd e' d)→e'.length=e.length→(∀i,i∉ds→e'[i]? = e[i]?)→tx M ds k e=e':=by
 intro ds
 induction ds with
 | nil=>intro k e _ I h;exact(List.ext_getElem? fun i=>h i (by simp)).symm
 | cons d ds ih =>
  intro k e J I h;simp only[tx];refine ih (k+1) _ (fun i O U=>by rw[show k+1+i=k+(i+1)by omega];exact J (i+1) O (by simpa using U)) (by simp[I]) ?_;have C:=J 0 d (by simp);rw[Nat.add_zero]at C;intro i hi;by_cases j:i=d
  ·subst j;by_cases u:i<e.length
   ·rw[List.getElem?_set_self u,C]
    have:i<e'.length:=by omega
    simp[gd,List.getD,this]
   ·rw[List.getElem?_eq_none (show e'.length≤i by omega),List.getElem?_eq_none (by simp;omega)]
  ·rw[List.getElem?_set_ne (fun h=>j h.symm)];exact h i (by simp[j,hi])
theorem Qq (ds:List Nat)(e e':Env)(u:e'.length=e.length)(h:∀i,i∉ds→e'[i]? = e[i]?):vG e ds (ds.map (gd e'))=e':=by
 refine OU _ e' ds 0 e (fun i d j=>?_) u h;rw[Nat.zero_add];simp[gd,List.getD,List.getElem?_map,j]
theorem qT :∀(l:List Oper),((grp l).flatMap (·.2))=l∧∀g∈grp l,∀o∈g.2,o.guard=g.1:=by
 intro l
 induction l with
 | nil=>simp[grp]
 | cons o l ih =>
  obtain⟨u,C⟩:=ih;unfold grp;split
  ·rename_i J;rw[J]at u;simp at u;subst u;simp
  ·rename_i g l' O J;rw[J]at u C;split
   ·rename_i M;refine⟨by simpa using u,?_⟩;intro x j I h;simp only[List.mem_cons]at j;rcases j with rfl|j
    ·simp only[List.mem_cons]at h;rcases h with rfl|h
     ·exact M
     ·exact C (g,l') (by simp) I h
    ·exact C x (by simp[j]) I h
   ·refine⟨by simpa using u,?_⟩;intro x j I h;simp only[List.mem_cons]at j;rcases j with rfl|rfl|j
    ·simp only[List.mem_singleton]at h;rw[h]
    ·exact C (g,l') (by simp) I h
    ·exact C x (by simp[j]) I h
def agree (ws:List Nat)(e e':Env):Prop:=e'.length=e.length∧∀i,i∉ws→gd e' i=gd e i
theorem agree.refl (ws:List Nat)(e:Env):agree ws e e:=⟨rfl,fun _ _=>rfl⟩
theorem agree.trans {ws j:List Nat}{a b c:Env}(h:agree ws a b)(k:agree j b c):agree (ws++j) a c :=
 ⟨k.1.trans h.1,fun i hi=>by
  simp only[List.mem_append,not_or]at hi;rw[k.2 i hi.2,h.2 i hi.1]⟩
theorem agree.mono {ws j:List Nat}{a b:Env}(h:agree ws a b)(C:∀i∈ws,i∈j):agree j a b:=⟨h.1,fun i hi=>h.2 i fun u=>hi (C i u)⟩
theorem CQ (e:Env)(d:Option Tmp)(v:Value):agree d.toList e (pt e d v):=by
 cases d with
 | none=>exact agree.refl _ _
 | some d =>
  refine⟨by simp[pt],fun i hi=>?_⟩
  have:d≠i:=by simpa[eq_comm]using hi
  simp[pt,gd,List.getD,List.getElem?_set_ne this]
theorem Ex {f:FuncId}{args:Array Value}{K K':KV}{w:World}(j:∀v w',K v w'→K' v w')(h:call P f args K w):call P f args K' w:=⟨h.1,h.2.mono j⟩
theorem zI {r:Operand→Value}{o:Oper}{K K':KV}{w:World}(hk:∀v w',K v w'→K' v w')(h:cOp P r o K w):cOp P r o K' w:=by
 unfold cOp at *
 split at h<;>first
  | exact hk _ _ h
  | exact RU hk h
  | exact RT hk h
  | exact h.elim
  | skip
 ·obtain⟨b,hb,h⟩:=h;exact⟨b,hb,hk _ _ h⟩
 ·unfold aU at *
  split at h
  ·exact hk _ _ h
  ·exact hk _ _ h
  ·exact h.elim
 ·split at h
  ·exact Ex hk h
  ·obtain⟨f,first,cap,hf,hc⟩:=h;exact⟨f,first,cap,hf,Ex hk hc⟩
  ·unfold blt at *
   split at h
   ·exact hk _ _ h
   ·exact h.elim
  ·exact h.elim
theorem CS :∀(l:List Oper) {K K':KE} {e:Env} {w:World},fT P l K e w→(∀j u,agree (fi l) e j→K j u→K' j u)→fT P l K' e w:=by
 intro l
 induction l with
 | nil=>intro K K' e w h I;exact I _ _ (agree.refl _ _) h
 | cons o rest ih =>
  intro K K' e w h I;exact zI (fun v w' h=>ih h fun j u M J=>I j u (((CQ e o.dst v).trans M).mono (by
   intro i hi;simp only[List.mem_append]at hi;unfold fi;rw[List.filterMap_cons];rcases hi with hi|hi
   ·cases C:o.dst with
    | none=>simp[C]at hi
    | some d=>simp[C]at hi;simp[hi]
   ·cases C:o.dst with
    | none=>exact hi
    | some d=>exact List.mem_cons_of_mem _ hi)) J) h
theorem Ih {ds:List Nat}{e e':Env}(h:agree ds e e'):vG e ds (ds.map (gd e'))=e':=by
 refine Qq ds e e' h.1 fun i hi=>?_;have C:=h.2 i hi;by_cases j:i<e.length
 ·have u:i<e'.length:=by rw[h.1];exact j
  simp only[gd,List.getD,List.getElem?_eq_getElem j,List.getElem?_eq_getElem u,Option.getD_some]at C ⊢;rw[C]
 ·simp[List.getElem?_eq_none (Nat.le_of_not_lt j),List.getElem?_eq_none (show e'.length≤i by rw[h.1];omega)]
theorem yM {ops:List Oper}{K:KE}{Q:Exit→Act→World→Prop}(hK:∀e w,K e w→Q .normal ⟨e.toArray,ds⟩ w):∀(u:List (Option (Nat×Bool)×List Oper)) (e:Env) (w:World),(∀g∈u,∀o∈g.2,o.guard=g.1)→fh P ops u K e w→wpList P ops.toArray Q (u.flatMap (·.2)) ⟨e.toArray,ds⟩ w:=by
 intro u
 induction u with
 | nil=>intro e w _ h;exact hK e w h
 | cons g u ih =>
  intro e w hg h;obtain⟨I,l⟩:=g;have C:∀g∈u,∀o∈g.2,o.guard=g.1:=fun g hh=>hg g (List.mem_cons_of_mem _ hh);have hl:=hg (I,l) (List.mem_cons_self ..);rw[List.flatMap_cons];cases I with
  | none=>exact Qo (fun e w h=>ih e w C h) l e w hl h
  | some jw =>
   obtain⟨j,J⟩:=jw;simp only[fh]at h;cases M:((ops[j]?).bind (·.dst)).any ((fi l).contains ·)
   case true=>rw[M]at h;exact h.elim
   case false =>
    rw[M]at h;have h:aI _ _ _ _ _:=h;by_cases O:asB (ph ops e j)=some J
    ·refine OT (K:=fun e' w' => fh P ops u K e' w') (fun e w h=>ih e w C h) l e w hl M O <|CS l (h.1 O) ?_;intro e2 w2 ha U;dsimp only at U;rw[Ih ha]at U;exact U
    ·exact Nj l e w hl M O (ih _ w C (h.2 O))
theorem OZ {o:Oper}{e:Env}{w:World}{k:KV}(h:sOp P e o k w):sti (fun k w=>cOp P (ev e) o k w) k w:=by
 unfold sOp at h;split at h
 ·rename_i x j;exact⟨_,by unfold cOp;simp only[j];exact⟨(by first|trivial|rfl),(by first|trivial|rfl)⟩,h⟩
 ·rename_i x j;exact⟨_,by unfold cOp;simp only[j];exact⟨(by first|trivial|rfl),(by first|trivial|rfl)⟩,h⟩
 ·exact h
theorem Sj {o:Oper}{e:Env}{w:World}{k u:KV}(j:∀v,k v w→u v w)(h:sOp P e o k w):sOp P e o u w:=by
 unfold sOp at *;split at h
 ·exact j _ h
 ·exact j _ h
 ·obtain⟨v,C,h⟩:=h;exact⟨v,C,j _ h⟩
theorem ML {o:Oper}{e:Env}{w:World}{k:KV}{next:Act→Prop}(h:sOp P e o k w)(I:∀v,k v w→next ⟨(pt e o.dst v).toArray,ds⟩):o.still P ⟨e.toArray,ds⟩ w next:=by
 obtain⟨v,O,C⟩:=OZ h;have j:∀v',Act.put ⟨e.toArray,ds⟩ o.dst v'=⟨(pt e o.dst v').toArray,ds⟩:=fun v' => tt e ds o.dst v';unfold Oper.still;rcases Ki O with⟨v',w',u,rfl,rfl⟩|⟨w',u,J,rfl⟩|⟨f,args,u,M⟩
 ·rw[u];exact⟨rfl,by rw[j];exact I _ C⟩
 ·rw[u];exact⟨rfl,by rw[j,J];exact I _ C⟩
 ·rw[u];exact⟨rfl,v,Calls.mono M (by rintro e' w' ⟨v',rfl,rfl,rfl⟩;exact⟨rfl,rfl⟩),by rw[j];exact I _ C⟩
theorem OS {ops:List Oper}{K:KE}{Q:Act→Prop}{w:World}{rest:List Oper}(C:∀e,K e w→wpStill P ops.toArray w Q rest ⟨e.toArray,ds⟩):∀(l:List Oper) (e:Env),(∀o∈l,o.guard=none)→HT P l K e w→wpStill P ops.toArray w Q (l++rest) ⟨e.toArray,ds⟩:=by
 intro l
 induction l with
 | nil=>intro e _ h;exact C e h
 | cons o l ih =>
  intro e u h;simp only[List.cons_append,wpStill];rw[if_pos (by simp[Region.wanted,u o (List.mem_cons_self ..)])];exact ML h fun v I=>ih _ (fun J j => u J (List.mem_cons_of_mem _ j)) I
theorem Nh {ops:List Oper}{K:KE}{Q:Act→Prop}{w:World}{rest:List Oper}{j:Nat}{u:Bool}(hK:∀e,K e w→wpStill P ops.toArray w Q rest ⟨e.toArray,ds⟩):∀(l:List Oper) (e:Env),(∀o∈l,o.guard=some (j,u))→((ops[j]?).bind (·.dst)).any ((fi l).contains ·)=false→asB (ph ops e j)=some u→HT P l K e w →
   wpStill P ops.toArray w Q (l++rest) ⟨e.toArray,ds⟩:=by
 intro l
 induction l with
 | nil=>intro e _ _ _ h;exact hK e h
 | cons o l ih =>
  intro e O hd U h;obtain⟨C,I⟩:=CR hd;have hw:=td ops e o j u (O o (List.mem_cons_self ..));simp only[List.cons_append,wpStill];rw[hw,if_pos (by simp[U])];exact ML h fun v M => ih _ (fun o' J => O o' (List.mem_cons_of_mem _ J)) I (by rw[FR C];exact U) M
theorem Ni {ops:List Oper}{Q:Act→Prop}{w:World}{rest:List Oper}{j:Nat}{u:Bool}:∀(l:List Oper) (e:Env),(∀o∈l,o.guard=some (j,u))→((ops[j]?).bind (·.dst)).any ((fi l).contains ·)=false→asB (ph ops e j)≠some u →
   wpStill P ops.toArray w Q rest ⟨(vG e (fi l) ((fi l).map fun _=>undef)).toArray,ds⟩→wpStill P ops.toArray w Q (l++rest) ⟨e.toArray,ds⟩:=by
 intro l
 induction l with
 | nil=>intro e _ _ _ h;exact h
 | cons o l ih =>
  intro e O hd U h;obtain⟨C,I⟩:=CR hd;have hw:=td ops e o j u (O o (List.mem_cons_self ..));simp only[List.cons_append,wpStill];rw[hw,if_neg (by simpa using U),tt];refine ih _ (fun o' J => O o' (List.mem_cons_of_mem _ J)) I (by rw[FR C];exact U) ?_;have he:vG e (fi (o::l)) ((fi (o::l)).map fun _=>undef)=vG (pt e o.dst undef) (fi l) ((fi l).map fun _=>undef):=by
   have M:=fun ds=>Kj ds;unfold fi;rw[List.filterMap_cons];cases o.dst with
   | none=>rfl
   | some d =>
    simp only[vG,tx,M,pt];exact GH _ (M _) _ _ _ _ _ (M _)
  rw[←he];exact h
theorem DU :∀(l:List Oper) {K K':KE} {e:Env} {w:World},HT P l K e w→(∀j,agree (fi l) e j→K j w→K' j w)→HT P l K' e w:=by
 intro l
 induction l with
 | nil=>intro K K' e w h C;exact C _ (agree.refl _ _) h
 | cons o rest ih =>
  intro K K' e w h C;refine Sj (fun v h=>ih h fun j J I=>C j (((CQ e o.dst v).trans J).mono ?_) I) h;intro i hi;simp only[List.mem_append]at hi;unfold fi;rw[List.filterMap_cons];rcases hi with hi|hi
  ·cases u:o.dst with
   | none=>simp[u]at hi
   | some d=>simp[u]at hi;simp[hi]
  ·cases u:o.dst with
   | none=>exact hi
   | some d=>exact List.mem_cons_of_mem _ hi
theorem zw {ops:List Oper}{K:KE}{Q:Act→Prop}{w:World}(hK:∀e,K e w→Q ⟨e.toArray,ds⟩):∀(u:List (Option (Nat×Bool)×List Oper)) (e:Env),(∀g∈u,∀o∈g.2,o.guard=g.1)→wZ P ops u K e w→wpStill P ops.toArray w Q (u.flatMap (·.2)) ⟨e.toArray,ds⟩:=by
 intro u
 induction u with
 | nil=>intro e _ h;exact hK e h
 | cons g u ih =>
  intro e hg h;obtain⟨I,l⟩:=g;have C:∀g∈u,∀o∈g.2,o.guard=g.1:=fun g hh=>hg g (List.mem_cons_of_mem _ hh);have hl:=hg (I,l) (List.mem_cons_self ..);rw[List.flatMap_cons];cases I with
  | none=>exact OS (fun e h=>ih e C h) l e hl h
  | some jw =>
   obtain⟨j,J⟩:=jw;simp only[wZ]at h;cases M:((ops[j]?).bind (·.dst)).any ((fi l).contains ·)
   case true=>rw[M]at h;exact h.elim
   case false =>
    rw[M]at h;have h:aI _ _ _ _ _:=h;by_cases O:asB (ph ops e j)=some J
    ·refine Nh (K:=fun e' w' => wZ P ops u K e' w') (fun e h=>ih e C h) l e hl M O <|DU l (h.1 O) ?_;intro e2 ha U;dsimp only at U;rw[Ih ha]at U;exact U
    ·exact Ni l e hl M O (ih _ C (h.2 O))
theorem Is (ops:Array Oper)(h:Nat.ble (jC ops) ops.size=true):(Region.lexB .any ops=true∧jC ops=ops.size)∨(Region.lexTailB .any ops (jC ops)=true∧jC ops<ops.size):=by
 have j:∀n,n≤ops.size→Nat.ble (ss ops n) ops.size=true→Region.lexTailB .any ops (ss ops n)=true∧ss ops n<ops.size:=by
  intro n
  induction n with
  | zero=>intro _ h;simp only[ss]at h;have:=Nat.le_of_ble_eq_true h;omega
  | succ n ih =>
   intro J h;simp only[ss]at h ⊢;cases C:Region.lexTailB .any ops n
   case true=>exact⟨C,by show n<_;omega⟩
   case false=>rw[C]at h;exact ih (by omega) h
 unfold jC at *;cases u:Nat.ble (Dr ops+1) ops.size
 case true =>
  right;rw[u]at h;exact j _ (Nat.le_of_ble_eq_true u) h
 case false =>
  rw[u]at h;cases I:Region.lexB .any ops
  case true=>left;exact⟨rfl,rfl⟩
  case false =>
   right;rw[I]at h;exact j ops.size (Nat.le_refl _) h
theorem qM {o:Oper}{a:Act}{w:World}{K:KV}(s:Sem Value)(u:execOp a.eval o=(do pure (.value (←s)):Sem Next))(h:okV P s K w):∃v w',(execOp a.eval o).run P w=.ok (.value v) w'∧K v w':=by
 unfold okV at h;split at h
 ·rename_i v w' j;exact⟨v,w',by rw[u,KC,j];rfl,h⟩
 ·exact h.elim
theorem Jp {o:Oper}{e:Env}{w:World}{K:KV}(hr:Cn o=true)(h:cOp P (ev e) o K w):∃v w',(execOp (Act.eval ⟨e.toArray,ds⟩) o).run P w=.ok (.value v) w'∧K v w':=by
 have he:Act.eval ⟨e.toArray,ds⟩=ev e:=funext (pY e ds)
 obtain⟨dst,op,ty,pos,after,guard⟩:=o
 cases op<;>simp only[cOp]at h
 case move x=>exact⟨_,w,by rw[he];rfl,h⟩
 case assign x=>exact⟨_,w,by rw[he];rfl,h⟩
 case pick c x y =>
  obtain⟨b,hb,hk⟩:=h
  exact⟨_,w,by unfold execOp;simp only[he,hb,asBool,Sem.run_bind,Sem.run_pure,Result.andThen],hk⟩
 case build t ps=>exact qM (a:=⟨e.toArray,ds⟩) (Instr.build t (ps.toList.map fun p:Nat×Operand=>(p.1,ev e p.2)).toArray) (by rw[he];exact congrArg (fun l=>(do pure (.value (←Instr.build t l)):Sem Next)) (HD e ps)) h
 case load t x=>exact qM (a:=⟨e.toArray,ds⟩) (Instr.loadAt t (ev e x)) (by rw[he];rfl) h
 case nilCheck x =>
  unfold aU at h
  split at h
  ·rename_i a ha;exact⟨_,w,by unfold execOp;simp only[he,ha];rfl,h⟩
  ·rename_i f first cap ha;exact⟨_,w,by unfold execOp;simp only[he,ha];rfl,h⟩
  ·exact h.elim
 case binOp op t x y yt=>exact qM (a:=⟨e.toArray,ds⟩) (do eqG op t (isC x) (isC y) (ev e x) (ev e y);binOp op t (ev e x) (ev e y)) (by rw[he, ←Po];rfl) h
 case unOp op t x=>exact qM (a:=⟨e.toArray,ds⟩) (Op.unary op (ev e x)) (by rw[he];rfl) h
 case convert s d x=>exact qM (a:=⟨e.toArray,ds⟩) (Go.convert s d (ev e x)) (by rw[he];rfl) h
 case makeInterface t x=>exact qM (a:=⟨e.toArray,ds⟩) (Instr.makeInterface t (ev e x)) (by rw[he];rfl) h
 case makeFunc fn first cap =>
  have e1:first.map (ev e)=(first.toList.map (ev e)).toArray:=by rw[←Array.toList_map]
  have e2:cap.map (ev e)=(cap.toList.map (ev e)).toArray:=by rw[←Array.toList_map]
  exact⟨_,w,by unfold execOp;simp only[he,Instr.makeFunc,Sem.run_bind,Sem.run_pure,Result.andThen];rw[e1,e2],h⟩
 case slice t x lo hi mx=>exact qM (a:=⟨e.toArray,ds⟩) (Instr.sliceAt t (ev e x) (lo.map (ev e)) (hi.map (ev e)) (mx.map (ev e))) (by rw[he];rfl) h
 case fieldAddr s x f=>exact qM (a:=⟨e.toArray,ds⟩) (Instr.fieldAt s (ev e x) f) (by rw[he];rfl) h
 case field s x f=>exact qM (a:=⟨e.toArray,ds⟩) (Instr.field s (ev e x) f) (by rw[he];rfl) h
 case indexAddr t x i=>exact qM (a:=⟨e.toArray,ds⟩) (Instr.indexAt t (ev e x) (ev e i)) (by rw[he];rfl) h
 case index t x i=>exact qM (a:=⟨e.toArray,ds⟩) (Instr.index t (ev e x) (ev e i)) (by rw[he];rfl) h
 case lookup t x i ok=>exact qM (a:=⟨e.toArray,ds⟩) (Instr.lookup t (ev e x) (ev e i) ok) (by rw[he];rfl) h
 case extract t i=>exact qM (a:=⟨e.toArray,ds⟩) (Instr.extract (ev e t) i) (by rw[he];rfl) h
 case call c =>
  obtain⟨callee,args,ats⟩:=c
  have ea:args.map (ev e)=(args.toList.map (ev e)).toArray:=by rw[←Array.toList_map]
  cases callee with
  | invoke r m=>exact h.elim
  | builtin b =>
   have hx:execOp (Act.eval ⟨e.toArray,ds⟩) {dst,op:=.call {callee:=.builtin b,args,argTypes:=ats},type:=ty,pos,after,guard} = builtin b ats ty (args.map isC) (args.map (ev e)):=by rw[he];rfl
   have hc:args.map isC=(args.toList.map isC).toArray:=by rw[←Array.toList_map]
   have h:blt P b ats ty (args.toList.map isC).toArray (args.toList.map (ev e)).toArray K w:=h
   unfold blt at h
   split at h
   ·rename_i v w' hr;exact⟨v,w',by rw[hx,hc,ea];exact hr,h⟩
   ·exact h.elim
  | value f=>simp[Cn]at hr
 all_goals first|exact h.elim|(simp[Cn]at hr)
theorem NA {S:World→Prop}{e:Env}{o:Oper}{k:Value→Prop}(h:hOp P S e o k):hld S (fun k w=>cOp P (ev e) o k w) k:=by
 unfold hOp at h
 split at h
 ·rename_i x ho;exact⟨_,fun w _=>by unfold cOp;simp only[ho];exact⟨(by first|trivial|rfl),(by first|trivial|rfl)⟩,h⟩
 ·rename_i x ho;exact⟨_,fun w _=>by unfold cOp;simp only[ho];exact⟨(by first|trivial|rfl),(by first|trivial|rfl)⟩,h⟩
 ·rename_i fn first cap ho;exact⟨_,fun w _=>by unfold cOp;simp only[ho];exact⟨(by first|trivial|rfl),(by first|trivial|rfl)⟩,h⟩
 ·exact h
theorem Py {f:Nat→Prop}:∀(l:List Nat),Dh l f→∀i∈l,f i:=by
 intro l
 induction l with
 | nil=>intro _ i hi;cases hi
 | cons j r ih =>
  intro h i hi;cases r with
  | nil =>
   rcases List.mem_cons.1 hi with rfl|hi
   ·exact h
   ·cases hi
  | cons u r2 =>
   have h:f j∧Dh (u::r2) f:=h;rcases List.mem_cons.1 hi with rfl|hi
   ·exact h.1
   ·exact ih h.2 i hi
theorem Ow {f g:Nat→Prop}(u:∀i,f i→g i):∀(l:List Nat),Dh l f→Dh l g:=by
 intro l
 induction l with
 | nil=>exact id
 | cons j r ih =>
  intro h;cases r with
  | nil=>exact u _ h
  | cons C r2 =>
   have h:f j∧Dh (C::r2) f:=h;exact⟨u _ h.1,ih h.2⟩
/-! ### A reading may be taken ahead of what does not turn it. -/
section taken
variable {ops:Array Oper}{Q:Exit→Act→World→Prop}{S:World→Prop}
def xo (ops:Array Oper)(listed:Array Bool):Prop:=∀(j:Nat) (o:Oper),ops[j]? = some o→listed.getD j false=true→∀e∈o.after,Region.binds .any e=true→listed.getD e.on false=true
theorem KO {u:Array Bool}{i j:Nat}(h:(u.setIfInBounds i true).getD j false=true):u.getD j false=true∨j=i:=by
 by_cases C:j=i
 ·exact .inr C
 ·left;rw[getD_set_ne false (Ne.symm C)]at h;exact h
theorem th {u:Array Bool}{i:Nat}(U:xo ops u)(hr:i∈Region.ready .any ops u):xo ops (u.setIfInBounds i true):=by
 intro j o O hl e M J;rcases KO hl with h|rfl
 ·exact getD_set_true (U j o O h e M J)
 ·obtain⟨_,o',I,C⟩:=mem_ready.1 hr;rw[O]at I;cases I;exact getD_set_true (C e M J)
theorem GF {h:Array Bool}{j:Nat}(J:∀o,ops[j]? = some o→∀e∈o.after,Region.binds .any e=true→h.getD e.on false=true):∀x∈Jz ops j,h.getD x false=true:=by
 intro x u;unfold Jz at u;split at u
 ·rename_i o M;simp only[List.mem_map,List.mem_filter]at u;obtain⟨e,⟨I,C⟩,rfl⟩:=u;exact J o M e (by simpa using I) C
 ·cases u
theorem BN {h:Array Bool}(U:xo ops h):∀(f:Nat) (u C:List Nat),(∀x∈u,h.getD x false=true)→(∀x∈C,h.getD x false=true)→∀x∈Jy ops f u C,h.getD x false=true:=by
 intro f
 induction f with
 | zero=>intro u C _ J;exact J
 | succ f ih =>
  intro u C M J;cases u with
  | nil=>exact J
  | cons j u =>
   simp only[Jy];split
   ·exact ih _ _ (fun x I=>M x (List.mem_cons_of_mem _ I)) J
   ·refine ih _ _ (fun x I=>?_) (fun x I=>?_)
    ·rcases List.mem_append.1 I with I|I
     ·exact GF (fun o ho e he O=>U j o ho (M j (List.mem_cons_self ..)) e he O) x I
     ·exact M x (List.mem_cons_of_mem _ I)
    ·rcases List.mem_cons.1 I with rfl|I
     ·exact M _ (List.mem_cons_self ..)
     ·exact J x I
theorem RM {k:Nat}:∀{l:List Nat},JF k l=true→k∈l:=by
 intro l
 induction l with
 | nil=>intro h;cases h
 | cons i r ih =>
  intro h;simp only[JF,Bool.or_eq_true]at h;rcases h with h|h
  ·rw[Nat.eq_of_beq_eq_true h];exact List.mem_cons_self ..
  ·exact List.mem_cons_of_mem _ (ih h)
theorem Nb {h:Array Bool}{i j:Nat}{u:List Nat}(U:xo ops h)(hj:j∈Region.ready .any ops h)(hi:i∈Region.ready .any ops h):oY ops (i::u) j=i::oY ops u j:=by
 unfold oY;rw[List.filter_cons_of_pos];cases hm:JF i (Jy ops 1000 (Jz ops j) [])with
 | false=>rfl
 | true =>
  obtain⟨_,o,ho,C⟩:=mem_ready.1 hj;have J:=BN U 1000 (Jz ops j) [] (GF fun o' I => by rw[ho]at I;cases I;exact C) (fun x hx=>by cases hx) i (RM hm);have O:=(mem_ready.1 hi).1;rcases Nat.lt_or_ge i h.size with M|M
  ·simp[M]at O J;rw[O]at J;cases J
  ·simp[Array.getElem?_eq_none M]at J
def pX (P:Program)(ops:Array Oper)(Q:Exit→Act→World→Prop)(S:World→Prop):Nat→Array Bool→List Nat→Act→World→Prop
 | 0,listed,_,a,w=>Region.ready .any ops listed=[]∧Q .normal a w
 | fuel+1,listed,pend,a,w =>
  (Region.ready .any ops listed=[]→Q .normal a w) ∧
  ∀i∈Region.ready .any ops listed,wpOp P ops Q i (fun a' w' => (oY ops pend i≠[]→S w')∧pX P ops Q S fuel (listed.setIfInBounds i true) (oY ops pend i) a' w') a w
theorem rT :∀(fuel:Nat) (j:Array Bool) (u:List Nat) (a:Act) (w:World),pX P ops Q S fuel j u a w→wpAny P .any ops Q fuel j a w
 | 0,_,_,_,_,h=>h
 | fuel+1,_,_,_,_,h=>⟨h.1,fun i hi=>wpOp_mono (fun C w' I => rT fuel _ _ C w' I.2) (h.2 i hi)⟩
theorem KG :∀(fuel:Nat) (j:Array Bool) (a:Act) (w:World),wpAny P .any ops Q fuel j a w→pX P ops Q S fuel j [] a w
 | 0,_,_,_,h=>h
 | fuel+1,_,_,_,h=>⟨h.1,fun i hi=>wpOp_mono (fun u w' C => ⟨fun I=>absurd rfl I,KG fuel _ u w' C⟩) (h.2 i hi)⟩
theorem MU {S2:World→Prop}(J:∀x,S2 x→S x):∀(fuel:Nat) (j:Array Bool) (u:List Nat) (a:Act) (w:World),pX P ops Q S2 fuel j u a w→pX P ops Q S fuel j u a w
 | 0,_,_,_,_,h=>h
 | fuel+1,_,_,_,_,h=>⟨h.1,fun i hi=>wpOp_mono (fun M w' I => ⟨fun C=>J _ (I.1 C),MU J fuel _ _ M w' I.2⟩) (h.2 i hi)⟩
theorem Kl {p u:List Nat}{i:Nat}(h:∀x∈p,x∈u):∀x∈oY ops p i,x∈oY ops u i:=by
 intro x j;unfold oY at *;rw[List.mem_filter]at *;exact⟨h x j.1,j.2⟩
theorem xm :∀(fuel:Nat) (j:Array Bool) (p C:List Nat) (a:Act) (w:World),(∀x∈p,x∈C)→pX P ops Q S fuel j C a w→pX P ops Q S fuel j p a w
 | 0,_,_,_,_,_,_,h=>h
 | fuel+1,_,p,C,_,_,hp,h=>⟨h.1,fun i hi=>wpOp_mono (fun J w' I => ⟨fun u=>I.1 (fun M=>u (by
   cases O:oY ops p i with
   | nil=>rfl
   | cons x r =>
    have:=Kl (ops:=ops) (i:=i) hp x (by rw[O];exact List.mem_cons_self ..)
    rw[M]at this;cases this)),xm fuel _ _ _ J w' (Kl hp) I.2⟩) (h.2 i hi)⟩
theorem MV {i:Nat}{oi:Oper}{v:Value}(hi:ops[i]? = some oi)(aa:∀(j:Nat) (o:Oper) cs b,ops[j]? = some o→o.op≠.select cs b)(hQ:∀c a w,Q (.panic c) (a.put oi.dst v) w→Q (.panic c) a w):∀(fuel:Nat) (u:Array Bool) (I:List Nat) (a:Act) (w:World),xo ops u →
   (∀j oj,ops[j]? = some oj→j≠i→u.getD j true=false→(∀e∈oj.after,Region.binds .any e=true→e.on≠i)→oi.apart ops oj=true) →
   i∈Region.ready .any ops u→YieldsIf P ops S oi v a→S w →
   pX P ops Q S fuel (u.setIfInBounds i true) (i::I) (a.put oi.dst v) w→pX P ops Q S (fuel+1) u I a w:=by
 intro fuel
 induction fuel with
 | zero =>
  intro u I a w _ _ hr hy hS H;refine⟨fun h=>(by rw[h]at hr;cases hr),fun j hj=>?_⟩;by_cases C:j=i
  ·subst C;exact hy.wpOp hi hS ⟨fun _=>hS,H⟩
  ·have:=ready_mono hj C
   rw[H.1]at this;cases this
 | succ fuel ih =>
  intro u I a w hc J hr hy hS H;refine⟨fun h=>(by rw[h]at hr;cases hr),fun j hj=>?_⟩;by_cases C:j=i
  ·subst C;refine hy.wpOp hi hS ⟨fun _=>hS,xm _ _ _ _ _ _ (fun x hx=>?_) H⟩;unfold oY at hx;exact List.mem_cons_of_mem _ (List.mem_filter.1 hx).1
  ·have O:=H.2 j (ready_mono hj C);rw[Nb hc hj hr]at O;obtain⟨U,oj,ad,ag⟩:=mem_ready.1 hj;have am:∀e∈oj.after,Region.binds .any e=true→e.on≠i:=fun e he hb ap=>by
    have O:=ag e he hb;have h0:=(mem_ready.1 hr).1;rw[ap]at O;rcases Nat.lt_or_ge i u.size with h'|h'
    ·simp[h']at h0 O;rw[h0]at O;cases O
    ·simp[Array.getElem?_eq_none h']at O
   have h2:=wpOp_putIf ad (J j oj ad C U am) (fun cs b=>aa i oi cs b hi) (fun cs b=>aa j oj cs b ad) hQ hy O;have M:∀k ok,ops[k]? = some ok→k≠i→(u.setIfInBounds j true).getD k true=false →
     (∀e∈ok.after,Region.binds .any e=true→e.on≠i)→oi.apart ops ok=true:=fun k ok hk ar an av=>by
    refine J k ok hk ar ?_ av;by_cases al:j=k
    ·subst al;exact U
    ·rw[getD_set_ne true al]at an;exact an
   refine wpOp_mono (fun a' w' h3=>?_) h2;have af:S w':=h3.2.1 (by simp);refine⟨fun _=>af,ih (u.setIfInBounds j true) _ a' w' (th hc hj) M (ready_mono hr (Ne.symm C)) h3.1 af ?_⟩;rw[Array.setIfInBounds_comm _ _ C];exact h3.2.2
theorem Nl {i:Nat}{oi:Oper}{v:Value}(hi:ops[i]? = some oi)(U:∀(j:Nat) (o:Oper) cs b,ops[j]? = some o→o.op≠.select cs b)(hQ:∀c a w,Q (.panic c) (a.put oi.dst v) w→Q (.panic c) a w):∀(fuel:Nat) (u:Array Bool) (C:List Nat) (a:Act) (w:World),xo ops u →
   (∀j oj,ops[j]? = some oj→j≠i→u.getD j true=false→(∀e∈oj.after,Region.binds .any e=true→e.on≠i)→oi.apart ops oj=true) →
   i∈Region.ready .any ops u→YieldsIf P ops (fun _=>True) oi v a→(C≠[]→S w) →
   pX P ops Q S fuel (u.setIfInBounds i true) C (a.put oi.dst v) w→pX P ops Q S (fuel+1) u C a w:=by
 intro fuel
 induction fuel with
 | zero =>
  intro u C a w _ _ hr hy hS H;refine⟨fun h=>(by rw[h]at hr;cases hr),fun j hj=>?_⟩;by_cases I:j=i
  ·subst I;exact hy.wpOp hi trivial ⟨fun hh=>hS (fun h0=>hh (by rw[h0];rfl)),xm 0 _ _ C _ _ (fun x hx=>(List.mem_filter.1 hx).1) H⟩
  ·have:=ready_mono hj I
   rw[H.1]at this;cases this
 | succ fuel ih =>
  intro u C a w hc J hr hy hS H;refine⟨fun h=>(by rw[h]at hr;cases hr),fun j hj=>?_⟩;by_cases I:j=i
  ·subst I;exact hy.wpOp hi trivial ⟨fun hh=>hS (fun h0=>hh (by rw[h0];rfl)),xm _ _ _ _ _ _ (fun x hx=>(List.mem_filter.1 hx).1) H⟩
  ·have h1:=H.2 j (ready_mono hj I);obtain⟨O,oj,aa,ad⟩:=mem_ready.1 hj;have ag:∀e∈oj.after,Region.binds .any e=true→e.on≠i:=fun e he hb am=>by
    have h1:=ad e he hb;have h0:=(mem_ready.1 hr).1;rw[am]at h1;rcases Nat.lt_or_ge i u.size with h'|h'
    ·simp[h']at h0 h1;rw[h0]at h1;cases h1
    ·simp[Array.getElem?_eq_none h']at h1
   have h2:=wpOp_putIf aa (J j oj aa I O ag) (fun cs b=>U i oi cs b hi) (fun cs b=>U j oj cs b aa) hQ hy h1;have M:∀k ok,ops[k]? = some ok→k≠i→(u.setIfInBounds j true).getD k true=false →
     (∀e∈ok.after,Region.binds .any e=true→e.on≠i)→oi.apart ops ok=true:=fun k ok hk an al ap=>by
    refine J k ok hk an ?_ ap;by_cases af:j=k
    ·subst af;exact O
    ·rw[getD_set_ne true af]at al;exact al
   refine wpOp_mono (fun a' w' h3=>?_) h2;refine⟨h3.2.1,ih (u.setIfInBounds j true) _ a' w' (th hc hj) M (ready_mono hr (Ne.symm I)) h3.1 h3.2.1 ?_⟩;rw[Array.setIfInBounds_comm _ _ I];exact h3.2.2
theorem Cd {j:Array Bool}{u:List Nat}{a:Act}{w:World}(C:Region.ready .any ops j=[])(h:Q .normal a w):∀fuel,pX P ops Q S fuel j u a w
 | 0=>⟨C,h⟩
 | _+1=>⟨fun _=>h,by rw[C];simp⟩
end taken
theorem ID {ops:Array Oper}{K:KE}{Q:Exit→Act→World→Prop}(hK:∀e w,K e w→Q .normal ⟨e.toArray,ds⟩ w)(hQ:∀c a w,¬Q (.panic c) a w)(hs:Region.noSelect ops=true):∀(f:Nat) (u:Array Bool) (C:List Nat) (S:World→Prop) (e:Env) (w:World),S w→xo ops u→iN P ops K f u C S e w→pX P ops Q S f u C ⟨e.toArray,ds⟩ w:=by
 intro f
 induction f with
 | zero =>
  intro u C S e w hS hc h;simp only[iN]at h;cases hr:(Region.ready .any ops u).isEmpty
  case false=>rw[hr]at h;exact h.elim
  case true =>
   rw[hr]at h;exact Cd (List.isEmpty_iff.1 hr) (hK _ _ h) 0
 | succ f ih =>
  intro u C S e w hS hc h;simp only[iN]at h;cases hr:(Region.ready .any ops u).isEmpty
  case true =>
   rw[hr]at h;exact Cd (List.isEmpty_iff.1 hr) (hK _ _ h) _
  case false =>
   rw[hr]at h;have ap:Region.ready .any ops u≠[]:=fun I=>by rw[I]at hr;cases hr
   dsimp only at h;cases hf:(Region.ready .any ops u).find? (IC ops u)with
   | some i =>
    rw[hf]at h;have h:hAt ops i _:=h;have U:=List.mem_of_find?_eq_some hf;have M:=List.find?_some hf;unfold IC at M;unfold hAt at h;cases ho:ops[i]? with
    | none=>rw[ho]at h;exact h.elim
    | some o =>
     rw[ho]at h M;simp only[Bool.and_eq_true]at M;cases aa:OH o with
     | true =>
      dsimp only at h;rw[aa]at h;obtain⟨v,hv,hk⟩:=NA h;have J:o.guard=none:=by
       unfold OH at aa;cases hg:o.guard with
       | none=>rfl
       | some _=>rw[hg]at aa;cases aa
      have hy:YieldsIf P ops (fun _=>True) o v ⟨e.toArray,ds⟩:=.inl ⟨by simp[Region.wanted,J],fun w hS=>by
       obtain⟨v',w',ad,rfl,rfl⟩:=Jp M.1 (hv w hS);exact ad⟩
      refine Nl ho (Region.noSelect_spec hs) (fun c a w I=>absurd I (hQ _ _ _)) (v:=v) _ _ _ _ _ hc (Region.free_spec ho M.2) U hy (fun _=>hS) ?_;rw[tt];exact ih _ _ _ _ _ hS (th hc U) hk
     | false =>
     dsimp only at h;rw[aa]at h;have ar:∃v,YieldsIf P ops S o v ⟨e.toArray,ds⟩∧iN P ops K f (u.setIfInBounds i true) (i::C) S (pt e o.dst v) w:=by
      dsimp only at h;unfold Rm at h;cases J:o.guard with
      | none =>
       rw[J]at h;obtain⟨v,hv,hk⟩:=NA h;refine⟨v,.inl ⟨by simp[Region.wanted,J],fun w hS=>?_⟩,hk⟩;obtain⟨v',w',ad,rfl,rfl⟩:=Jp M.1 (hv w hS);exact ad
      | some jw =>
       obtain⟨j,O⟩:=jw;rw[J]at h;obtain⟨v,hv,hu,hk⟩:=h;have hw:=td ops.toList e o j O J;rw[show ops.toList.toArray=ops from rfl]at hw;refine⟨v,?_,hk⟩;by_cases ha:asB (ph ops.toList e j)=some O
       ·refine .inl ⟨by rw[hw,ha];simp,fun w hS=>?_⟩;obtain⟨v',w',ad,rfl,rfl⟩:=Jp M.1 (hv ha w hS);exact ad
       ·exact .inr ⟨by rw[hw];simpa using ha,hu ha⟩
     obtain⟨v,hy,hk⟩:=ar;refine MV ho (Region.noSelect_spec hs) (fun c a w I=>absurd I (hQ _ _ _)) (v:=v) _ _ _ _ _ hc (Region.free_spec ho M.2) U hy hS ?_;rw[tt];exact ih _ _ _ _ _ hS (th hc U) hk
   | none =>
    rw[hf]at h;refine⟨fun h0=>absurd h0 ap,fun i hi=>?_⟩;have h2:=Py _ h i hi;unfold hAt at h2;cases ho:ops[i]? with
    | none=>rw[ho]at h2;exact h2.elim
    | some o =>
     rw[ho]at h2;have al:∀(v:Value) (w':World),(match oY ops C i with
       | [] =>
        match (Region.ready .any ops (u.setIfInBounds i true)).isEmpty with
        | true=>iN P ops K f (u.setIfInBounds i true) [] S (pt e o.dst v) w'
        | false=>aG (fun S w=>iN P ops K f (u.setIfInBounds i true) [] S (pt e o.dst v) w) w'
       | p::ps=>aY S (fun S w=>iN P ops K f (u.setIfInBounds i true) (p::ps) S (pt e o.dst v) w) w') →
       (oY ops C i≠[]→S w')∧pX P ops Q S f (u.setIfInBounds i true) (oY ops C i) ⟨(pt e o.dst v).toArray,ds⟩ w':=by
      intro v w' I;cases hl:oY ops C i with
      | nil =>
       rw[hl]at I;dsimp only at I;refine⟨fun h0=>absurd rfl h0,?_⟩;cases af:(Region.ready .any ops (u.setIfInBounds i true)).isEmpty with
       | true =>
        rw[af]at I;have I:iN P ops K f (u.setIfInBounds i true) [] S (pt e o.dst v) w':=I
        have:K (pt e o.dst v) w':=by
         cases f with
         | zero=>simp only[iN,af]at I;exact I
         | succ f=>simp only[iN,af]at I;exact I
        exact Cd (List.isEmpty_iff.1 af) (hK _ _ this) _
       | false =>
        rw[af]at I;obtain⟨S2,ag,I⟩:=I;exact KG _ _ _ _ (rT _ _ _ _ _ (ih _ _ _ _ _ ag (th hc hi) I))
      | cons p ps =>
       rw[hl]at I;obtain⟨S2,ag,an,I⟩:aY S (fun S w=>iN P ops K f (u.setIfInBounds i true) (p::ps) S (pt e o.dst v) w) w':=I;exact⟨fun _=>ag _ an,MU ag _ _ _ _ _ (ih _ _ _ _ _ an (th hc hi) I)⟩
     refine wpOp_step ho fun K' am=>?_;dsimp only at h2;unfold QP at h2;cases J:o.guard with
     | none =>
      rw[J]at h2;rw[if_pos (by simp[Region.wanted,J])];exact xn h2 fun v w' I=>am _ _ (al v w' I)
     | some jw =>
      obtain⟨j,O⟩:=jw;rw[J]at h2;have hw:=td ops.toList e o j O J;rw[show ops.toList.toArray=ops from rfl]at hw;by_cases ha:asB (ph ops.toList e j)=some O
      ·rw[if_pos (by rw[hw,ha];simp)];exact xn (h2.1 ha) fun v w' I=>am _ _ (al v w' I)
      ·rw[if_neg (by rw[hw];simpa using ha)];refine am _ _ ?_;rw[tt];exact al undef w (h2.2 ha)
theorem GC (ops:Array Oper)(n:Nat):xo ops (Array.replicate n false):=by
 intro j o _ h;rcases Nat.lt_or_ge j n with u|u
 ·simp[Array.getD,u]at h
 ·simp[Array.getD,Nat.not_lt.2 u]at h
theorem IE {ops:Array Oper}(h:FS P ops=true):Region.noSelect ops=true:=by
 simp only[FS,Bool.and_eq_true]at h;exact h.1
theorem xh :∀(c:Code) (N:KE) (X:Nat→KE) (R:KE) (e:Env) (w:World),ae P c N X R e w→c.wp P (QQ ds N X R) ⟨e.toArray,ds⟩ w:=by
 intro c
 induction c with
 | skip=>intro N X R e w h;exact wp_skip ⟨e,rfl,h⟩
 | region id ops draw =>
  intro N X R e w h;cases draw with
  | true =>
   simp only[ae]at h;cases U:(P.follows .mixedOrders&&FS P ops)
   case true =>
    rw[U]at h;obtain⟨S,hS,h⟩:=h;simp only[Bool.and_eq_true]at U;exact wp_region_any U.1 (rT _ _ _ _ _ (ID (fun e w hN=>⟨e,rfl,hN⟩) (fun c a w hh=>hh) (IE U.2) _ _ _ _ _ _ hS (GC ops _) h))
   case false =>
   rw[U]at h;dsimp only at h;cases O:(P.follows .mixedOrders&&Nat.ble (jC ops) ops.size)
   case false=>rw[O]at h;exact h.elim
   case true =>
    rw[O]at h;have h:wZ _ _ _ _ _ _:=h;simp only[Bool.and_eq_true]at O;obtain⟨j,u⟩:=qT (ops.toList.take (jC ops));obtain⟨h3,h4⟩:=qT (ops.toList.drop (jC ops));have J:∀e,fh P ops.toList (grp (ops.toList.drop (jC ops))) N e w.drew→wpList P ops.toList.toArray (QQ ds N X R) (ops.toList.drop (jC ops)) ⟨e.toArray,ds⟩ w.drew:=by
     intro e he
     have:=yM (P:=P) (ops:=ops.toList) (Q:=QQ ds N X R) (K:=N) (fun e w h=>⟨e,rfl,h⟩) (grp (ops.toList.drop (jC ops))) e w.drew h4 he
     rwa[h3]at this
    rcases Is ops O.2 with⟨hB,hn⟩|⟨hB,hn⟩
    ·have M:=zw (P:=P) (ops:=ops.toList) (Q:=fun a=>QQ ds N X R .normal a w.drew) (w:=w.drew) (fun e he=>by
      have:=J e he
      rw[hn,List.drop_of_length_le (by simp)]at this;exact this) _ e u h
     rw[j,hn,List.take_of_length_le (by simp)]at M;refine wp_region_still O.1 hB ?_;simpa using M
    ·have M:=zw (P:=P) (ops:=ops.toList) (Q:=fun a=>wpList P ops.toList.toArray (QQ ds N X R) (ops.toList.drop (jC ops)) a w.drew) (w:=w.drew) (fun e he=>J e he) _ e u h;rw[j]at M
     have:=wp_region_still_tail (P:=P) (id:=id) (Q:=QQ ds N X R) (a:=⟨e.toArray,ds⟩) (w:=w) (l:=ops.toList) (jC ops) O.1 (by simpa using hB) M
     simpa using this
  | false =>
   refine wp_region_list ?_;obtain⟨j,u⟩:=qT ops.toList
   have:=yM (P:=P) (ops:=ops.toList) (Q:=QQ ds N X R) (K:=N) (fun e w h=>⟨e,rfl,h⟩) (grp ops.toList) e w u h
   rw[j]at this;simpa using this
 | seq a b iha ihb =>
  intro N X R e w h;refine wp_seq (wp_mono (iha _ _ _ _ _ h) ?_);intro x a w C;cases x with
  | normal=>obtain⟨e,rfl,h⟩:=C;exact ihb _ _ _ _ _ h
  | _=>exact C
 | cond c x y ihx ihy =>
  intro N X R e w h;obtain⟨b,hb,j,u⟩:=h;cases b with
  | true=>exact wp_cond (t:=true) (by rw[pY];exact hb) (ihx _ _ _ _ _ (j rfl))
  | false=>exact wp_cond (t:=false) (by rw[pY];exact hb) (ihy _ _ _ _ _ (u rfl))
 | block id c ih =>
  intro N X R e w h;refine wp_block (wp_mono (ih _ _ _ _ _ h) ?_);intro x a w C;cases x with
  | exit i =>
   obtain⟨e,rfl,h⟩:=C;simp only[Exit.inBlock];by_cases hi:i=id
   ·rw[if_pos hi]
    have:Nat.beq i id=true:=by rw[hi];exact Nat.beq_refl id
    rw[this]at h;exact⟨e,rfl,h⟩
   ·rw[if_neg hi]
    have:Nat.beq i id=false:=by
     cases hb:Nat.beq i id with
     | false=>rfl
     | true=>exact absurd (Nat.eq_of_beq_eq_true hb) hi
    rw[this]at h;exact⟨e,rfl,h⟩
  | _=>exact C
 | loop c ih =>
  intro N X R e w h;obtain⟨I,μ,h0,M⟩:=h;refine wp_loop (fun a w=>∃e:Env,a=⟨e.toArray,ds⟩∧I e w) (fun a w=>μ a.tmps.toList w) ⟨e,rfl,h0⟩ ?_;rintro _ w' ⟨e',rfl,hI⟩;refine wp_mono (ih _ _ _ _ _ (M e' w' hI)) ?_;intro x a w C;cases x with
  | normal=>obtain⟨e2,rfl,j,u⟩:=C;exact⟨⟨e2,rfl,j⟩,by simpa using u⟩
  | _=>exact C
 | exit i=>intro N X R e w h;exact wp_exit ⟨e,rfl,h⟩
 | ret=>intro N X R e w h;exact wp_ret ⟨e,rfl,h⟩
 | _=>intro N X R e w h;exact h.elim
def oB (l:List (Option TypeId×Value)):Sem Value:=do
 let vs ←l.toArray.mapM fun|(none,v)=>pure v|(some t,a)=>do loadVar t (←asAddr a)
 pure (if h:vs.size=1 then vs[0]else .tuple vs)
def bp (P:Program)(l:List (Option TypeId×Value))(K:KV)(w:World):Prop:=match (oB l).run P w with | .ok v w' => w'=w∧K v w|_=>False
def Fu (rs:List ResultVar)(e:Env):List (Option TypeId×Value):=rs.map fun | .tmp t=>(none,gd e t) | .cell a t=>(some t,gd e a)
def vC (P:Program)(rs:List ResultVar)(K:KV)(e:Env)(w:World):Prop :=
 match rs with
 | []=>K (.tuple #[]) w
 | [.tmp t]=>K (gd e t) w
 | [.tmp t,.tmp u]=>K (.tuple #[gd e t,gd e u]) w
 | [.tmp t,.tmp u,.tmp v]=>K (.tuple #[gd e t,gd e u,gd e v]) w
 | [.tmp t,.tmp u,.tmp v,.tmp x]=>K (.tuple #[gd e t,gd e u,gd e v,gd e x]) w
 | rs=>bp P (Fu rs e) K w
theorem OP (h:Func)(e:Env)(w:World):(results h e.toArray).run P w=(oB (Fu h.results.toList e)).run P w:=by
 unfold results oB Fu
 have:((h.results.toList.map fun | .tmp t=>((none,gd e t):Option TypeId×Value) | .cell a t=>(some t,gd e a))).toArray=h.results.map (fun | .tmp t=>((none,gd e t):Option TypeId×Value) | .cell a t=>(some t,gd e a)):=by
  rw[←Array.toList_map]
 rw[this,Array.mapM_map]
 congr 2
 congr 1
 funext x;cases x with
 | tmp t=>simp only[Function.comp,zS]
 | cell a t=>simp only[Function.comp,zS]
theorem tu {C:Func}{K:KV}{e:Env}{w:World}(h:vC P C.results.toList K e w):∃v,(results C e.toArray).run P w=.ok v w∧K v w:=by
 rw[OP];unfold vC at h;split at h
 ·rename_i j;rw[j];exact⟨_,by simp[oB,Fu],h⟩
 ·rename_i j;rw[j];exact⟨_,by simp[oB,Fu],h⟩
 ·rename_i j;rw[j];exact⟨_,by simp[oB,Fu],h⟩
 ·rename_i j;rw[j];exact⟨_,by simp[oB,Fu],h⟩
 ·rename_i j;rw[j];exact⟨_,by simp[oB,Fu],h⟩
 ·unfold bp at h;split at h
  ·rename_i v w' u;obtain⟨rfl,I⟩:=h;exact⟨v,u,I⟩
  ·exact h.elim
theorem enter {f:FuncId}{j:Func}{c:Code}{args:List Value}{w:World}{K:KV}(O:P.funcs[f]? = some j)(M:j.body=some c)(h:ae P c (vC P j.results.toList K) (fun _ _ _=>False) (vC P j.results.toList K) (args++List.replicate (j.ntmps-args.length) undef) w):Gives P f args.toArray w K:=by
 refine calls_of_wp O M ?_;have J:args.toArray++Array.replicate (j.ntmps-args.toArray.size) undef=(args++List.replicate (j.ntmps-args.length) undef).toArray:=by simp
 rw[J];refine wp_mono (xh c _ _ _ _ _ h) ?_;intro x a w u;cases x with
 | normal=>obtain⟨e,rfl,h⟩:=u;obtain⟨v,C,I⟩:=tu h;exact⟨rfl,v,C,v,rfl,I⟩
 | ret=>obtain⟨e,rfl,h⟩:=u;obtain⟨v,C,I⟩:=tu h;exact⟨rfl,v,C,v,rfl,I⟩
 | exit i=>obtain⟨_,_,h⟩:=u;exact h.elim
 | _=>exact u.elim
/-! ## What a piece of code does not write stays. -/

def wr :Code→List Nat
 | .region _ ops _=>fi ops.toList
 | .seq a b=>wr a++wr b
 | .cond _ x y=>wr x++wr y
 | .block _ c=>wr c
 | .loop c=>wr c
 | _=>[]
theorem uD :∀(ds:List Nat) (vs:List Value) (e:Env),agree ds e (vG e ds vs):=by
 intro ds vs e;refine⟨?_,fun i hi=>by simp only[gd,List.getD,vG,Qp vs ds 0 e i hi]⟩
 have:∀(ds:List Nat) (k:Nat) (e:Env),(tx vs ds k e).length=e.length:=by
  intro ds
  induction ds with
  | nil=>intro k e;rfl
  | cons d ds ih=>intro k e;simp only[tx];rw[ih];simp
 exact this ds 0 e
theorem Il {ops:List Oper}:∀(u:List (Option (Nat×Bool)×List Oper)) {K K':KE} {e:Env} {w:World},fh P ops u K e w →
  (∀I w2,agree (fi (u.flatMap (·.2))) e I→K I w2→K' I w2)→fh P ops u K' e w:=by
 intro u
 induction u with
 | nil=>intro K K' e w h C;exact C _ _ (agree.refl _ _) h
 | cons g u ih =>
  intro K K' e w h C;obtain⟨M,l⟩:=g;have hd:fi (((M,l)::u).flatMap (·.2))=fi l++fi (u.flatMap (·.2)):=by simp[fi,List.filterMap_append]
  rw[hd]at C;cases M with
  | none=>exact CS l h fun I w2 ha h2=>ih h2 fun J w3 O=>C J w3 (ha.trans O)
  | some jw =>
   obtain⟨j,aa⟩:=jw;simp only[fh]at h ⊢;cases U:((ops[j]?).bind (·.dst)).any ((fi l).contains ·)
   case true=>rw[U]at h;exact h.elim
   case false =>
    rw[U]at h;have h:aI _ _ _ _ _:=h;show aI _ _ _ _ _;refine⟨fun hv=>?_,fun hv=>?_⟩
    ·refine CS l (h.1 hv) ?_;intro I w2 ha h2;exact ih h2 fun J w3 O=>C J w3 ((uD _ _ _).trans O)
    ·exact ih (h.2 hv) fun J w3 O=>C J w3 ((uD _ _ _).trans O)
theorem OR {ops:List Oper}:∀(u:List (Option (Nat×Bool)×List Oper)) {K K':KE} {e:Env} {w:World},wZ P ops u K e w →
  (∀I,agree (fi (u.flatMap (·.2))) e I→K I w→K' I w)→wZ P ops u K' e w:=by
 intro u
 induction u with
 | nil=>intro K K' e w h C;exact C _ (agree.refl _ _) h
 | cons g u ih =>
  intro K K' e w h C;obtain⟨M,l⟩:=g;have hd:fi (((M,l)::u).flatMap (·.2))=fi l++fi (u.flatMap (·.2)):=by simp[fi,List.filterMap_append]
  rw[hd]at C;cases M with
  | none=>exact DU l h fun I ha h2=>ih h2 fun J O=>C J (ha.trans O)
  | some jw =>
   obtain⟨j,aa⟩:=jw;simp only[wZ]at h ⊢;cases U:((ops[j]?).bind (·.dst)).any ((fi l).contains ·)
   case true=>rw[U]at h;exact h.elim
   case false =>
    rw[U]at h;have h:aI _ _ _ _ _:=h;show aI _ _ _ _ _;refine⟨fun hv=>?_,fun hv=>?_⟩
    ·refine DU l (h.1 hv) ?_;intro I ha h2;exact ih h2 fun J O=>C J ((uD _ _ _).trans O)
    ·exact ih (h.2 hv) fun J O=>C J ((uD _ _ _).trans O)
theorem Ox {ops:Array Oper}{K K':KE}:∀(f:Nat) (j:Array Bool) (I:List Nat) (S:World→Prop) (e:Env) (w:World),iN P ops K f j I S e w→(∀e2 w2,agree (fi ops.toList) e e2→K e2 w2→K' e2 w2)→iN P ops K' f j I S e w:=by
 intro f;have ag:∀{i:Nat} {o:Oper} (e:Env) (v:Value),ops[i]? = some o→agree (fi ops.toList) e (pt e o.dst v):=by
  intro i o e v J;refine(CQ e o.dst v).mono fun k O=>?_;have hm:o∈ops.toList:=by have:=Array.mem_of_getElem? J;simpa using this
  simp only[fi,List.mem_filterMap];exact⟨o,hm,by simpa using O⟩
 induction f with
 | zero =>
  intro j I S e w h O;simp only[iN]at h ⊢;cases hr:(Region.ready .any ops j).isEmpty
  case false=>rw[hr]at h;exact h
  case true=>rw[hr]at h;exact O _ _ (agree.refl _ _) h
 | succ f ih =>
  intro j I S e w h O;simp only[iN]at h ⊢;cases hr:(Region.ready .any ops j).isEmpty
  case true=>rw[hr]at h;exact O _ _ (agree.refl _ _) h
  case false =>
   rw[hr]at h;dsimp only at h ⊢;have u:∀{i:Nat} {o:Oper} (p:List Nat) (S:World→Prop) (v:Value) (w':World),ops[i]? = some o→iN P ops K f (j.setIfInBounds i true) p S (pt e o.dst v) w'→iN P ops K' f (j.setIfInBounds i true) p S (pt e o.dst v) w':=by
    intro i o p S v w' J C;exact ih _ _ _ _ _ C fun e2 w2 ha=>O e2 w2 (((ag e v J).trans ha).mono (fun k O=>by simpa using O))
   cases hf:(Region.ready .any ops j).find? (IC ops j)with
   | some i =>
    rw[hf]at h;have h:hAt ops i _:=h;show hAt ops i _;unfold hAt at *;cases J:ops[i]? with
    | none=>rw[J]at h;exact h.elim
    | some o =>
     rw[J]at h;dsimp only at h ⊢;cases ad:OH o with
     | true =>
      rw[ad]at h;dsimp only at h ⊢;unfold hOp at *;split at h
      ·exact u _ _ _ _ J h
      ·exact u _ _ _ _ J h
      ·exact u _ _ _ _ J h
      ·obtain⟨v,hv,C⟩:=h;exact⟨v,hv,u _ _ _ _ J C⟩
     | false =>
     rw[ad]at h;dsimp only at h ⊢;unfold Rm at *;cases M:o.guard with
     | some jw =>
      rw[M]at h;obtain⟨v,hv,hu,C⟩:=h;exact⟨v,hv,hu,u _ _ _ _ J C⟩
     | none =>
     rw[M]at h;dsimp only at h ⊢;unfold hOp at *;split at h
     ·exact u _ _ _ _ J h
     ·exact u _ _ _ _ J h
     ·exact u _ _ _ _ J h
     ·obtain⟨v,hv,C⟩:=h;exact⟨v,hv,u _ _ _ _ J C⟩
   | none =>
    rw[hf]at h;refine Ow (fun i C=>?_) _ h;unfold hAt at *;cases J:ops[i]? with
    | none=>rw[J]at C;exact C.elim
    | some o =>
     rw[J]at C;have U:∀(v:Value) (w':World),(match oY ops I i with
       | [] =>
        match (Region.ready .any ops (j.setIfInBounds i true)).isEmpty with
        | true=>iN P ops K f (j.setIfInBounds i true) [] S (pt e o.dst v) w'
        | false=>aG (fun S w=>iN P ops K f (j.setIfInBounds i true) [] S (pt e o.dst v) w) w'
       | p::ps=>aY S (fun S w=>iN P ops K f (j.setIfInBounds i true) (p::ps) S (pt e o.dst v) w) w')→(match oY ops I i with
       | [] =>
        match (Region.ready .any ops (j.setIfInBounds i true)).isEmpty with
        | true=>iN P ops K' f (j.setIfInBounds i true) [] S (pt e o.dst v) w'
        | false=>aG (fun S w=>iN P ops K' f (j.setIfInBounds i true) [] S (pt e o.dst v) w) w'
       | p::ps=>aY S (fun S w=>iN P ops K' f (j.setIfInBounds i true) (p::ps) S (pt e o.dst v) w) w'):=by
      intro v w' C;cases hl:oY ops I i with
      | nil =>
       rw[hl]at C;dsimp only at C ⊢;cases af:(Region.ready .any ops (j.setIfInBounds i true)).isEmpty with
       | true=>rw[af]at C;exact u _ _ _ _ J C
       | false=>rw[af]at C;obtain⟨S2,aa,C⟩:=C;exact⟨S2,aa,u _ _ _ _ J C⟩
      | cons p ps =>
       rw[hl]at C;obtain⟨S2,aa,al,C⟩:aY S (fun S w=>iN P ops K f (j.setIfInBounds i true) (p::ps) S (pt e o.dst v) w) w':=C;exact⟨S2,aa,al,u _ _ _ _ J C⟩
     dsimp only at C ⊢;unfold QP at *;cases M:o.guard with
     | some jw =>
      rw[M]at C;exact⟨fun ha=>zI U (C.1 ha),fun ha=>U _ _ (C.2 ha)⟩
     | none =>
      rw[M]at C;exact zI U C
theorem xg :∀(c:Code) {N N':KE} {X X':Nat→KE} {R R':KE} {e:Env} {w:World},ae P c N X R e w→(∀e2 j,agree (wr c) e e2→N e2 j→N' e2 j) →
  (∀i e2 j,agree (wr c) e e2→X i e2 j→X' i e2 j)→(∀e2 j,agree (wr c) e e2→R e2 j→R' e2 j)→ae P c N' X' R' e w:=by
 intro c
 induction c with
 | skip=>intro N N' X X' R R' e w h hN J C;exact hN _ _ (agree.refl _ _) h
 | region id ops draw =>
  intro N N' X X' R R' e w h hN J C;cases draw with
  | true =>
   simp only[ae]at h ⊢;cases hd:(P.follows .mixedOrders&&FS P ops)
   case true =>
    rw[hd]at h;obtain⟨S,hS,h⟩:=h;exact⟨S,hS,Ox _ _ _ _ _ _ h hN⟩
   case false =>
   rw[hd]at h;dsimp only at h ⊢;cases hf:(P.follows .mixedOrders&&Nat.ble (jC ops) ops.size)
   case false=>rw[hf]at h;exact h.elim
   case true =>
    rw[hf]at h;have h:wZ _ _ _ _ _ _:=h;show wZ _ _ _ _ _ _;have hd:wr (.region id ops true)=fi (ops.toList.take (jC ops))++fi (ops.toList.drop (jC ops)):=by
     show fi ops.toList=_;simp only[fi];rw[←List.filterMap_append,List.take_append_drop]
    rw[hd]at hN;refine OR _ h ?_;rw[(qT (ops.toList.take (jC ops))).1];intro e2 u h2;refine Il _ h2 ?_;rw[(qT (ops.toList.drop (jC ops))).1];intro U w3 O h3;exact hN U w3 (u.trans O) h3
  | false =>
   refine Il _ h ?_;rw[(qT ops.toList).1];exact hN
 | seq a b iha ihb =>
  intro N N' X X' R R' e w h hN J C;have hl:∀i∈wr a,i∈wr (.seq a b):=fun i hi=>List.mem_append_left _ hi;refine iha h ?_ (fun i e2 j u=>J i e2 j (u.mono hl)) (fun e2 j u=>C e2 j (u.mono hl));intro e2 j u h2;exact ihb h2 (fun U w3 O=>hN U w3 (u.trans O)) (fun i U w3 O=>J i U w3 (u.trans O)) (fun U w3 O=>C U w3 (u.trans O))
 | cond c x y ihx ihy =>
  intro N N' X X' R R' e w h hN J C;have hl:∀i∈wr x,i∈wr (.cond c x y):=fun i hi=>List.mem_append_left _ hi;have hr:∀i∈wr y,i∈wr (.cond c x y):=fun i hi=>List.mem_append_right _ hi;obtain⟨b,O,h1,h2⟩:=h;exact⟨b,O,fun hh=>ihx (h1 hh) (fun e2 j u=>hN e2 j (u.mono hl)) (fun i e2 j u=>J i e2 j (u.mono hl)) (fun e2 j u=>C e2 j (u.mono hl)),
   fun hh=>ihy (h2 hh) (fun e2 j u=>hN e2 j (u.mono hr)) (fun i e2 j u=>J i e2 j (u.mono hr)) (fun e2 j u=>C e2 j (u.mono hr))⟩
 | block id c ih =>
  intro N N' X X' R R' e w h hN J C;refine ih h hN ?_ C;intro i e2 j u hx;cases hi:Nat.beq i id
  ·rw[hi]at hx;exact J i e2 j u hx
  ·rw[hi]at hx;exact hN e2 j u hx
 | loop c ih =>
  intro N N' X X' R R' e w h hN J C;obtain⟨I,μ,h0,hs⟩:=h;refine⟨fun e' w' => I e' w'∧agree (wr c) e e',μ,⟨h0,agree.refl _ _⟩,?_⟩;rintro e' w' ⟨hI,aa⟩;have M:∀e2,agree (wr c) e' e2→agree (wr c) e e2:=fun e2 u=>(aa.trans u).mono (fun i hi=>by simpa using hi)
  exact ih (hs e' w' hI) (fun e2 j u ⟨h1,h2⟩=>⟨⟨h1,M e2 u⟩,h2⟩) (fun i e2 j u=>J i e2 j (M e2 u)) (fun e2 j u=>C e2 j (M e2 u))
 | exit i=>intro N N' X X' R R' e w h hN J C;exact J i _ _ (agree.refl _ _) h
 | ret=>intro N N' X X' R R' e w h hN J C;exact C _ _ (agree.refl _ _) h
 | _=>intro N N' X X' R R' e w h hN J C;exact h.elim
def mix (ws:List Nat)(e':Env):Nat→Env→Env
 | _,[]=>[]
 | k,v::e=>(if ws.contains k then gd e' k else v)::mix ws e' (k+1) e
theorem TB (ws:List Nat)(e':Env):∀(e:Env) (k i:Nat),(mix ws e' k e)[i]? = (e[i]?).map fun v=>if ws.contains (k+i)then gd e' (k+i)else v:=by
 intro e
 induction e with
 | nil=>intro k i;simp[mix]
 | cons v e ih =>
  intro k i;cases i with
  | zero=>simp[mix]
  | succ i=>simp only[mix,List.getElem?_cons_succ,ih];rw[show k+1+i=k+(i+1)by omega]
theorem Ks {ws:List Nat}{e e':Env}(h:agree ws e e'):mix ws e' 0 e=e':=by
 apply List.ext_getElem?;intro i;rw[TB,Nat.zero_add];by_cases hi:i<e.length
 ·have j:i<e'.length:=by rw[h.1];exact hi
  rw[List.getElem?_eq_getElem hi,List.getElem?_eq_getElem j];have u:gd e' i=e'[i]:=by simp[gd,List.getD,j]
  by_cases I:ws.contains i=true
  ·simp[u];intro J;exact absurd (by simpa using I) J
  ·have C:=h.2 i (by simpa using I);rw[u]at C
   have:gd e i=e[i]:=by simp[gd,List.getD,hi]
   rw[this]at C;simp only[Option.map_some,I];simp[C]
 ·have j:¬i<e'.length:=by rw[h.1];exact hi
  simp[List.getElem?_eq_none (Nat.le_of_not_lt hi),List.getElem?_eq_none (Nat.le_of_not_lt j)]
theorem aL (c:Code)(ws:List Nat)(J:(wr c).all (ws.contains ·)=true)(I:KE)(μ:Env→World→Nat){N:KE}{X:Nat→KE}{R:KE}{e:Env}{w:World}(O:I e w)(hs:∀e' w',I e' w'→ae P c (fun C M=>I C M∧μ C M<μ e' w') X R (mix ws e' 0 e) w'):ae P (.loop c) N X R e w:=by
 have u:∀i∈wr c,i∈ws:=fun i hi=>by simpa using List.all_eq_true.1 J i hi
 refine⟨fun e' w' => I e' w'∧agree ws e e',μ,⟨O,agree.refl _ _⟩,?_⟩;rintro e' w' ⟨hI,j⟩;have h:=hs e' w' hI;rw[Ks j]at h;exact xg c h (fun C M ha ⟨U,h2⟩=>⟨⟨U,(j.trans (ha.mono u)).mono (fun i hi=>by simpa using hi)⟩,h2⟩) (fun _ _ _ _ h=>h) (fun _ _ _ h=>h)
def sub :List Nat→Code→Code
 | 0::p,.seq a _=>sub p a
 | 1::p,.seq _ b=>sub p b
 | 0::p,.cond _ x _=>sub p x
 | 1::p,.cond _ _ y=>sub p y
 | 0::p,.block _ c=>sub p c
 | 0::p,.loop c=>sub p c
 | [],c=>c
 | _,_=>.skip
def rep :List Nat→Code→Code→Code
 | 0::p,x,.seq a b=>.seq (rep p x a) b
 | 1::p,x,.seq a b=>.seq a (rep p x b)
 | 0::p,x,.cond c a b=>.cond c (rep p x a) b
 | 1::p,x,.cond c a b=>.cond c a (rep p x b)
 | 0::p,x,.block i c=>.block i (rep p x c)
 | 0::p,x,.loop c=>.loop (rep p x c)
 | [],x,_=>x
 | _,_,c=>c
def cd (f:Func)(p:List Nat):Code:=sub p (f.body.getD .skip)
theorem aB {f:FuncId}{j:Func}{args:List Value}{w:World}{K:KV}(I:P.funcs[f]? = some j)(C:j.body.isSome=true)(h:ae P (cd j []) (vC P j.results.toList K) (fun _ _ _=>False) (vC P j.results.toList K) (args++List.replicate (j.ntmps-args.length) undef) w):Gives P f args.toArray w K:=by
 cases u:j.body with
 | none=>simp[u]at C
 | some c =>
  refine enter I u ?_
  have:cd j []=c:=by simp[cd,u,sub]
  rw[this]at h;exact h
end sound
end Go.Proofs.YtkbhfjljieopoaaGreatDoor
