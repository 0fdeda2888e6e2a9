import Derived.WalkKit
import Derived.WalkSpells
import Derived.WalkLawsBesides
import Derived.KernelRfl
import Derived.Still
import Derived.StillTail
import Derived.OrdersHeld
import Derived.RegionTactic
namespace Go.Proofs.YtgpfkmdknlcemaaGreatDoor
set_option maxRecDepth 100000
set_option maxHeartbeats 4000000
open Go.RowKit
def re (l:List UInt8):ByteArray:=⟨l.toArray⟩
abbrev Env :=List Value
abbrev KV :=Value→World→Prop
abbrev KE :=Env→World→Prop
def gd (e:Env)(t:Nat):Value:=e.getD t undef
def ev (e:Env):Operand→Value
 | .tmp t=>gd e t
 | .const v=>v
 | .global g=>.pointer (some ⟨g,0,none⟩)
 | .func f=>.func (.func f) #[] #[]
def pt (e:Env)(d:Option Tmp)(v:Value):Env:=match d with|some d=>e.set d v|none=>e
def Gives (P:Program)(f:FuncId)(args:Array Value)(w:World)(K:KV):Prop :=
 Calls P f args w fun e w' => ∃v,e=.returned v∧K v w'
theorem Gives.mono {P:Program}{f:FuncId}{args:Array Value}{w:World}{K K':KV}(h:Gives P f args w K)(d:∀v w',K v w'→K' v w'):Gives P f args w K' :=
 Calls.mono h fun _ _ ⟨v,j,u⟩=>⟨v,j,d v _ u⟩
def okV (P:Program)(s:Sem Value)(K:KV)(w:World):Prop:=match s.run P w with | .ok v w' => K v w' | .halt _ _=>False
def okU (P:Program)(s:Sem Unit)(K:KV)(w:World):Prop:=match s.run P w with | .ok _ w' => K undef w' | .halt _ _=>False
theorem QI {P:Program}{s:Sem Value}{K K':KV}{w:World}(d:∀v w',K v w'→K' v w')(h:okV P s K w):okV P s K' w:=by
 unfold okV at *;split at h
 ·exact d _ _ h
 ·exact h.elim
theorem QJ {P:Program}{s:Sem Unit}{K K':KV}{w:World}(d:∀v w',K v w'→K' v w')(h:okU P s K w):okU P s K' w:=by
 unfold okU at *;split at h
 ·exact d _ _ h
 ·exact h.elim
theorem gW {P:Program}{s:Sem Value}{K:KV}{w w':World}{v:Value}(h:s.run P w=.ok v w')(d:K v w'):okV P s K w:=by
 unfold okV;rw[h];exact d
theorem GD {P:Program}{s:Sem Unit}{K:KV}{w w':World}{u:Unit}(h:s.run P w=.ok u w')(d:K undef w'):okU P s K w:=by
 unfold okU;rw[h];exact d
def isC :Operand→Bool | .const _=>true|_=>false
def Un (c:Bool)(v:Value):Operand:=match c with|true=>.const v|false=>.tmp 0
def eqG (op:BinOp)(t:TypeId)(cx cy:Bool)(a b:Value):Sem Unit:=eqGuard op t (Un cx a) (Un cy b) a b
theorem OF (d:BinOp)(t:TypeId)(x y:Operand)(a b:Value):eqGuard d t x y a b=eqG d t (isC x) (isC y) a b:=by
 unfold eqG eqGuard;cases x<;>cases y<;>rfl
section ops
variable (P:Program)
def bin (op:BinOp)(t:TypeId)(cx cy:Bool)(x y:Value)(K:KV)(w:World):Prop:=okV P (do eqG op t cx cy x y;binOp op t x y) K w
def un (op:UnOp)(x:Value)(K:KV)(w:World):Prop:=okV P (Op.unary op x) K w
def conv (s d:TypeId)(x:Value)(K:KV)(w:World):Prop:=okV P (convert s d x) K w
def Da (f:FuncId):Prop := ∃ fn,P.funcs[f]? = some fn∧(fn.name == "runtime.NumGoroutine")=false∧fn.body.isNone=false
def call (f:FuncId)(args:Array Value)(K:KV)(w:World):Prop:=Da P f∧Gives P f args w K
def dC (fv:Value)(args:Array Value)(K:KV)(w:World):Prop:=∃f first cap,fv=.func (.func f) first cap∧call P f (first++args++cap) K w
def blt (b:Builtin)(ats:Array TypeId)(ty:TypeId)(cs:Array Bool)(args:Array Value)(K:KV)(w:World):Prop :=
 match (builtin b ats ty cs args).run P w with | .ok (.value v) w' => K v w'|_=>False
def slc (t:TypeId)(x:Value)(lo hi mx:Option Value)(K:KV)(w:World):Prop:=okV P (Instr.sliceAt t x lo hi mx) K w
def ai (s:TypeId)(x:Value)(f:Nat)(K:KV)(w:World):Prop:=okV P (Instr.fieldAt s x f) K w
def fld (s:TypeId)(x:Value)(f:Nat)(K:KV)(w:World):Prop:=okV P (Instr.field s x f) K w
def aU (t:TypeId)(x i:Value)(K:KV)(w:World):Prop:=okV P (Instr.indexAt t x i) K w
def idx (t:TypeId)(x i:Value)(K:KV)(w:World):Prop:=okV P (Instr.index t x i) K w
def lkp (t:TypeId)(x i:Value)(ok:Bool)(K:KV)(w:World):Prop:=okV P (Instr.lookup t x i ok) K w
def eX (t:TypeId)(m k x:Value)(K:KV)(w:World):Prop:=okU P (Instr.mapUpdate t m k x) K w
def jl (t:TypeId)(m k:Value)(K:KV)(w:World):Prop:=okV P (Instr.mapEntry t m k) K w
def eSt (t:TypeId)(m s x:Value)(K:KV)(w:World):Prop:=okU P (Instr.entryStore t m s x) K w
def rng (t:TypeId)(x:Value)(K:KV)(w:World):Prop:=okV P (Instr.range t x) K w
def nxt (it:Value)(str:Bool)(ty:TypeId)(K:KV)(w:World):Prop:=okV P (Instr.next it str ty) K w
def ent (it:Value)(K:KV)(w:World):Prop:=okV P (Instr.entry it) K w
def ext (t:Value)(i:Nat)(K:KV)(w:World):Prop:=okV P (Instr.extract t i) K w
def alc (t:TypeId)(K:KV)(w:World):Prop:=okV P (Instr.alloc t true (.tuple #[])) K w
def box (t:TypeId)(x:Value)(K:KV)(w:World):Prop:=okV P (Instr.box t x) K w
def bld (t:TypeId)(ps:Array (Nat×Value))(K:KV)(w:World):Prop:=okV P (Instr.build t ps) K w
def dl (t:TypeId)(n:Nat)(ps:Array (Nat×Value))(K:KV)(w:World):Prop:=okV P (Instr.buildSlice t n ps) K w
def ld (t:TypeId)(a:Value)(K:KV)(w:World):Prop:=okV P (Instr.loadAt t a) K w
def sto (t:TypeId)(a x:Value)(K:KV)(w:World):Prop:=okU P (Instr.storeAt t a x) K w
def bo (x:Value)(K:KV)(w:World):Prop :=
 match x with
 | .pointer (some a)=>K (.pointer (some a)) w
 | .func (.func f) first cap=>K (.func (.func f) first cap) w
 | _=>False
def eS (t:TypeId)(r:Option Value)(K:KV)(w:World):Prop:=okV P (Instr.makeMap t r) K w
def mkS (t:TypeId)(l c:Value)(K:KV)(w:World):Prop:=okV P (Instr.makeSlice t l c) K w
def ifc (t:TypeId)(x:Value)(K:KV)(w:World):Prop:=okV P (Instr.makeInterface t x) K w
def pick (c x y:Value)(K:KV)(w:World):Prop:=∃b,c=.bool b∧K (if b then x else y) w
def rdy (g:Nat)(K:KV)(w:World):Prop:=okU P (Instr.ready g) K w
def wts (g:Nat)(K:KV)(w:World):Prop:=okV P (Instr.waits g) K w
def cOp (r:Operand→Value)(o:Oper)(K:KV)(w:World):Prop :=
 match o.op with
 | .move x=>K (r x) w
 | .assign x=>K (r x) w
 | .pick c a b=>pick (r c) (r a) (r b) K w
 | .alloc t=>alc P t K w
 | .box t x=>box P t (r x) K w
 | .build t ps=>bld P t (ps.toList.map fun p=>(p.1,r p.2)).toArray K w
 | .buildSlice t n ps=>dl P t n (ps.toList.map fun p=>(p.1,r p.2)).toArray K w
 | .load t a=>ld P t (r a) K w
 | .store t a x=>sto P t (r a) (r x) K w
 | .ready g=>rdy P g K w
 | .waits g=>wts P g K w
 | .nilCheck x=>bo (r x) K w
 | .binOp op t x y _=>bin P op t (isC x) (isC y) (r x) (r y) K w
 | .unOp op _ x=>un P op (r x) K w
 | .convert s d x=>conv P s d (r x) K w
 | .makeInterface t x=>ifc P t (r x) K w
 | .makeFunc fn first cap=>K (.func fn (first.toList.map r).toArray (cap.toList.map r).toArray) w
 | .makeMap t rs=>eS P t (rs.map r) K w
 | .makeSlice t l c=>mkS P t (r l) (r c) K w
 | .slice t x lo hi mx=>slc P t (r x) (lo.map r) (hi.map r) (mx.map r) K w
 | .fieldAddr s x f=>ai P s (r x) f K w
 | .field s x f=>fld P s (r x) f K w
 | .indexAddr t x i=>aU P t (r x) (r i) K w
 | .index t x i=>idx P t (r x) (r i) K w
 | .lookup t x i ok=>lkp P t (r x) (r i) ok K w
 | .mapUpdate t m k x=>eX P t (r m) (r k) (r x) K w
 | .insert t m k x=>eX P t (r m) (r k) (r x) K w
 | .mapEntry t m k=>jl P t (r m) (r k) K w
 | .entryStore t m s x=>eSt P t (r m) (r s) (r x) K w
 | .range t x=>rng P t (r x) K w
 | .next it s=>nxt P (r it) s o.type K w
 | .entry it=>ent P (r it) K w
 | .extract t i=>ext P (r t) i K w
 | .call c =>
  match c.callee with
  | .value (.func f)=>call P f (c.args.toList.map r).toArray K w
  | .value x=>dC P (r x) (c.args.toList.map r).toArray K w
  | .builtin b=>blt P b c.argTypes o.type (c.args.toList.map isC).toArray (c.args.toList.map r).toArray K w
  | .invoke _ _=>False
 | _=>False
def asB :Value→Option Bool
 | .bool b=>some b
 | _=>none
def oD (ops:List Oper)(e:Env)(j:Nat):Value:=match (ops[j]?).bind (·.dst)with|some d=>gd e d|none=>undef
def eY (l:List Oper):List Nat:=l.filterMap (·.dst)
def grp :List Oper→List (Option (Nat×Bool)×List Oper)
 | []=>[]
 | o::rest =>
  match grp rest with
  | []=>[(o.guard,[o])]
  | (g,l)::gs=>if o.guard=g then (g,o::l)::gs else (o.guard,[o])::(g,l)::gs
def gX :List Oper→KE→Env→World→Prop
 | [],K,e,w=>K e w
 | o::r,K,e,w=>cOp P (ev e) o (fun v w' => gX r K (pt e o.dst v) w') w
def aJ (v:Value)(want:Bool)(A B:(List Value→World→Prop)→Prop)(K:List Value→World→Prop):Prop:=(asB v=some want→A K)∧(asB v≠some want→B K)
def rV (us:List Value):List Nat→Nat→Env→Env
 | [],_,e=>e
 | d::ds,k,e=>rV us ds (k+1) (e.set d (gd us k))
def ur (e:Env)(ds:List Nat)(us:List Value):Env:=rV us ds 0 e
def fU (ops:List Oper):List (Option (Nat×Bool)×List Oper)→KE→Env→World→Prop
 | [],K=>K
 | (none,l)::gs,K=>gX P l (fU ops gs K)
 | (some (j,want),l)::gs,K=>fun e w =>
  @Bool.rec (fun _=>Prop) (aJ (oD ops e j) want (fun k=>gX P l (fun e' w' => k ((eY l).map (gd e')) w') e w) (fun k=>k ((eY l).map fun _=>undef) w) (fun us w' => fU ops gs K (ur e (eY l) us) w')) False (((ops[j]?).bind (·.dst)).any ((eY l).contains ·))
def sti (s:KV→World→Prop)(k:KV)(w:World):Prop:=∃v,s (fun v' w' => v'=v∧w'=w) w∧k v w
def sOp (e:Env)(o:Oper)(k:KV)(w:World):Prop :=
 match o.op with
 | .move x=>k (ev e x) w
 | .assign x=>k (ev e x) w
 | _=>sti (fun k w=>cOp P (ev e) o k w) k w
def Fi :List Oper→KE→Env→World→Prop
 | [],K,e,w=>K e w
 | o::r,K,e,w=>sOp P e o (fun v w' => Fi r K (pt e o.dst v) w') w
def vo (ops:List Oper):List (Option (Nat×Bool)×List Oper)→KE→Env→World→Prop
 | [],K=>K
 | (none,l)::gs,K=>Fi P l (vo ops gs K)
 | (some (j,want),l)::gs,K=>fun e w =>
  @Bool.rec (fun _=>Prop) (aJ (oD ops e j) want (fun k=>Fi P l (fun e' w' => k ((eY l).map (gd e')) w') e w) (fun k=>k ((eY l).map fun _=>undef) w) (fun us w' => vo ops gs K (ur e (eY l) us) w')) False (((ops[j]?).bind (·.dst)).any ((eY l).contains ·))
def rf (ops:Array Oper):Nat→Nat
 | 0=>ops.size+1
 | n+1=>match Region.lexTailB .any ops n with|true=>n|false=>rf ops n
def Vd :Op→Bool | .store .. => true|_=>false
def Nq (ops:Array Oper):Nat:=ops.toList.findIdx fun o=>Vd o.op
def jd (ops:Array Oper):Nat :=
 match Nat.ble (Nq ops+1) ops.size with
 | true=>rf ops (Nq ops+1)
 | false=>match Region.lexB .any ops with|true=>ops.size|false=>rf ops ops.size
def AE (o:Oper):Bool :=
 match o.op with
 | .move _=>true | .assign _=>true | .pick .. => true | .build .. => true | .load .. => true | .nilCheck _=>true | .binOp .. => true | .unOp .. => true | .convert .. => true
 | .makeInterface .. => true | .makeFunc .. => true | .slice .. => true | .fieldAddr .. => true | .field .. => true | .indexAddr .. => true | .index .. => true | .extract .. => true | .lookup .. => true
 | .call c=>match c.callee with | .builtin .len=>true | .builtin .cap=>true|_=>false
 | _=>false
def Nr (o:Oper):Bool :=
 match o.guard with
 | some _=>false
 | none=>match o.op with
  | .move _=>true
  | .binOp .sub _ _ _ _=>true
  | .binOp .add _ _ _ _=>true
  | _=>false
def Vz (o:Oper):Bool :=
 match o.op with
 | .store .. => true | .alloc _=>true | .box .. => true | .buildSlice .. => true | .makeSlice .. => true | .makeMap .. => true | .mapUpdate .. => true | .insert .. => true | .mapEntry .. => true | .entryStore .. => true
 | .call c=>match c.callee with | .builtin .append=>true | .builtin .copy=>true | .builtin .clear=>true | .builtin .delete=>true|_=>false
 | _=>false
def zY :Nat→Code→Bool
 | 0,_=>false
 | n+1,.region _ ops false=>ops.toList.all fun o =>
  match AE o with
  | true=>true
  | false=>match o.op with
   | .call c=>match c.callee with
    | .value (.func f)=>match P.funcs[f]? with
     | some fn=>match fn.body with|some b=>zY n b|none=>false
     | none=>false
    | .builtin .max=>true
    | .builtin .min=>true
    | _=>false
   | _=>false
 | n+1,.seq a b=>match zY n a with|true=>zY n b|false=>false
 | n+1,.cond _ a b=>match zY n a with|true=>zY n b|false=>false
 | n+1,.block _ c=>zY n c
 | n+1,.loop c=>zY n c
 | _+1,.skip=>true
 | _+1,.exit _=>true
 | _+1,.ret=>true
 | _+1,_=>false
def Vf (o:Oper):Bool :=
 match Vz o with
 | true=>true
 | false=>match o.op with
  | .call c=>match c.callee with
   | .value (.func f)=>match P.funcs[f]? with
    | some fn=>match fn.body with|some b=>(match zY P 60 b with|true=>false|false=>true)|none=>true
    | none=>true
   | .value _=>true
   | .invoke _ _=>true
   | _=>false
  | _=>false
def Ef (ops:Array Oper):Bool :=
 Region.noSelect ops&&(match ops.toList.all (fun o=>match o.guard with|none=>true|some _=>false)with
  | true=>(ops.toList.take (Nat.min (jd ops) ops.size)).any (fun o=>match AE o with|true=>false|false=>true)
  | false=>(ops.toList.take (Nat.min (jd ops) ops.size)).any (Vf P))
def hld (S:World→Prop)(s:KV→World→Prop)(k:Value→Prop):Prop:=∃v,(∀w,S w→s (fun v' w' => v'=v∧w'=w) w)∧k v
def hOp (S:World→Prop)(e:Env)(o:Oper)(k:Value→Prop):Prop :=
 match o.op with
 | .move x=>k (ev e x)
 | .assign x=>k (ev e x)
 | .makeFunc fn first cap=>k (.func fn (first.toList.map (ev e)).toArray (cap.toList.map (ev e)).toArray)
 | _=>hld S (fun k w=>cOp P (ev e) o k w) k
def hG (v:Value)(want:Bool)(S:World→Prop)(s:KV→World→Prop)(k:Value→Prop):Prop:=∃x,(asB v=some want→∀w,S w→s (fun v' w' => v'=x∧w'=w) w)∧(asB v≠some want→x=undef)∧k x
def xG (v:Value)(want:Bool)(s:KV→World→Prop)(K:KV)(w:World):Prop:=(asB v=some want→s K w)∧(asB v≠some want→K undef w)
def QK (ops:Array Oper)(S:World→Prop)(e:Env)(o:Oper)(k:Value→Prop):Prop :=
 match o.guard with
 | none=>hOp P S e o k
 | some (j,want)=>hG (oD ops.toList e j) want S (fun k w=>cOp P (ev e) o k w) k
def QL (ops:Array Oper)(e:Env)(o:Oper)(K:KV)(w:World):Prop :=
 match o.guard with
 | none=>cOp P (ev e) o K w
 | some (j,want)=>xG (oD ops.toList e j) want (fun k w=>cOp P (ev e) o k w) K w
def Bx :List Nat→(Nat→Prop)→Prop
 | [],_=>True
 | i::r,f=>match r with | []=>f i|_::_=>f i∧Bx r f
def hAt (ops:Array Oper)(i:Nat)(f:Oper→Prop):Prop:=match ops[i]? with|some o=>f o|none=>False
def GE (ops:Array Oper)(listed:Array Bool)(i:Nat):Bool:=(match ops[i]? with|some o=>AE o|none=>false)&&Region.free .any ops listed i
def aK (b:(World→Prop)→World→Prop)(w:World):Prop:=∃S,S w∧b S w
def bF (S:World→Prop)(b:(World→Prop)→World→Prop)(w:World):Prop:=∃S',(∀x,S' x→S x)∧S' w∧b S' w
theorem aO {S:World→Prop}{b:(World→Prop)→World→Prop}{w:World}(d:S w)(h:b S w):bF S b w:=⟨S,fun _ h=>h,d,h⟩
def HG (k:Nat):List Nat→Bool
 | []=>false
 | i::r=>Nat.beq k i || HG k r
def HH (ops:Array Oper)(j:Nat):List Nat:=match ops[j]? with|some o=>(o.after.toList.filter fun e=>Region.binds .any e).map (·.on)|none=>[]
def HJ (ops:Array Oper):Nat→List Nat→List Nat→List Nat
 | 0,_,seen=>seen
 | _+1,[],seen=>seen
 | f+1,j::todo,seen=>match HG j seen with|true=>HJ ops f todo seen|false=>HJ ops f (HH ops j++todo) (j::seen)
def og (ops:Array Oper)(pend:List Nat)(i:Nat):List Nat:=pend.filter fun k=>match HG k (HJ ops 1000 (HH ops i) [])with|true=>false|false=>true
def lR (ops:Array Oper)(K:KE):Nat→Array Bool→List Nat→(World→Prop)→Env→World→Prop
  | 0,listed,_,_,e,w=>@Bool.rec (fun _=>Prop) False (K e w) (Region.ready .any ops listed).isEmpty
  | f+1,listed,pend,S,e,w =>
    @Bool.rec (fun _=>Prop)
      (match (Region.ready .any ops listed).find? (GE ops listed)with
       | some i=>hAt ops i fun o =>
         match Nr o with
         | true=>hOp P (fun _=>True) e o fun v=>lR ops K f (listed.setIfInBounds i true) pend S (pt e o.dst v) w
         | false=>QK P ops S e o fun v=>lR ops K f (listed.setIfInBounds i true) (i::pend) S (pt e o.dst v) w
       | none=>Bx (Region.ready .any ops listed) fun i=>hAt ops i fun o=>QL P ops e o (fun v w' =>
           match og ops pend i with
           | [] =>
             match (Region.ready .any ops (listed.setIfInBounds i true)).isEmpty with
             | true=>lR ops K f (listed.setIfInBounds i true) [] S (pt e o.dst v) w'
             | false=>aK (fun S w=>lR ops K f (listed.setIfInBounds i true) [] S (pt e o.dst v) w) w'
           | p::ps=>bF S (fun S w=>lR ops K f (listed.setIfInBounds i true) (p::ps) S (pt e o.dst v) w) w') w)
      (K e w) (Region.ready .any ops listed).isEmpty

def cond (v:Value)(p q:Prop):Prop:=∃b,v=.bool b∧(b=true→p)∧(b=false→q)
def RM (body:KE→Env→World→Prop)(e:Env)(w:World):Prop :=
 ∃(I:KE) (μ:Env→World→Nat),I e w∧∀e' w',I e' w'→body (fun e2 w2=>I e2 w2∧μ e2 w2<μ e' w') e' w'
def ae :Code→KE→(Nat→KE)→KE→Env→World→Prop
 | .skip,N,_,_=>N
 | .region _ ops false,N,_,_=>fU P ops.toList (grp ops.toList) N
 | .region _ ops true,N,_,_=>fun e w =>
  @Bool.rec (fun _=>Prop)
   (@Bool.rec (fun _=>Prop) False
    (vo P ops.toList (grp (ops.toList.take (jd ops))) (fU P ops.toList (grp (ops.toList.drop (jd ops))) N) e w.drew)
    (P.follows .mixedOrders&&Nat.ble (jd ops) ops.size))
   (aK (fun S w=>lR P ops N ops.size (Array.replicate ops.size false) [] S e w) w.drew)
   (P.follows .mixedOrders&&Ef P ops)
 | .seq a b,N,X,R=>ae a (ae b N X R) X R
 | .cond c x y,N,X,R=>fun e w=>cond (ev e c) (ae x N X R e w) (ae y N X R e w)
 | .block id c,N,X,R=>ae c N (fun i=>@Bool.rec (fun _=>KE) (X i) N (Nat.beq i id)) R
 | .loop c,_,X,R=>RM fun N' => ae c N' X R
 | .exit i,_,X,_=>X i
 | .ret,_,_,R=>R
 | _,_,_,_=>fun _ _=>False
end ops
/-! ## It implies the model's own. -/
section sound
variable {P:Program}{ds:List Deferred}
theorem yd (e:Env)(t:Nat):e.toArray.getD t undef=gd e t:=by
 simp[gd,Array.getD,List.getD];split<;>simp_all
theorem ph (e:Env)(ds:List Deferred)(x:Operand):Act.eval ⟨e.toArray,ds⟩ x=ev e x:=by
 cases x with
 | tmp t=>exact yd e t
 | _=>rfl
theorem rW (e:Env)(ds:List Deferred)(d:Option Tmp)(v:Value):Act.put ⟨e.toArray,ds⟩ d v=⟨(pt e d v).toArray,ds⟩:=by
 cases d<;>simp[Act.put,pt]
def QQ (ds:List Deferred)(N:KE)(X:Nat→KE)(R:KE):Exit→Act→World→Prop
 | .normal,a,w=>∃e:Env,a=⟨e.toArray,ds⟩∧N e w
 | .exit i,a,w=>∃e:Env,a=⟨e.toArray,ds⟩∧X i e w
 | .ret,a,w=>∃e:Env,a=⟨e.toArray,ds⟩∧R e w
 | _,_,_=>False
theorem IV (s:Sem Value)(w:World):(do pure (.value (←s)):Sem Next).run P w=(s.run P w).andThen fun v w' => .ok (.value v) w':=by
 simp[Sem.run_bind,Sem.run_pure]
def Eg (P:Program)(o:Oper)(a:Act)(K:KV)(w:World):Prop :=
 (∃v w',(execOp a.eval o).run P w=.ok (.value v) w'∧K v w')∨(∃w',(execOp a.eval o).run P w=.ok .skip w'∧K undef w') ∨
 (∃f args,(execOp a.eval o).run P w=.ok (.enter f args) w∧Gives P f args w K)
theorem jK {o:Oper}{a:Act}{w:World}{K:KV}(s:Sem Value)(d:execOp a.eval o=(do pure (.value (←s)):Sem Next))(h:okV P s K w):Eg P o a K w:=by
 unfold okV at h;split at h
 ·rename_i v w' j;exact .inl ⟨v,w',by rw[d,IV,j];rfl,h⟩
 ·exact h.elim
theorem Db {o:Oper}{a:Act}{w:World}{K:KV}(s:Sem Unit)(d:execOp a.eval o=(do s;pure .skip:Sem Next))(h:okU P s K w):Eg P o a K w:=by
 unfold okU at h;split at h
 ·rename_i u w' j;exact .inr (.inl ⟨w',by rw[d];simp only[Sem.run_bind,j,Result.andThen,Sem.run_pure],h⟩)
 ·exact h.elim
theorem Dc {f:FuncId} (u:Da P f) (args:Array Value) (w:World):(callFunc f args).run P w=.ok (.enter f args) w:=by
 obtain ⟨h,J,I,C⟩:=u;have d : ¬ h.name = "runtime.NumGoroutine" := by simpa using I
 cases j:h.body with
 | none=>simp [j] at C
 | some c=>simp [callFunc,J,d,j]
theorem Mk {o:Oper}{a:Act}{w:World}{K:KV}(f:FuncId)(args:Array Value)(d:(execOp a.eval o).run P w=(callFunc f args).run P w)(h:call P f args K w):Eg P o a K w :=
 .inr (.inr ⟨f,args,by rw[d,Dc h.1],h.2⟩)
theorem Fj (e:Env)(ps:Array (Nat×Operand)):(ps.map fun(i,x)=>(i,ev e x))=(ps.toList.map fun p=>(p.1,ev e p.2)).toArray:=by
 rw[←Array.toList_map]
theorem IW {o:Oper}{e:Env}{w:World}{K:KV}(h:cOp P (ev e) o K w):Eg P o ⟨e.toArray,ds⟩ K w:=by
 have he:Act.eval ⟨e.toArray,ds⟩=ev e:=funext (ph e ds)
 obtain⟨dst,op,ty,pos,after,guard⟩:=o
 cases op<;>simp only[cOp]at h
 case move x=>exact .inl ⟨_,w,by rw[he];rfl,h⟩
 case assign x=>exact .inl ⟨_,w,by rw[he];rfl,h⟩
 case pick c x y =>
  obtain⟨b,hb,hk⟩:=h
  exact .inl ⟨_,w,by unfold execOp;simp only[he,hb,asBool,Sem.run_bind,Sem.run_pure,Result.andThen],hk⟩
 case alloc t=>exact jK _ rfl h
 case box t x=>exact jK (Instr.box t (ev e x)) (by rw[he];rfl) h
 case build t ps=>exact jK (Instr.build t (ps.toList.map fun p:Nat×Operand=>(p.1,ev e p.2)).toArray) (by rw[he];exact congrArg (fun l=>(do pure (.value (←Instr.build t l)):Sem Next)) (Fj e ps)) h
 case buildSlice t n ps=>exact jK (Instr.buildSlice t n (ps.toList.map fun p:Nat×Operand=>(p.1,ev e p.2)).toArray) (by rw[he];exact congrArg (fun l=>(do pure (.value (←Instr.buildSlice t n l)):Sem Next)) (Fj e ps)) h
 case load t x=>exact jK (Instr.loadAt t (ev e x)) (by rw[he];rfl) h
 case store t x y=>exact Db (Instr.storeAt t (ev e x) (ev e y)) (by rw[he];rfl) h
 case ready g=>exact Db _ rfl h
 case waits g=>exact jK _ rfl h
 case nilCheck x =>
  unfold bo at h
  split at h
  ·rename_i a ha;exact .inl ⟨_,w,by unfold execOp;simp only[he,ha];rfl,h⟩
  ·rename_i f first cap ha;exact .inl ⟨_,w,by unfold execOp;simp only[he,ha];rfl,h⟩
  ·exact h.elim
 case binOp op t x y yt=>exact jK (do eqG op t (isC x) (isC y) (ev e x) (ev e y);binOp op t (ev e x) (ev e y)) (by rw[he, ←OF];rfl) h
 case unOp op t x=>exact jK (Op.unary op (ev e x)) (by rw[he];rfl) h
 case convert s d x=>exact jK (Go.convert s d (ev e x)) (by rw[he];rfl) h
 case makeInterface t x=>exact jK (Instr.makeInterface t (ev e x)) (by rw[he];rfl) h
 case makeFunc fn first cap =>
  have e1:first.map (ev e)=(first.toList.map (ev e)).toArray:=by rw[←Array.toList_map]
  have e2:cap.map (ev e)=(cap.toList.map (ev e)).toArray:=by rw[←Array.toList_map]
  exact .inl ⟨_,w,by unfold execOp;simp only[he,Instr.makeFunc,Sem.run_bind,Sem.run_pure,Result.andThen];rw[e1,e2],h⟩
 case makeMap t r=>exact jK (Instr.makeMap t (r.map (ev e))) (by rw[he];rfl) h
 case makeSlice t l c=>exact jK (Instr.makeSlice t (ev e l) (ev e c)) (by rw[he];rfl) h
 case slice t x lo hi mx=>exact jK (Instr.sliceAt t (ev e x) (lo.map (ev e)) (hi.map (ev e)) (mx.map (ev e))) (by rw[he];rfl) h
 case fieldAddr s x f=>exact jK (Instr.fieldAt s (ev e x) f) (by rw[he];rfl) h
 case field s x f=>exact jK (Instr.field s (ev e x) f) (by rw[he];rfl) h
 case indexAddr t x i=>exact jK (Instr.indexAt t (ev e x) (ev e i)) (by rw[he];rfl) h
 case index t x i=>exact jK (Instr.index t (ev e x) (ev e i)) (by rw[he];rfl) h
 case lookup t x i ok=>exact jK (Instr.lookup t (ev e x) (ev e i) ok) (by rw[he];rfl) h
 case mapUpdate t m k x=>exact Db (Instr.mapUpdate t (ev e m) (ev e k) (ev e x)) (by rw[he];rfl) h
 case insert t m k x=>exact Db (Instr.mapUpdate t (ev e m) (ev e k) (ev e x)) (by rw[he];rfl) h
 case mapEntry t m k=>exact jK (Instr.mapEntry t (ev e m) (ev e k)) (by rw[he];rfl) h
 case entryStore t m s x=>exact Db (Instr.entryStore t (ev e m) (ev e s) (ev e x)) (by rw[he];rfl) h
 case range t x=>exact jK (Instr.range t (ev e x)) (by rw[he];rfl) h
 case next it s=>exact jK (Instr.next (ev e it) s ty) (by rw[he];rfl) h
 case entry it=>exact jK (Instr.entry (ev e it)) (by rw[he];rfl) h
 case extract t i=>exact jK (Instr.extract (ev e t) i) (by rw[he];rfl) h
 case call c =>
  obtain⟨callee,args,ats⟩:=c
  have ea:args.map (ev e)=(args.toList.map (ev e)).toArray:=by rw[←Array.toList_map]
  cases callee with
  | invoke r m=>exact h.elim
  | builtin b =>
   have hx:execOp (Act.eval ⟨e.toArray,ds⟩) {dst,op:=.call {callee:=.builtin b,args,argTypes:=ats},type:=ty,pos,after,guard} = builtin b ats ty (args.map isC) (args.map (ev e)):=by rw[he];rfl
   have hc:args.map isC=(args.toList.map isC).toArray:=by rw[←Array.toList_map]
   have h:blt P b ats ty (args.toList.map isC).toArray (args.toList.map (ev e)).toArray K w:=h
   unfold blt at h
   split at h
   ·rename_i v w' hr;exact .inl ⟨v,w',by rw[hx,hc,ea];exact hr,h⟩
   ·exact h.elim
  | value f =>
   cases f with
   | func f =>
    refine Mk f (args.toList.map (ev e)).toArray ?_ h
    simp only[execOp,resolve,Deferred.ofValue,invoke,Sem.run_bind,Sem.run_pure,Result.andThen_ok,he,ea]
    simp[ev]
   | _ =>
    obtain⟨f,first,cap,hf,hc⟩:=h
    refine Mk f _ ?_ hc
    simp only[execOp,resolve,Deferred.ofValue,invoke,Sem.run_bind,Sem.run_pure,Result.andThen_ok,he,ea,hf]
 all_goals exact h.elim
theorem vU {o:Oper}{e:Env}{w:World}{K:KV}{d:Act→World→Prop}{Q:Exit→Act→World→Prop}(h:cOp P (ev e) o K w)(J:∀v w',K v w'→d ⟨(pt e o.dst v).toArray,ds⟩ w'):o.wp P ⟨e.toArray,ds⟩ w d Q:=by
 have j:∀v w',K v w'→d (Act.put ⟨e.toArray,ds⟩ o.dst v) w':=fun v w' I=>by rw[rW];exact J v w' I
 unfold Oper.wp;rcases IW h with⟨v,w',C,u⟩|⟨w',C,u⟩|⟨f,args,C,u⟩
 ·rw[C];exact j _ _ u
 ·rw[C];exact j _ _ u
 ·rw[C];refine Calls.mono u ?_;rintro e w' ⟨v,rfl,I⟩;exact j _ _ I
theorem rh (ops:List Oper)(e:Env)(o:Oper)(j:Nat)(u:Bool)(C:o.guard=some (j,u)):Region.wanted o (yielded ops.toArray e.toArray)=(asB (oD ops e j)==some u):=by
 simp only[Region.wanted,C]
 have:yielded ops.toArray e.toArray j=asB (oD ops e j):=by
  unfold yielded oD;simp only[List.getElem?_toArray];cases h:(ops[j]?).bind (·.dst)with
  | none=>simp[undef,asB]
  | some d =>
   simp only[Option.bind_some,List.getElem?_toArray,gd,List.getD];cases I:e[d]? with
   | none=>simp[undef,asB]
   | some v=>cases v<;>simp[asB]
 rw[this]
theorem Eh {ops:List Oper}{e:Env}{j:Nat}{d:Option Tmp}{v:Value}(h:((ops[j]?).bind (·.dst)).any (d.toList.contains ·)=false):oD ops (pt e d v) j=oD ops e j:=by
 unfold oD;cases C:(ops[j]?).bind (·.dst)with
 | none=>rfl
 | some dj =>
  cases d with
  | none=>rfl
  | some d =>
   have u:dj≠d:=by
    intro I;subst I;simp[C]at h
   have:d≠dj:=fun e=>u e.symm
   simp[pt,gd,List.getD,List.getElem?_set_ne this]
theorem By {ops:List Oper}{j:Nat}{o:Oper}{l:List Oper}(h:((ops[j]?).bind (·.dst)).any ((eY (o::l)).contains ·)=false):((ops[j]?).bind (·.dst)).any (o.dst.toList.contains ·)=false∧((ops[j]?).bind (·.dst)).any ((eY l).contains ·)=false:=by
 cases C:(ops[j]?).bind (·.dst)with
 | none=>simp
 | some d =>
  rw[C]at h;unfold eY at *;rw[List.filterMap_cons]at h;cases u:o.dst with
  | none=>rw[u]at h;simpa using h
  | some d' => rw[u]at h;simpa using h
theorem OG {ops:List Oper}{K:KE}{Q:Exit→Act→World→Prop}{rest:List Oper}(hK:∀e w,K e w→wpList P ops.toArray Q rest ⟨e.toArray,ds⟩ w):∀(l:List Oper) (e:Env) (w:World),(∀o∈l,o.guard=none)→gX P l K e w→wpList P ops.toArray Q (l++rest) ⟨e.toArray,ds⟩ w:=by
 intro l
 induction l with
 | nil=>intro e w _ h;exact hK e w h
 | cons o l ih =>
  intro e w u h;refine wpList_step fun KK j=>?_;rw[if_pos (by simp[Region.wanted,u o (List.mem_cons_self ..)])];exact vU h fun v w' I=>j _ _ (ih _ _ (fun C d => u C (List.mem_cons_of_mem _ d)) I)
theorem Ns {ops:List Oper}{K:KE}{Q:Exit→Act→World→Prop}{rest:List Oper}{j:Nat}{d:Bool}(hK:∀e w,K e w→wpList P ops.toArray Q rest ⟨e.toArray,ds⟩ w):∀(l:List Oper) (e:Env) (w:World),(∀o∈l,o.guard=some (j,d))→((ops[j]?).bind (·.dst)).any ((eY l).contains ·)=false→asB (oD ops e j)=some d→gX P l K e w →
   wpList P ops.toArray Q (l++rest) ⟨e.toArray,ds⟩ w:=by
 intro l
 induction l with
 | nil=>intro e w _ _ _ h;exact hK e w h
 | cons o l ih =>
  intro e w R X V h;obtain⟨M,u⟩:=By X;refine wpList_step fun KK I=>?_;have U:=rh ops e o j d (R o (List.mem_cons_self ..));dsimp only at U ⊢;rw[U,if_pos (by simp[V])];exact vU h fun v w' J => I _ _ (ih _ _ (fun Z C => R Z (List.mem_cons_of_mem _ C)) u (by rw[Eh M];exact V) J)
theorem EJ (C:List Value)(I:∀i,gd C i=undef):∀(ds:List Nat) (k u:Nat) (e:Env) (j:List Value),(∀i,gd j i=undef)→rV C ds k e=rV j ds u e:=by
 intro ds
 induction ds with
 | nil=>intro k u e j _;rfl
 | cons d ds ih=>intro k u e j h;simp only[rV,I,h];exact ih _ _ _ _ h
theorem IX (ds:List Nat)(i:Nat):gd (ds.map fun _=>undef) i=undef:=by
 simp only[gd,List.getD,List.getElem?_map];cases ds[i]? <;> rfl
theorem LF {ops:List Oper}{Q:Exit→Act→World→Prop}{rest:List Oper}{j:Nat}{u:Bool}:∀(l:List Oper) (e:Env) (w:World),(∀o∈l,o.guard=some (j,u))→((ops[j]?).bind (·.dst)).any ((eY l).contains ·)=false→asB (oD ops e j)≠some u →
   wpList P ops.toArray Q rest ⟨(ur e (eY l) ((eY l).map fun _=>undef)).toArray,ds⟩ w→wpList P ops.toArray Q (l++rest) ⟨e.toArray,ds⟩ w:=by
 intro l
 induction l with
 | nil=>intro e w _ _ _ h;exact h
 | cons o l ih =>
  intro e w U Z X h;obtain⟨R,I⟩:=By Z;refine wpList_step fun KK M=>?_;have V:=rh ops e o j u (U o (List.mem_cons_self ..));dsimp only at V ⊢;rw[V,if_neg (by simpa using X),rW];refine M _ _ (ih _ _ (fun o' J => U o' (List.mem_cons_of_mem _ J)) I (by rw[Eh R];exact X) ?_)
  have he:ur e (eY (o::l)) ((eY (o::l)).map fun _=>undef)=ur (pt e o.dst undef) (eY l) ((eY l).map fun _=>undef):=by
   have C:=fun ds=>IX ds;unfold eY;rw[List.filterMap_cons];cases o.dst with
   | none=>rfl
   | some d =>
    simp only[ur,rV,C,pt];exact EJ _ (C _) _ _ _ _ _ (C _)
  rw[←he];exact h
theorem OH (j:List Value):∀(ds:List Nat) (k:Nat) (e:Env) (i:Nat),i∉ds→(rV j ds k e)[i]? = e[i]? := by
 intro ds
 induction ds with
 | nil=>intro k e i _;rfl
 | cons d ds ih =>
  intro k e i hi;simp only[List.mem_cons,not_or]at hi;simp only[rV];rw[ih _ _ _ hi.2,List.getElem?_set_ne (fun h=>hi.1 h.symm)]
theorem Nt (I:List Value)(e':Env):∀(ds:List Nat) (k:Nat) (e:Env),(∀i d,ds[i]? = some d→gd I (k+i)=gd e' d)→e'.length=e.length→(∀i,i∉ds→e'[i]? = e[i]?)→rV I ds k e=e':=by
 intro ds
 induction ds with
 | nil=>intro k e _ J h;exact(List.ext_getElem? fun i=>h i (by simp)).symm
 | cons d ds ih =>
  intro k e C J h;simp only[rV];refine ih (k+1) _ (fun i R M=>by rw[show k+1+i=k+(i+1)by omega];exact C (i+1) R (by simpa using M)) (by simp[J]) ?_;have h0:=C 0 d (by simp);rw[Nat.add_zero]at h0;intro i hi;by_cases j:i=d
  ·subst j;by_cases u:i<e.length
   ·rw[List.getElem?_set_self u,h0]
    have:i<e'.length:=by omega
    simp[gd,List.getD,this]
   ·rw[List.getElem?_eq_none (show e'.length≤i by omega),List.getElem?_eq_none (by simp;omega)]
  ·rw[List.getElem?_set_ne (fun h=>j h.symm)];exact h i (by simp[j,hi])
theorem OJ (ds:List Nat)(e e':Env)(u:e'.length=e.length)(h:∀i,i∉ds→e'[i]? = e[i]?):ur e ds (ds.map (gd e'))=e':=by
 refine Nt _ e' ds 0 e (fun i d j=>?_) u h;rw[Nat.zero_add];simp[gd,List.getD,List.getElem?_map,j]
theorem pT :∀(l:List Oper),((grp l).flatMap (·.2))=l∧∀g∈grp l,∀o∈g.2,o.guard=g.1:=by
 intro l
 induction l with
 | nil=>simp[grp]
 | cons o l ih =>
  obtain⟨j,u⟩:=ih;unfold grp;split
  ·rename_i I;rw[I]at j;simp at j;subst j;simp
  ·rename_i g l' M I;rw[I]at j u;split
   ·rename_i J;refine⟨by simpa using j,?_⟩;intro x h C d;simp only[List.mem_cons]at h;rcases h with rfl|h
    ·simp only[List.mem_cons]at d;rcases d with rfl|d
     ·exact J
     ·exact u (g,l') (by simp) C d
    ·exact u x (by simp[h]) C d
   ·refine⟨by simpa using j,?_⟩;intro x h C d;simp only[List.mem_cons]at h;rcases h with rfl|rfl|h
    ·simp only[List.mem_singleton]at d;rw[d]
    ·exact u (g,l') (by simp) C d
    ·exact u x (by simp[h]) C d
def agree (ws:List Nat)(e e':Env):Prop:=e'.length=e.length∧∀i,i∉ws→gd e' i=gd e i
theorem agree.refl (d:List Nat)(e:Env):agree d e e:=⟨rfl,fun _ _=>rfl⟩
theorem agree.trans {j d:List Nat}{a b c:Env}(h:agree j a b)(k:agree d b c):agree (j++d) a c :=
 ⟨k.1.trans h.1,fun i hi=>by
  simp only[List.mem_append,not_or]at hi;rw[k.2 i hi.2,h.2 i hi.1]⟩
theorem agree.mono {j d:List Nat}{a b:Env}(h:agree j a b)(u:∀i∈j,i∈d):agree d a b:=⟨h.1,fun i hi=>h.2 i fun hh=>hi (u i hh)⟩
theorem Bz (e:Env)(d:Option Tmp)(v:Value):agree d.toList e (pt e d v):=by
 cases d with
 | none=>exact agree.refl _ _
 | some d =>
  refine⟨by simp[pt],fun i hi=>?_⟩
  have:d≠i:=by simpa[eq_comm]using hi
  simp[pt,gd,List.getD,List.getElem?_set_ne this]
theorem Dd {f:FuncId}{args:Array Value}{K K':KV}{w:World}(d:∀v w',K v w'→K' v w')(h:call P f args K w):call P f args K' w:=⟨h.1,h.2.mono d⟩
theorem ye {r:Operand→Value}{o:Oper}{K K':KV}{w:World}(hk:∀v w',K v w'→K' v w')(h:cOp P r o K w):cOp P r o K' w:=by
 unfold cOp at *
 split at h<;>first
  | exact hk _ _ h
  | exact QI hk h
  | exact QJ hk h
  | exact h.elim
  | skip
 ·obtain⟨b,hb,h⟩:=h;exact⟨b,hb,hk _ _ h⟩
 ·unfold bo at *
  split at h
  ·exact hk _ _ h
  ·exact hk _ _ h
  ·exact h.elim
 ·split at h
  ·exact Dd hk h
  ·obtain⟨f,first,cap,hf,hc⟩:=h;exact⟨f,first,cap,hf,Dd hk hc⟩
  ·unfold blt at *
   split at h
   ·exact hk _ _ h
   ·exact h.elim
  ·exact h.elim
theorem BA :∀(l:List Oper) {K K':KE} {e:Env} {w:World},gX P l K e w→(∀e2 j,agree (eY l) e e2→K e2 j→K' e2 j)→gX P l K' e w:=by
 intro l
 induction l with
 | nil=>intro K K' e w h C;exact C _ _ (agree.refl _ _) h
 | cons o rest ih =>
  intro K K' e w h C;exact ye (fun v w' h=>ih h fun e2 j I hK=>C e2 j (((Bz e o.dst v).trans I).mono (by
   intro i hi;simp only[List.mem_append]at hi;unfold eY;rw[List.filterMap_cons];rcases hi with hi|hi
   ·cases u:o.dst with
    | none=>simp[u]at hi
    | some d=>simp[u]at hi;simp[hi]
   ·cases u:o.dst with
    | none=>exact hi
    | some d=>exact List.mem_cons_of_mem _ hi)) hK) h
theorem GF {ds:List Nat}{e e':Env}(h:agree ds e e'):ur e ds (ds.map (gd e'))=e':=by
 refine OJ ds e e' h.1 fun i hi=>?_;have u:=h.2 i hi;by_cases j:i<e.length
 ·have d:i<e'.length:=by rw[h.1];exact j
  simp only[gd,List.getD,List.getElem?_eq_getElem j,List.getElem?_eq_getElem d,Option.getD_some]at u ⊢;rw[u]
 ·simp[List.getElem?_eq_none (Nat.le_of_not_lt j),List.getElem?_eq_none (show e'.length≤i by rw[h.1];omega)]
theorem xo {ops:List Oper}{K:KE}{Q:Exit→Act→World→Prop}(hK:∀e w,K e w→Q .normal ⟨e.toArray,ds⟩ w):∀(d:List (Option (Nat×Bool)×List Oper)) (e:Env) (w:World),(∀g∈d,∀o∈g.2,o.guard=g.1)→fU P ops d K e w→wpList P ops.toArray Q (d.flatMap (·.2)) ⟨e.toArray,ds⟩ w:=by
 intro d
 induction d with
 | nil=>intro e w _ h;exact hK e w h
 | cons g d ih =>
  intro e w V h;obtain⟨I,l⟩:=g;have u:∀g∈d,∀o∈g.2,o.guard=g.1:=fun g hh=>V g (List.mem_cons_of_mem _ hh);have U:=V (I,l) (List.mem_cons_self ..);rw[List.flatMap_cons];cases I with
  | none=>exact OG (fun e w h=>ih e w u h) l e w U h
  | some jw =>
   obtain⟨j,C⟩:=jw;simp only[fU]at h;cases J:((ops[j]?).bind (·.dst)).any ((eY l).contains ·)
   case true=>rw[J]at h;exact h.elim
   case false =>
    rw[J]at h;have h:aJ _ _ _ _ _:=h;by_cases M:asB (oD ops e j)=some C
    ·refine Ns (K:=fun e' w' => fU P ops d K e' w') (fun e w h=>ih e w u h) l e w U J M <|BA l (h.1 M) ?_;intro e2 Z X R;dsimp only at R;rw[GF X]at R;exact R
    ·exact LF l e w U J M (ih _ w u (h.2 M))
theorem Nu {o:Oper}{e:Env}{w:World}{k:KV}(h:sOp P e o k w):sti (fun k w=>cOp P (ev e) o k w) k w:=by
 unfold sOp at h;split at h
 ·rename_i x d;exact⟨_,by unfold cOp;simp only[d];exact⟨(by first|trivial|rfl),(by first|trivial|rfl)⟩,h⟩
 ·rename_i x d;exact⟨_,by unfold cOp;simp only[d];exact⟨(by first|trivial|rfl),(by first|trivial|rfl)⟩,h⟩
 ·exact h
theorem QN {o:Oper}{e:Env}{w:World}{k j:KV}(d:∀v,k v w→j v w)(h:sOp P e o k w):sOp P e o j w:=by
 unfold sOp at *;split at h
 ·exact d _ h
 ·exact d _ h
 ·obtain⟨v,u,h⟩:=h;exact⟨v,u,d _ h⟩
theorem Ko {o:Oper}{e:Env}{w:World}{k:KV}{next:Act→Prop}(h:sOp P e o k w)(u:∀v,k v w→next ⟨(pt e o.dst v).toArray,ds⟩):o.still P ⟨e.toArray,ds⟩ w next:=by
 obtain⟨v,J,C⟩:=Nu h;have d:∀v',Act.put ⟨e.toArray,ds⟩ o.dst v'=⟨(pt e o.dst v').toArray,ds⟩:=fun v' => rW e ds o.dst v';unfold Oper.still;rcases IW J with⟨v',w',j,rfl,rfl⟩|⟨w',j,I,rfl⟩|⟨f,args,j,M⟩
 ·rw[j];exact⟨rfl,by rw[d];exact u _ C⟩
 ·rw[j];exact⟨rfl,by rw[d,I];exact u _ C⟩
 ·rw[j];exact⟨rfl,v,Calls.mono M (by rintro e' w' ⟨v',rfl,rfl,rfl⟩;exact⟨rfl,rfl⟩),by rw[d];exact u _ C⟩
theorem Nv {ops:List Oper}{K:KE}{Q:Act→Prop}{w:World}{rest:List Oper}(hK:∀e,K e w→wpStill P ops.toArray w Q rest ⟨e.toArray,ds⟩):∀(l:List Oper) (e:Env),(∀o∈l,o.guard=none)→Fi P l K e w→wpStill P ops.toArray w Q (l++rest) ⟨e.toArray,ds⟩:=by
 intro l
 induction l with
 | nil=>intro e _ h;exact hK e h
 | cons o l ih =>
  intro e j h;simp only[List.cons_append,wpStill];rw[if_pos (by simp[Region.wanted,j o (List.mem_cons_self ..)])];exact Ko h fun v C=>ih _ (fun u d => j u (List.mem_cons_of_mem _ d)) C
theorem LH {ops:List Oper}{K:KE}{Q:Act→Prop}{w:World}{rest:List Oper}{j:Nat}{d:Bool}(hK:∀e,K e w→wpStill P ops.toArray w Q rest ⟨e.toArray,ds⟩):∀(l:List Oper) (e:Env),(∀o∈l,o.guard=some (j,d))→((ops[j]?).bind (·.dst)).any ((eY l).contains ·)=false→asB (oD ops e j)=some d→Fi P l K e w →
   wpStill P ops.toArray w Q (l++rest) ⟨e.toArray,ds⟩:=by
 intro l
 induction l with
 | nil=>intro e _ _ _ h;exact hK e h
 | cons o l ih =>
  intro e M U R h;obtain⟨J,u⟩:=By U;have X:=rh ops e o j d (M o (List.mem_cons_self ..));simp only[List.cons_append,wpStill];rw[X,if_pos (by simp[R])];exact Ko h fun v I => ih _ (fun V C => M V (List.mem_cons_of_mem _ C)) u (by rw[Eh J];exact R) I
theorem LI {ops:List Oper}{Q:Act→Prop}{w:World}{rest:List Oper}{j:Nat}{u:Bool}:∀(l:List Oper) (e:Env),(∀o∈l,o.guard=some (j,u))→((ops[j]?).bind (·.dst)).any ((eY l).contains ·)=false→asB (oD ops e j)≠some u →
   wpStill P ops.toArray w Q rest ⟨(ur e (eY l) ((eY l).map fun _=>undef)).toArray,ds⟩→wpStill P ops.toArray w Q (l++rest) ⟨e.toArray,ds⟩:=by
 intro l
 induction l with
 | nil=>intro e _ _ _ h;exact h
 | cons o l ih =>
  intro e R V U h;obtain⟨M,I⟩:=By V;have hw:=rh ops e o j u (R o (List.mem_cons_self ..));simp only[List.cons_append,wpStill];rw[hw,if_neg (by simpa using U),rW];refine ih _ (fun Z J => R Z (List.mem_cons_of_mem _ J)) I (by rw[Eh M];exact U) ?_;have X:ur e (eY (o::l)) ((eY (o::l)).map fun _=>undef)=ur (pt e o.dst undef) (eY l) ((eY l).map fun _=>undef):=by
   have C:=fun ds=>IX ds;unfold eY;rw[List.filterMap_cons];cases o.dst with
   | none=>rfl
   | some d =>
    simp only[ur,rV,C,pt];exact EJ _ (C _) _ _ _ _ _ (C _)
  rw[←X];exact h
theorem BC :∀(l:List Oper) {K K':KE} {e:Env} {w:World},Fi P l K e w→(∀e2,agree (eY l) e e2→K e2 w→K' e2 w)→Fi P l K' e w:=by
 intro l
 induction l with
 | nil=>intro K K' e w h j;exact j _ (agree.refl _ _) h
 | cons o rest ih =>
  intro K K' e w h j;refine QN (fun v h=>ih h fun e2 C hK=>j e2 (((Bz e o.dst v).trans C).mono ?_) hK) h;intro i hi;simp only[List.mem_append]at hi;unfold eY;rw[List.filterMap_cons];rcases hi with hi|hi
  ·cases u:o.dst with
   | none=>simp[u]at hi
   | some d=>simp[u]at hi;simp[hi]
  ·cases u:o.dst with
   | none=>exact hi
   | some d=>exact List.mem_cons_of_mem _ hi
theorem xq {ops:List Oper}{K:KE}{Q:Act→Prop}{w:World}(hK:∀e,K e w→Q ⟨e.toArray,ds⟩):∀(d:List (Option (Nat×Bool)×List Oper)) (e:Env),(∀g∈d,∀o∈g.2,o.guard=g.1)→vo P ops d K e w→wpStill P ops.toArray w Q (d.flatMap (·.2)) ⟨e.toArray,ds⟩:=by
 intro d
 induction d with
 | nil=>intro e _ h;exact hK e h
 | cons g d ih =>
  intro e V h;obtain⟨I,l⟩:=g;have u:∀g∈d,∀o∈g.2,o.guard=g.1:=fun g hh=>V g (List.mem_cons_of_mem _ hh);have U:=V (I,l) (List.mem_cons_self ..);rw[List.flatMap_cons];cases I with
  | none=>exact Nv (fun e h=>ih e u h) l e U h
  | some jw =>
   obtain⟨j,C⟩:=jw;simp only[vo]at h;cases M:((ops[j]?).bind (·.dst)).any ((eY l).contains ·)
   case true=>rw[M]at h;exact h.elim
   case false =>
    rw[M]at h;have h:aJ _ _ _ _ _:=h;by_cases J:asB (oD ops e j)=some C
    ·refine LH (K:=fun e' w' => vo P ops d K e' w') (fun e h=>ih e u h) l e U M J <|BC l (h.1 J) ?_;intro e2 X R;dsimp only at R;rw[GF X]at R;exact R
    ·exact LI l e U M J (ih _ u (h.2 J))
theorem GG (ops:Array Oper)(h:Nat.ble (jd ops) ops.size=true):(Region.lexB .any ops=true∧jd ops=ops.size)∨(Region.lexTailB .any ops (jd ops)=true∧jd ops<ops.size):=by
 have d:∀n,n≤ops.size→Nat.ble (rf ops n) ops.size=true→Region.lexTailB .any ops (rf ops n)=true∧rf ops n<ops.size:=by
  intro n
  induction n with
  | zero=>intro _ h;simp only[rf]at h;have:=Nat.le_of_ble_eq_true h;omega
  | succ n ih =>
   intro I h;simp only[rf]at h ⊢;cases u:Region.lexTailB .any ops n
   case true=>exact⟨u,by show n<_;omega⟩
   case false=>rw[u]at h;exact ih (by omega) h
 unfold jd at *;cases j:Nat.ble (Nq ops+1) ops.size
 case true =>
  right;rw[j]at h;exact d _ (Nat.le_of_ble_eq_true j) h
 case false =>
  rw[j]at h;cases C:Region.lexB .any ops
  case true=>left;exact⟨rfl,rfl⟩
  case false =>
   right;rw[C]at h;exact d ops.size (Nat.le_refl _) h
theorem pD {o:Oper}{a:Act}{w:World}{K:KV}(s:Sem Value)(d:execOp a.eval o=(do pure (.value (←s)):Sem Next))(h:okV P s K w):∃v w',(execOp a.eval o).run P w=.ok (.value v) w'∧K v w':=by
 unfold okV at h;split at h
 ·rename_i v w' j;exact⟨v,w',by rw[d,IV,j];rfl,h⟩
 ·exact h.elim
theorem HK {o:Oper}{e:Env}{w:World}{K:KV}(hr:AE o=true)(h:cOp P (ev e) o K w):∃v w',(execOp (Act.eval ⟨e.toArray,ds⟩) o).run P w=.ok (.value v) w'∧K v w':=by
 have he:Act.eval ⟨e.toArray,ds⟩=ev e:=funext (ph e ds)
 obtain⟨dst,op,ty,pos,after,guard⟩:=o
 cases op<;>simp only[cOp]at h
 case move x=>exact⟨_,w,by rw[he];rfl,h⟩
 case assign x=>exact⟨_,w,by rw[he];rfl,h⟩
 case pick c x y =>
  obtain⟨b,hb,hk⟩:=h
  exact⟨_,w,by unfold execOp;simp only[he,hb,asBool,Sem.run_bind,Sem.run_pure,Result.andThen],hk⟩
 case build t ps=>exact pD (a:=⟨e.toArray,ds⟩) (Instr.build t (ps.toList.map fun p:Nat×Operand=>(p.1,ev e p.2)).toArray) (by rw[he];exact congrArg (fun l=>(do pure (.value (←Instr.build t l)):Sem Next)) (Fj e ps)) h
 case load t x=>exact pD (a:=⟨e.toArray,ds⟩) (Instr.loadAt t (ev e x)) (by rw[he];rfl) h
 case nilCheck x =>
  unfold bo at h
  split at h
  ·rename_i a ha;exact⟨_,w,by unfold execOp;simp only[he,ha];rfl,h⟩
  ·rename_i f first cap ha;exact⟨_,w,by unfold execOp;simp only[he,ha];rfl,h⟩
  ·exact h.elim
 case binOp op t x y yt=>exact pD (a:=⟨e.toArray,ds⟩) (do eqG op t (isC x) (isC y) (ev e x) (ev e y);binOp op t (ev e x) (ev e y)) (by rw[he, ←OF];rfl) h
 case unOp op t x=>exact pD (a:=⟨e.toArray,ds⟩) (Op.unary op (ev e x)) (by rw[he];rfl) h
 case convert s d x=>exact pD (a:=⟨e.toArray,ds⟩) (Go.convert s d (ev e x)) (by rw[he];rfl) h
 case makeInterface t x=>exact pD (a:=⟨e.toArray,ds⟩) (Instr.makeInterface t (ev e x)) (by rw[he];rfl) h
 case makeFunc fn first cap =>
  have e1:first.map (ev e)=(first.toList.map (ev e)).toArray:=by rw[←Array.toList_map]
  have e2:cap.map (ev e)=(cap.toList.map (ev e)).toArray:=by rw[←Array.toList_map]
  exact⟨_,w,by unfold execOp;simp only[he,Instr.makeFunc,Sem.run_bind,Sem.run_pure,Result.andThen];rw[e1,e2],h⟩
 case slice t x lo hi mx=>exact pD (a:=⟨e.toArray,ds⟩) (Instr.sliceAt t (ev e x) (lo.map (ev e)) (hi.map (ev e)) (mx.map (ev e))) (by rw[he];rfl) h
 case fieldAddr s x f=>exact pD (a:=⟨e.toArray,ds⟩) (Instr.fieldAt s (ev e x) f) (by rw[he];rfl) h
 case field s x f=>exact pD (a:=⟨e.toArray,ds⟩) (Instr.field s (ev e x) f) (by rw[he];rfl) h
 case indexAddr t x i=>exact pD (a:=⟨e.toArray,ds⟩) (Instr.indexAt t (ev e x) (ev e i)) (by rw[he];rfl) h
 case index t x i=>exact pD (a:=⟨e.toArray,ds⟩) (Instr.index t (ev e x) (ev e i)) (by rw[he];rfl) h
 case lookup t x i ok=>exact pD (a:=⟨e.toArray,ds⟩) (Instr.lookup t (ev e x) (ev e i) ok) (by rw[he];rfl) h
 case extract t i=>exact pD (a:=⟨e.toArray,ds⟩) (Instr.extract (ev e t) i) (by rw[he];rfl) h
 case call c =>
  obtain⟨callee,args,ats⟩:=c
  have ea:args.map (ev e)=(args.toList.map (ev e)).toArray:=by rw[←Array.toList_map]
  cases callee with
  | invoke r m=>exact h.elim
  | builtin b =>
   have hx:execOp (Act.eval ⟨e.toArray,ds⟩) {dst,op:=.call {callee:=.builtin b,args,argTypes:=ats},type:=ty,pos,after,guard} = builtin b ats ty (args.map isC) (args.map (ev e)):=by rw[he];rfl
   have hc:args.map isC=(args.toList.map isC).toArray:=by rw[←Array.toList_map]
   have h:blt P b ats ty (args.toList.map isC).toArray (args.toList.map (ev e)).toArray K w:=h
   unfold blt at h
   split at h
   ·rename_i v w' hr;exact⟨v,w',by rw[hx,hc,ea];exact hr,h⟩
   ·exact h.elim
  | value f=>simp[AE]at hr
 all_goals first|exact h.elim|(simp[AE]at hr)
theorem Ml {S:World→Prop}{e:Env}{o:Oper}{k:Value→Prop}(h:hOp P S e o k):hld S (fun k w=>cOp P (ev e) o k w) k:=by
 unfold hOp at h
 split at h
 ·rename_i x ho;exact⟨_,fun w _=>by unfold cOp;simp only[ho];exact⟨(by first|trivial|rfl),(by first|trivial|rfl)⟩,h⟩
 ·rename_i x ho;exact⟨_,fun w _=>by unfold cOp;simp only[ho];exact⟨(by first|trivial|rfl),(by first|trivial|rfl)⟩,h⟩
 ·rename_i fn first cap ho;exact⟨_,fun w _=>by unfold cOp;simp only[ho];exact⟨(by first|trivial|rfl),(by first|trivial|rfl)⟩,h⟩
 ·exact h
theorem OL {f:Nat→Prop}:∀(l:List Nat),Bx l f→∀i∈l,f i:=by
 intro l
 induction l with
 | nil=>intro _ i hi;cases hi
 | cons j r ih =>
  intro h i hi;cases r with
  | nil =>
   rcases List.mem_cons.1 hi with rfl|hi
   ·exact h
   ·cases hi
  | cons d r2 =>
   have h:f j∧Bx (d::r2) f:=h;rcases List.mem_cons.1 hi with rfl|hi
   ·exact h.1
   ·exact ih h.2 i hi
theorem Nw {f g:Nat→Prop}(d:∀i,f i→g i):∀(l:List Nat),Bx l f→Bx l g:=by
 intro l
 induction l with
 | nil=>exact id
 | cons j r ih =>
  intro h;cases r with
  | nil=>exact d _ h
  | cons u r2 =>
   have h:f j∧Bx (u::r2) f:=h;exact⟨d _ h.1,ih h.2⟩
/-! ### A reading may be taken ahead of what does not turn it. -/
section taken
variable {ops:Array Oper}{Q:Exit→Act→World→Prop}{S:World→Prop}
def vV (ops:Array Oper)(listed:Array Bool):Prop:=∀(j:Nat) (o:Oper),ops[j]? = some o→listed.getD j false=true→∀e∈o.after,Region.binds .any e=true→listed.getD e.on false=true
theorem Jp {d:Array Bool}{i j:Nat}(h:(d.setIfInBounds i true).getD j false=true):d.getD j false=true∨j=i:=by
 by_cases u:j=i
 ·exact .inr u
 ·left;rw[getD_set_ne false (Ne.symm u)]at h;exact h
theorem rX {d:Array Bool}{i:Nat}(U:vV ops d)(R:i∈Region.ready .any ops d):vV ops (d.setIfInBounds i true):=by
 intro j o I V e J M;rcases Jp V with h|rfl
 ·exact getD_set_true (U j o I h e J M)
 ·obtain⟨_,X,C,u⟩:=mem_ready.1 R;rw[I]at C;cases C;exact getD_set_true (u e J M)
theorem EK {d:Array Bool}{j:Nat}(C:∀o,ops[j]? = some o→∀e∈o.after,Region.binds .any e=true→d.getD e.on false=true):∀x∈HH ops j,d.getD x false=true:=by
 intro x h;unfold HH at h;split at h
 ·rename_i o u;simp only[List.mem_map,List.mem_filter]at h;obtain⟨e,⟨I,J⟩,rfl⟩:=h;exact C o u e (by simpa using I) J
 ·cases h
theorem LJ {d:Array Bool}(V:vV ops d):∀(f:Nat) (h u:List Nat),(∀x∈h,d.getD x false=true)→(∀x∈u,d.getD x false=true)→∀x∈HJ ops f h u,d.getD x false=true:=by
 intro f
 induction f with
 | zero=>intro h u _ I;exact I
 | succ f ih =>
  intro h u J I;cases h with
  | nil=>exact I
  | cons j h =>
   simp only[HJ];split
   ·exact ih _ _ (fun x C=>J x (List.mem_cons_of_mem _ C)) I
   ·refine ih _ _ (fun x C=>?_) (fun x C=>?_)
    ·rcases List.mem_append.1 C with C|C
     ·exact EK (fun o M e R U=>V j o M (J j (List.mem_cons_self ..)) e R U) x C
     ·exact J x (List.mem_cons_of_mem _ C)
    ·rcases List.mem_cons.1 C with rfl|C
     ·exact J _ (List.mem_cons_self ..)
     ·exact I x C
theorem QO {k:Nat}:∀{l:List Nat},HG k l=true→k∈l:=by
 intro l
 induction l with
 | nil=>intro h;cases h
 | cons i r ih =>
  intro h;simp only[HG,Bool.or_eq_true]at h;rcases h with h|h
  ·rw[Nat.eq_of_beq_eq_true h];exact List.mem_cons_self ..
  ·exact List.mem_cons_of_mem _ (ih h)
theorem LL {d:Array Bool}{i j:Nat}{h:List Nat}(U:vV ops d)(R:j∈Region.ready .any ops d)(hi:i∈Region.ready .any ops d):og ops (i::h) j=i::og ops h j:=by
 unfold og;rw[List.filter_cons_of_pos];cases X:HG i (HJ ops 1000 (HH ops j) [])with
 | false=>rfl
 | true =>
  obtain⟨_,o,M,C⟩:=mem_ready.1 R;have I:=LJ U 1000 (HH ops j) [] (EK fun Z u => by rw[M]at u;cases u;exact C) (fun x V=>by cases V) i (QO X);have h0:=(mem_ready.1 hi).1;rcases Nat.lt_or_ge i d.size with J|J
  ·simp[J]at h0 I;rw[h0]at I;cases I
  ·simp[Array.getElem?_eq_none J]at I
def oM (P:Program)(ops:Array Oper)(Q:Exit→Act→World→Prop)(S:World→Prop):Nat→Array Bool→List Nat→Act→World→Prop
 | 0,listed,_,a,w=>Region.ready .any ops listed=[]∧Q .normal a w
 | fuel+1,listed,pend,a,w =>
  (Region.ready .any ops listed=[]→Q .normal a w) ∧
  ∀i∈Region.ready .any ops listed,wpOp P ops Q i (fun a' w' => (og ops pend i≠[]→S w')∧oM P ops Q S fuel (listed.setIfInBounds i true) (og ops pend i) a' w') a w
theorem xr :∀(fuel:Nat) (d:Array Bool) (j:List Nat) (a:Act) (w:World),oM P ops Q S fuel d j a w→wpAny P .any ops Q fuel d a w
 | 0,_,_,_,_,h=>h
 | fuel+1,_,_,_,_,h=>⟨h.1,fun i hi=>wpOp_mono (fun C w' u => xr fuel _ _ C w' u.2) (h.2 i hi)⟩
theorem IY :∀(fuel:Nat) (d:Array Bool) (a:Act) (w:World),wpAny P .any ops Q fuel d a w→oM P ops Q S fuel d [] a w
 | 0,_,_,_,h=>h
 | fuel+1,_,_,_,h=>⟨h.1,fun i hi=>wpOp_mono (fun u w' j => ⟨fun hh=>absurd rfl hh,IY fuel _ u w' j⟩) (h.2 i hi)⟩
theorem Kp {S2:World→Prop}(C:∀x,S2 x→S x):∀(fuel:Nat) (d:Array Bool) (j:List Nat) (a:Act) (w:World),oM P ops Q S2 fuel d j a w→oM P ops Q S fuel d j a w
 | 0,_,_,_,_,h=>h
 | fuel+1,_,_,_,_,h=>⟨h.1,fun i hi=>wpOp_mono (fun J w' I => ⟨fun u=>C _ (I.1 u),Kp C fuel _ _ J w' I.2⟩) (h.2 i hi)⟩
theorem IZ {p d:List Nat}{i:Nat}(h:∀x∈p,x∈d):∀x∈og ops p i,x∈og ops d i:=by
 intro x j;unfold og at *;rw[List.mem_filter]at *;exact⟨h x j.1,j.2⟩
theorem vH :∀(fuel:Nat) (d:Array Bool) (p u:List Nat) (a:Act) (w:World),(∀x∈p,x∈u)→oM P ops Q S fuel d u a w→oM P ops Q S fuel d p a w
 | 0,_,_,_,_,_,_,h=>h
 | fuel+1,_,p,u,_,_,hp,h=>⟨h.1,fun i hi=>wpOp_mono (fun I w' C => ⟨fun j=>C.1 (fun h0=>j (by
   cases J:og ops p i with
   | nil=>rfl
   | cons x r =>
    have:=IZ (ops:=ops) (i:=i) hp x (by rw[J];exact List.mem_cons_self ..)
    rw[h0]at this;cases this)),vH fuel _ _ _ I w' (IZ hp) C.2⟩) (h.2 i hi)⟩
theorem Kq {i:Nat}{X:Oper}{v:Value}(hi:ops[i]? = some X)(R:∀(j:Nat) (o:Oper) cs b,ops[j]? = some o→o.op≠.select cs b)(hQ:∀c a w,Q (.panic c) (a.put X.dst v) w→Q (.panic c) a w):∀(fuel:Nat) (d:Array Bool) (C:List Nat) (a:Act) (w:World),vV ops d →
   (∀j Z,ops[j]? = some Z→j≠i→d.getD j true=false→(∀e∈Z.after,Region.binds .any e=true→e.on≠i)→X.apart ops Z=true) →
   i∈Region.ready .any ops d→YieldsIf P ops S X v a→S w →
   oM P ops Q S fuel (d.setIfInBounds i true) (i::C) (a.put X.dst v) w→oM P ops Q S (fuel+1) d C a w:=by
 intro fuel
 induction fuel with
 | zero =>
  intro d C a w _ _ M hy hS H;refine⟨fun h=>(by rw[h]at M;cases M),fun j hj=>?_⟩;by_cases u:j=i
  ·subst u;exact hy.wpOp hi hS ⟨fun _=>hS,H⟩
  ·have:=ready_mono hj u
   rw[H.1]at this;cases this
 | succ fuel ih =>
  intro d C a w hc I M hy hS H;refine⟨fun h=>(by rw[h]at M;cases M),fun j hj=>?_⟩;by_cases u:j=i
  ·subst u;refine hy.wpOp hi hS ⟨fun _=>hS,vH _ _ _ _ _ _ (fun x hx=>?_) H⟩;unfold og at hx;exact List.mem_cons_of_mem _ (List.mem_filter.1 hx).1
  ·have U:=H.2 j (ready_mono hj u);rw[LL hc hj M]at U;obtain⟨V,Z,ad,ag⟩:=mem_ready.1 hj;have al:∀e∈Z.after,Region.binds .any e=true→e.on≠i:=fun e he hb az=>by
    have U:=ag e he hb;have h0:=(mem_ready.1 M).1;rw[az]at U;rcases Nat.lt_or_ge i d.size with h'|h'
    ·simp[h']at h0 U;rw[h0]at U;cases U
    ·simp[Array.getElem?_eq_none h']at U
   have h2:=wpOp_putIf ad (I j Z ad u V al) (fun cs b=>R i X cs b hi) (fun cs b=>R j Z cs b ad) hQ hy U;have J:∀k ok,ops[k]? = some ok→k≠i→(d.setIfInBounds j true).getD k true=false →
     (∀e∈ok.after,Region.binds .any e=true→e.on≠i)→X.apart ops ok=true:=fun k ok hk ar am av=>by
    refine I k ok hk ar ?_ av;by_cases ap:j=k
    ·subst ap;exact V
    ·rw[getD_set_ne true ap]at am;exact am
   refine wpOp_mono (fun a' w' h3=>?_) h2;have an:S w':=h3.2.1 (by simp);refine⟨fun _=>an,ih (d.setIfInBounds j true) _ a' w' (rX hc hj) J (ready_mono M (Ne.symm u)) h3.1 an ?_⟩;rw[Array.setIfInBounds_comm _ _ u];exact h3.2.2
theorem LO {i:Nat}{V:Oper}{v:Value}(hi:ops[i]? = some V)(M:∀(j:Nat) (o:Oper) cs b,ops[j]? = some o→o.op≠.select cs b)(hQ:∀c a w,Q (.panic c) (a.put V.dst v) w→Q (.panic c) a w):∀(fuel:Nat) (d:Array Bool) (u:List Nat) (a:Act) (w:World),vV ops d →
   (∀j Z,ops[j]? = some Z→j≠i→d.getD j true=false→(∀e∈Z.after,Region.binds .any e=true→e.on≠i)→V.apart ops Z=true) →
   i∈Region.ready .any ops d→YieldsIf P ops (fun _=>True) V v a→(u≠[]→S w) →
   oM P ops Q S fuel (d.setIfInBounds i true) u (a.put V.dst v) w→oM P ops Q S (fuel+1) d u a w:=by
 intro fuel
 induction fuel with
 | zero =>
  intro d u a w _ _ U hy hS H;refine⟨fun h=>(by rw[h]at U;cases U),fun j hj=>?_⟩;by_cases C:j=i
  ·subst C;exact hy.wpOp hi trivial ⟨fun hh=>hS (fun h0=>hh (by rw[h0];rfl)),vH 0 _ _ u _ _ (fun x hx=>(List.mem_filter.1 hx).1) H⟩
  ·have:=ready_mono hj C
   rw[H.1]at this;cases this
 | succ fuel ih =>
  intro d u a w hc I U hy hS H;refine⟨fun h=>(by rw[h]at U;cases U),fun j hj=>?_⟩;by_cases C:j=i
  ·subst C;exact hy.wpOp hi trivial ⟨fun hh=>hS (fun h0=>hh (by rw[h0];rfl)),vH _ _ _ _ _ _ (fun x hx=>(List.mem_filter.1 hx).1) H⟩
  ·have X:=H.2 j (ready_mono hj C);obtain⟨R,Z,ad,ag⟩:=mem_ready.1 hj;have al:∀e∈Z.after,Region.binds .any e=true→e.on≠i:=fun e he hb av=>by
    have X:=ag e he hb;have h0:=(mem_ready.1 U).1;rw[av]at X;rcases Nat.lt_or_ge i d.size with h'|h'
    ·simp[h']at h0 X;rw[h0]at X;cases X
    ·simp[Array.getElem?_eq_none h']at X
   have h2:=wpOp_putIf ad (I j Z ad C R al) (fun cs b=>M i V cs b hi) (fun cs b=>M j Z cs b ad) hQ hy X;have J:∀k ok,ops[k]? = some ok→k≠i→(d.setIfInBounds j true).getD k true=false →
     (∀e∈ok.after,Region.binds .any e=true→e.on≠i)→V.apart ops ok=true:=fun k ok hk ap am ar=>by
    refine I k ok hk ap ?_ ar;by_cases an:j=k
    ·subst an;exact R
    ·rw[getD_set_ne true an]at am;exact am
   refine wpOp_mono (fun a' w' h3=>?_) h2;refine⟨h3.2.1,ih (d.setIfInBounds j true) _ a' w' (rX hc hj) J (ready_mono U (Ne.symm C)) h3.1 h3.2.1 ?_⟩;rw[Array.setIfInBounds_comm _ _ C];exact h3.2.2
theorem Ad {d:Array Bool}{j:List Nat}{a:Act}{w:World}(u:Region.ready .any ops d=[])(h:Q .normal a w):∀fuel,oM P ops Q S fuel d j a w
 | 0=>⟨u,h⟩
 | _+1=>⟨fun _=>h,by rw[u];simp⟩
end taken
theorem GH {ops:Array Oper}{K:KE}{Q:Exit→Act→World→Prop}(hK:∀e w,K e w→Q .normal ⟨e.toArray,ds⟩ w)(hQ:∀c a w,¬Q (.panic c) a w)(hs:Region.noSelect ops=true):∀(f:Nat) (d:Array Bool) (u:List Nat) (S:World→Prop) (e:Env) (w:World),S w→vV ops d→lR P ops K f d u S e w→oM P ops Q S f d u ⟨e.toArray,ds⟩ w:=by
 intro f
 induction f with
 | zero =>
  intro d u S e w V hc h;simp only[lR]at h;cases hr:(Region.ready .any ops d).isEmpty
  case false=>rw[hr]at h;exact h.elim
  case true =>
   rw[hr]at h;exact Ad (List.isEmpty_iff.1 hr) (hK _ _ h) 0
 | succ f ih =>
  intro d u S e w V hc h;simp only[lR]at h;cases hr:(Region.ready .any ops d).isEmpty
  case true =>
   rw[hr]at h;exact Ad (List.isEmpty_iff.1 hr) (hK _ _ h) _
  case false =>
   rw[hr]at h;have ap:Region.ready .any ops d≠[]:=fun hh=>by rw[hh]at hr;cases hr
   dsimp only at h;cases hf:(Region.ready .any ops d).find? (GE ops d)with
   | some i =>
    rw[hf]at h;have h:hAt ops i _:=h;have M:=List.mem_of_find?_eq_some hf;have I:=List.find?_some hf;unfold GE at I;unfold hAt at h;cases ho:ops[i]? with
    | none=>rw[ho]at h;exact h.elim
    | some o =>
     rw[ho]at h I;simp only[Bool.and_eq_true]at I;cases Z:Nr o with
     | true =>
      dsimp only at h;rw[Z]at h;obtain⟨v,hv,hk⟩:=Ml h;have C:o.guard=none:=by
       unfold Nr at Z;cases hg:o.guard with
       | none=>rfl
       | some _=>rw[hg]at Z;cases Z
      have hy:YieldsIf P ops (fun _=>True) o v ⟨e.toArray,ds⟩:=.inl ⟨by simp[Region.wanted,C],fun w V=>by
       obtain⟨v',w',X,rfl,rfl⟩:=HK I.1 (hv w V);exact X⟩
      refine LO ho (Region.noSelect_spec hs) (fun c a w hh=>absurd hh (hQ _ _ _)) (v:=v) _ _ _ _ _ hc (Region.free_spec ho I.2) M hy (fun _=>V) ?_;rw[rW];exact ih _ _ _ _ _ V (rX hc M) hk
     | false =>
     dsimp only at h;rw[Z]at h;have an:∃v,YieldsIf P ops S o v ⟨e.toArray,ds⟩∧lR P ops K f (d.setIfInBounds i true) (i::u) S (pt e o.dst v) w:=by
      dsimp only at h;unfold QK at h;cases C:o.guard with
      | none =>
       rw[C]at h;obtain⟨v,hv,hk⟩:=Ml h;refine⟨v,.inl ⟨by simp[Region.wanted,C],fun w V=>?_⟩,hk⟩;obtain⟨v',w',X,rfl,rfl⟩:=HK I.1 (hv w V);exact X
      | some jw =>
       obtain⟨j,J⟩:=jw;rw[C]at h;obtain⟨v,hv,hu,hk⟩:=h;have hw:=rh ops.toList e o j J C;rw[show ops.toList.toArray=ops from rfl]at hw;refine⟨v,?_,hk⟩;by_cases ha:asB (oD ops.toList e j)=some J
       ·refine .inl ⟨by rw[hw,ha];simp,fun w V=>?_⟩;obtain⟨v',w',X,rfl,rfl⟩:=HK I.1 (hv ha w V);exact X
       ·exact .inr ⟨by rw[hw];simpa using ha,hu ha⟩
     obtain⟨v,hy,hk⟩:=an;refine Kq ho (Region.noSelect_spec hs) (fun c a w hh=>absurd hh (hQ _ _ _)) (v:=v) _ _ _ _ _ hc (Region.free_spec ho I.2) M hy V ?_;rw[rW];exact ih _ _ _ _ _ V (rX hc M) hk
   | none =>
    rw[hf]at h;refine⟨fun h0=>absurd h0 ap,fun i hi=>?_⟩;have R:=OL _ h i hi;unfold hAt at R;cases ho:ops[i]? with
    | none=>rw[ho]at R;exact R.elim
    | some o =>
     rw[ho]at R;have ag:∀(v:Value) (w':World),(match og ops u i with
       | [] =>
        match (Region.ready .any ops (d.setIfInBounds i true)).isEmpty with
        | true=>lR P ops K f (d.setIfInBounds i true) [] S (pt e o.dst v) w'
        | false=>aK (fun S w=>lR P ops K f (d.setIfInBounds i true) [] S (pt e o.dst v) w) w'
       | p::ps=>bF S (fun S w=>lR P ops K f (d.setIfInBounds i true) (p::ps) S (pt e o.dst v) w) w') →
       (og ops u i≠[]→S w')∧oM P ops Q S f (d.setIfInBounds i true) (og ops u i) ⟨(pt e o.dst v).toArray,ds⟩ w':=by
      intro v w' hh;cases hl:og ops u i with
      | nil =>
       rw[hl]at hh;dsimp only at hh;refine⟨fun h0=>absurd rfl h0,?_⟩;cases U:(Region.ready .any ops (d.setIfInBounds i true)).isEmpty with
       | true =>
        rw[U]at hh;have hh:lR P ops K f (d.setIfInBounds i true) [] S (pt e o.dst v) w':=hh
        have:K (pt e o.dst v) w':=by
         cases f with
         | zero=>simp only[lR,U]at hh;exact hh
         | succ f=>simp only[lR,U]at hh;exact hh
        exact Ad (List.isEmpty_iff.1 U) (hK _ _ this) _
       | false =>
        rw[U]at hh;obtain⟨S2,ad,hh⟩:=hh;exact IY _ _ _ _ (xr _ _ _ _ _ (ih _ _ _ _ _ ad (rX hc hi) hh))
      | cons p ps =>
       rw[hl]at hh;obtain⟨S2,ad,am,hh⟩:bF S (fun S w=>lR P ops K f (d.setIfInBounds i true) (p::ps) S (pt e o.dst v) w) w':=hh;exact⟨fun _=>ad _ am,Kp ad _ _ _ _ _ (ih _ _ _ _ _ am (rX hc hi) hh)⟩
     refine wpOp_step ho fun K' al=>?_;dsimp only at R;unfold QL at R;cases C:o.guard with
     | none =>
      rw[C]at R;rw[if_pos (by simp[Region.wanted,C])];exact vU R fun v w' hh=>al _ _ (ag v w' hh)
     | some jw =>
      obtain⟨j,J⟩:=jw;rw[C]at R;have hw:=rh ops.toList e o j J C;rw[show ops.toList.toArray=ops from rfl]at hw;by_cases ha:asB (oD ops.toList e j)=some J
      ·rw[if_pos (by rw[hw,ha];simp)];exact vU (R.1 ha) fun v w' hh=>al _ _ (ag v w' hh)
      ·rw[if_neg (by rw[hw];simpa using ha)];refine al _ _ ?_;rw[rW];exact ag undef w (R.2 ha)
theorem EL (ops:Array Oper)(n:Nat):vV ops (Array.replicate n false):=by
 intro j o _ h;rcases Nat.lt_or_ge j n with d|d
 ·simp[Array.getD,d]at h
 ·simp[Array.getD,Nat.not_lt.2 d]at h
theorem GJ {ops:Array Oper}(h:Ef P ops=true):Region.noSelect ops=true:=by
 simp only[Ef,Bool.and_eq_true]at h;exact h.1
theorem vJ :∀(c:Code) (N:KE) (X:Nat→KE) (R:KE) (e:Env) (w:World),ae P c N X R e w→c.wp P (QQ ds N X R) ⟨e.toArray,ds⟩ w:=by
 intro c
 induction c with
 | skip=>intro N X R e w h;exact wp_skip ⟨e,rfl,h⟩
 | region id ops draw =>
  intro N X R e w h;cases draw with
  | true =>
   simp only[ae]at h;cases U:(P.follows .mixedOrders&&Ef P ops)
   case true =>
    rw[U]at h;obtain⟨S,hS,h⟩:=h;simp only[Bool.and_eq_true]at U;exact wp_region_any U.1 (xr _ _ _ _ _ (GH (fun e w hN=>⟨e,rfl,hN⟩) (fun c a w hh=>hh) (GJ U.2) _ _ _ _ _ _ hS (EL ops _) h))
   case false =>
   rw[U]at h;dsimp only at h;cases M:(P.follows .mixedOrders&&Nat.ble (jd ops) ops.size)
   case false=>rw[M]at h;exact h.elim
   case true =>
    rw[M]at h;have h:vo _ _ _ _ _ _:=h;simp only[Bool.and_eq_true]at M;obtain⟨j,d⟩:=pT (ops.toList.take (jd ops));obtain⟨h3,h4⟩:=pT (ops.toList.drop (jd ops));have u:∀e,fU P ops.toList (grp (ops.toList.drop (jd ops))) N e w.drew→wpList P ops.toList.toArray (QQ ds N X R) (ops.toList.drop (jd ops)) ⟨e.toArray,ds⟩ w.drew:=by
     intro e V
     have:=xo (P:=P) (ops:=ops.toList) (Q:=QQ ds N X R) (K:=N) (fun e w h=>⟨e,rfl,h⟩) (grp (ops.toList.drop (jd ops))) e w.drew h4 V
     rwa[h3]at this
    rcases GG ops M.2 with⟨hB,hn⟩|⟨hB,hn⟩
    ·have J:=xq (P:=P) (ops:=ops.toList) (Q:=fun a=>QQ ds N X R .normal a w.drew) (w:=w.drew) (fun e V=>by
      have:=u e V
      rw[hn,List.drop_of_length_le (by simp)]at this;exact this) _ e d h
     rw[j,hn,List.take_of_length_le (by simp)]at J;refine wp_region_still M.1 hB ?_;simpa using J
    ·have J:=xq (P:=P) (ops:=ops.toList) (Q:=fun a=>wpList P ops.toList.toArray (QQ ds N X R) (ops.toList.drop (jd ops)) a w.drew) (w:=w.drew) (fun e V=>u e V) _ e d h;rw[j]at J
     have:=wp_region_still_tail (P:=P) (id:=id) (Q:=QQ ds N X R) (a:=⟨e.toArray,ds⟩) (w:=w) (l:=ops.toList) (jd ops) M.1 (by simpa using hB) J
     simpa using this
  | false =>
   refine wp_region_list ?_;obtain⟨j,d⟩:=pT ops.toList
   have:=xo (P:=P) (ops:=ops.toList) (Q:=QQ ds N X R) (K:=N) (fun e w h=>⟨e,rfl,h⟩) (grp ops.toList) e w d h
   rw[j]at this;simpa using this
 | seq a b iha ihb =>
  intro N X R e w h;refine wp_seq (wp_mono (iha _ _ _ _ _ h) ?_);intro x a w C;cases x with
  | normal=>obtain⟨e,rfl,h⟩:=C;exact ihb _ _ _ _ _ h
  | _=>exact C
 | cond c x y ihx ihy =>
  intro N X R e w h;obtain⟨b,Z,j,d⟩:=h;cases b with
  | true=>exact wp_cond (t:=true) (by rw[ph];exact Z) (ihx _ _ _ _ _ (j rfl))
  | false=>exact wp_cond (t:=false) (by rw[ph];exact Z) (ihy _ _ _ _ _ (d rfl))
 | block id c ih =>
  intro N X R e w h;refine wp_block (wp_mono (ih _ _ _ _ _ h) ?_);intro x a w C;cases x with
  | exit i =>
   obtain⟨e,rfl,h⟩:=C;simp only[Exit.inBlock];by_cases hi:i=id
   ·rw[if_pos hi]
    have:Nat.beq i id=true:=by rw[hi];exact Nat.beq_refl id
    rw[this]at h;exact⟨e,rfl,h⟩
   ·rw[if_neg hi]
    have:Nat.beq i id=false:=by
     cases Z:Nat.beq i id with
     | false=>rfl
     | true=>exact absurd (Nat.eq_of_beq_eq_true Z) hi
    rw[this]at h;exact⟨e,rfl,h⟩
  | _=>exact C
 | loop c ih =>
  intro N X R e w h;obtain⟨I,μ,h0,J⟩:=h;refine wp_loop (fun a w=>∃e:Env,a=⟨e.toArray,ds⟩∧I e w) (fun a w=>μ a.tmps.toList w) ⟨e,rfl,h0⟩ ?_;rintro _ w' ⟨e',rfl,hI⟩;refine wp_mono (ih _ _ _ _ _ (J e' w' hI)) ?_;intro x a w C;cases x with
  | normal=>obtain⟨e2,rfl,j,d⟩:=C;exact⟨⟨e2,rfl,j⟩,by simpa using d⟩
  | _=>exact C
 | exit i=>intro N X R e w h;exact wp_exit ⟨e,rfl,h⟩
 | ret=>intro N X R e w h;exact wp_ret ⟨e,rfl,h⟩
 | _=>intro N X R e w h;exact h.elim
def ks (l:List (Option TypeId×Value)):Sem Value:=do
 let vs ←l.toArray.mapM fun|(none,v)=>pure v|(some t,a)=>do loadVar t (←asAddr a)
 pure (if h:vs.size=1 then vs[0]else .tuple vs)
def bM (P:Program)(l:List (Option TypeId×Value))(K:KV)(w:World):Prop:=match (ks l).run P w with | .ok v w' => w'=w∧K v w|_=>False
def De (rs:List ResultVar)(e:Env):List (Option TypeId×Value):=rs.map fun | .tmp t=>(none,gd e t) | .cell a t=>(some t,gd e a)
def ut (P:Program)(rs:List ResultVar)(K:KV)(e:Env)(w:World):Prop :=
 match rs with
 | []=>K (.tuple #[]) w
 | [.tmp t]=>K (gd e t) w
 | [.tmp t,.tmp u]=>K (.tuple #[gd e t,gd e u]) w
 | [.tmp t,.tmp u,.tmp v]=>K (.tuple #[gd e t,gd e u,gd e v]) w
 | [.tmp t,.tmp u,.tmp v,.tmp x]=>K (.tuple #[gd e t,gd e u,gd e v,gd e x]) w
 | rs=>bM P (De rs e) K w
theorem Nx (d:Func)(e:Env)(w:World):(results d e.toArray).run P w=(ks (De d.results.toList e)).run P w:=by
 unfold results ks De
 have:((d.results.toList.map fun | .tmp t=>((none,gd e t):Option TypeId×Value) | .cell a t=>(some t,gd e a))).toArray=d.results.map (fun | .tmp t=>((none,gd e t):Option TypeId×Value) | .cell a t=>(some t,gd e a)):=by
  rw[←Array.toList_map]
 rw[this,Array.mapM_map]
 congr 2
 congr 1
 funext x;cases x with
 | tmp t=>simp only[Function.comp,yd]
 | cell a t=>simp only[Function.comp,yd]
theorem rY {u:Func}{K:KV}{e:Env}{w:World}(h:ut P u.results.toList K e w):∃v,(results u e.toArray).run P w=.ok v w∧K v w:=by
 rw[Nx];unfold ut at h;split at h
 ·rename_i d;rw[d];exact⟨_,by simp[ks,De],h⟩
 ·rename_i d;rw[d];exact⟨_,by simp[ks,De],h⟩
 ·rename_i d;rw[d];exact⟨_,by simp[ks,De],h⟩
 ·rename_i d;rw[d];exact⟨_,by simp[ks,De],h⟩
 ·rename_i d;rw[d];exact⟨_,by simp[ks,De],h⟩
 ·unfold bM at h;split at h
  ·rename_i v w' j;obtain⟨rfl,C⟩:=h;exact⟨v,j,C⟩
  ·exact h.elim
theorem enter {f:FuncId}{d:Func}{c:Code}{args:List Value}{w:World}{K:KV}(I:P.funcs[f]? = some d)(J:d.body=some c)(h:ae P c (ut P d.results.toList K) (fun _ _ _=>False) (ut P d.results.toList K) (args++List.replicate (d.ntmps-args.length) undef) w):Gives P f args.toArray w K:=by
 refine calls_of_wp I J ?_;have e1:args.toArray++Array.replicate (d.ntmps-args.toArray.size) undef=(args++List.replicate (d.ntmps-args.length) undef).toArray:=by simp
 rw[e1];refine wp_mono (vJ c _ _ _ _ _ h) ?_;intro x a w j;cases x with
 | normal=>obtain⟨e,rfl,h⟩:=j;obtain⟨v,C,u⟩:=rY h;exact⟨rfl,v,C,v,rfl,u⟩
 | ret=>obtain⟨e,rfl,h⟩:=j;obtain⟨v,C,u⟩:=rY h;exact⟨rfl,v,C,v,rfl,u⟩
 | exit i=>obtain⟨_,_,h⟩:=j;exact h.elim
 | _=>exact j.elim
/-! ## What a piece of code does not write stays. -/

def wr :Code→List Nat
 | .region _ ops _=>eY ops.toList
 | .seq a b=>wr a++wr b
 | .cond _ x y=>wr x++wr y
 | .block _ c=>wr c
 | .loop c=>wr c
 | _=>[]
theorem tq :∀(ds:List Nat) (vs:List Value) (e:Env),agree ds e (ur e ds vs):=by
 intro ds vs e;refine⟨?_,fun i hi=>by simp only[gd,List.getD,ur,OH vs ds 0 e i hi]⟩
 have:∀(ds:List Nat) (k:Nat) (e:Env),(rV vs ds k e).length=e.length:=by
  intro ds
  induction ds with
  | nil=>intro k e;rfl
  | cons d ds ih=>intro k e;simp only[rV];rw[ih];simp
 exact this ds 0 e
theorem GK {ops:List Oper}:∀(d:List (Option (Nat×Bool)×List Oper)) {K K':KE} {e:Env} {w:World},fU P ops d K e w →
  (∀e2 R,agree (eY (d.flatMap (·.2))) e e2→K e2 R→K' e2 R)→fU P ops d K' e w:=by
 intro d
 induction d with
 | nil=>intro K K' e w h u;exact u _ _ (agree.refl _ _) h
 | cons g d ih =>
  intro K K' e w h u;obtain⟨C,l⟩:=g;have hd:eY (((C,l)::d).flatMap (·.2))=eY l++eY (d.flatMap (·.2)):=by simp[eY,List.filterMap_append]
  rw[hd]at u;cases C with
  | none=>exact BA l h fun e2 R Z U=>ih U fun e3 I J=>u e3 I (Z.trans J)
  | some jw =>
   obtain⟨j,X⟩:=jw;simp only[fU]at h ⊢;cases M:((ops[j]?).bind (·.dst)).any ((eY l).contains ·)
   case true=>rw[M]at h;exact h.elim
   case false =>
    rw[M]at h;have h:aJ _ _ _ _ _:=h;show aJ _ _ _ _ _;refine⟨fun V=>?_,fun V=>?_⟩
    ·refine BA l (h.1 V) ?_;intro e2 R Z U;exact ih U fun e3 I J=>u e3 I ((tq _ _ _).trans J)
    ·exact ih (h.2 V) fun e3 I J=>u e3 I ((tq _ _ _).trans J)
theorem Ny {ops:List Oper}:∀(d:List (Option (Nat×Bool)×List Oper)) {K K':KE} {e:Env} {w:World},vo P ops d K e w →
  (∀e2,agree (eY (d.flatMap (·.2))) e e2→K e2 w→K' e2 w)→vo P ops d K' e w:=by
 intro d
 induction d with
 | nil=>intro K K' e w h u;exact u _ (agree.refl _ _) h
 | cons g d ih =>
  intro K K' e w h u;obtain⟨C,l⟩:=g;have X:eY (((C,l)::d).flatMap (·.2))=eY l++eY (d.flatMap (·.2)):=by simp[eY,List.filterMap_append]
  rw[X]at u;cases C with
  | none=>exact BC l h fun e2 V M=>ih M fun e3 I=>u e3 (V.trans I)
  | some jw =>
   obtain⟨j,U⟩:=jw;simp only[vo]at h ⊢;cases J:((ops[j]?).bind (·.dst)).any ((eY l).contains ·)
   case true=>rw[J]at h;exact h.elim
   case false =>
    rw[J]at h;have h:aJ _ _ _ _ _:=h;show aJ _ _ _ _ _;refine⟨fun R=>?_,fun R=>?_⟩
    ·refine BC l (h.1 R) ?_;intro e2 V M;exact ih M fun e3 I=>u e3 ((tq _ _ _).trans I)
    ·exact ih (h.2 R) fun e3 I=>u e3 ((tq _ _ _).trans I)
theorem Nz {ops:Array Oper}{K K':KE}:∀(f:Nat) (d:Array Bool) (u:List Nat) (S:World→Prop) (e:Env) (w:World),lR P ops K f d u S e w→(∀e2 w2,agree (eY ops.toList) e e2→K e2 w2→K' e2 w2)→lR P ops K' f d u S e w:=by
 intro f;have ag:∀{i:Nat} {o:Oper} (e:Env) (v:Value),ops[i]? = some o→agree (eY ops.toList) e (pt e o.dst v):=by
  intro i o e v C;refine(Bz e o.dst v).mono fun k J=>?_;have hm:o∈ops.toList:=by have:=Array.mem_of_getElem? C;simpa using this
  simp only[eY,List.mem_filterMap];exact⟨o,hm,by simpa using J⟩
 induction f with
 | zero =>
  intro d u S e w h J;simp only[lR]at h ⊢;cases V:(Region.ready .any ops d).isEmpty
  case false=>rw[V]at h;exact h
  case true=>rw[V]at h;exact J _ _ (agree.refl _ _) h
 | succ f ih =>
  intro d u S e w h J;simp only[lR]at h ⊢;cases V:(Region.ready .any ops d).isEmpty
  case true=>rw[V]at h;exact J _ _ (agree.refl _ _) h
  case false =>
   rw[V]at h;dsimp only at h ⊢;have j:∀{i:Nat} {o:Oper} (p:List Nat) (S:World→Prop) (v:Value) (w':World),ops[i]? = some o→lR P ops K f (d.setIfInBounds i true) p S (pt e o.dst v) w'→lR P ops K' f (d.setIfInBounds i true) p S (pt e o.dst v) w':=by
    intro i o p S v w' C hh;exact ih _ _ _ _ _ hh fun e2 w2 X=>J e2 w2 (((ag e v C).trans X).mono (fun k J=>by simpa using J))
   cases hf:(Region.ready .any ops d).find? (GE ops d)with
   | some i =>
    rw[hf]at h;have h:hAt ops i _:=h;show hAt ops i _;unfold hAt at *;cases C:ops[i]? with
    | none=>rw[C]at h;exact h.elim
    | some o =>
     rw[C]at h;dsimp only at h ⊢;cases ad:Nr o with
     | true =>
      rw[ad]at h;dsimp only at h ⊢;unfold hOp at *;split at h
      ·exact j _ _ _ _ C h
      ·exact j _ _ _ _ C h
      ·exact j _ _ _ _ C h
      ·obtain⟨v,U,hh⟩:=h;exact⟨v,U,j _ _ _ _ C hh⟩
     | false =>
     rw[ad]at h;dsimp only at h ⊢;unfold QK at *;cases I:o.guard with
     | some jw =>
      rw[I]at h;obtain⟨v,U,hu,hh⟩:=h;exact⟨v,U,hu,j _ _ _ _ C hh⟩
     | none =>
     rw[I]at h;dsimp only at h ⊢;unfold hOp at *;split at h
     ·exact j _ _ _ _ C h
     ·exact j _ _ _ _ C h
     ·exact j _ _ _ _ C h
     ·obtain⟨v,U,hh⟩:=h;exact⟨v,U,j _ _ _ _ C hh⟩
   | none =>
    rw[hf]at h;refine Nw (fun i hh=>?_) _ h;unfold hAt at *;cases C:ops[i]? with
    | none=>rw[C]at hh;exact hh.elim
    | some o =>
     rw[C]at hh;have R:∀(v:Value) (w':World),(match og ops u i with
       | [] =>
        match (Region.ready .any ops (d.setIfInBounds i true)).isEmpty with
        | true=>lR P ops K f (d.setIfInBounds i true) [] S (pt e o.dst v) w'
        | false=>aK (fun S w=>lR P ops K f (d.setIfInBounds i true) [] S (pt e o.dst v) w) w'
       | p::ps=>bF S (fun S w=>lR P ops K f (d.setIfInBounds i true) (p::ps) S (pt e o.dst v) w) w')→(match og ops u i with
       | [] =>
        match (Region.ready .any ops (d.setIfInBounds i true)).isEmpty with
        | true=>lR P ops K' f (d.setIfInBounds i true) [] S (pt e o.dst v) w'
        | false=>aK (fun S w=>lR P ops K' f (d.setIfInBounds i true) [] S (pt e o.dst v) w) w'
       | p::ps=>bF S (fun S w=>lR P ops K' f (d.setIfInBounds i true) (p::ps) S (pt e o.dst v) w) w'):=by
      intro v w' hh;cases hl:og ops u i with
      | nil =>
       rw[hl]at hh;dsimp only at hh ⊢;cases Z:(Region.ready .any ops (d.setIfInBounds i true)).isEmpty with
       | true=>rw[Z]at hh;exact j _ _ _ _ C hh
       | false=>rw[Z]at hh;obtain⟨S2,M,hh⟩:=hh;exact⟨S2,M,j _ _ _ _ C hh⟩
      | cons p ps =>
       rw[hl]at hh;obtain⟨S2,M,al,hh⟩:bF S (fun S w=>lR P ops K f (d.setIfInBounds i true) (p::ps) S (pt e o.dst v) w) w':=hh;exact⟨S2,M,al,j _ _ _ _ C hh⟩
     dsimp only at hh ⊢;unfold QL at *;cases I:o.guard with
     | some jw =>
      rw[I]at hh;exact⟨fun X=>ye R (hh.1 X),fun X=>R _ _ (hh.2 X)⟩
     | none =>
      rw[I]at hh;exact ye R hh
theorem vK :∀(c:Code) {N N':KE} {X X':Nat→KE} {R R':KE} {e:Env} {w:World},ae P c N X R e w→(∀e2 d,agree (wr c) e e2→N e2 d→N' e2 d) →
  (∀i e2 d,agree (wr c) e e2→X i e2 d→X' i e2 d)→(∀e2 d,agree (wr c) e e2→R e2 d→R' e2 d)→ae P c N' X' R' e w:=by
 intro c
 induction c with
 | skip=>intro N N' X X' R R' e w h hN C J;exact hN _ _ (agree.refl _ _) h
 | region id ops draw =>
  intro N N' X X' R R' e w h hN C J;cases draw with
  | true =>
   simp only[ae]at h ⊢;cases hd:(P.follows .mixedOrders&&Ef P ops)
   case true =>
    rw[hd]at h;obtain⟨S,hS,h⟩:=h;exact⟨S,hS,Nz _ _ _ _ _ _ h hN⟩
   case false =>
   rw[hd]at h;dsimp only at h ⊢;cases hf:(P.follows .mixedOrders&&Nat.ble (jd ops) ops.size)
   case false=>rw[hf]at h;exact h.elim
   case true =>
    rw[hf]at h;have h:vo _ _ _ _ _ _:=h;show vo _ _ _ _ _ _;have hd:wr (.region id ops true)=eY (ops.toList.take (jd ops))++eY (ops.toList.drop (jd ops)):=by
     show eY ops.toList=_;simp only[eY];rw[←List.filterMap_append,List.take_append_drop]
    rw[hd]at hN;refine Ny _ h ?_;rw[(pT (ops.toList.take (jd ops))).1];intro e2 j U;refine GK _ U ?_;rw[(pT (ops.toList.drop (jd ops))).1];intro e3 V M h3;exact hN e3 V (j.trans M) h3
  | false =>
   refine GK _ h ?_;rw[(pT ops.toList).1];exact hN
 | seq a b iha ihb =>
  intro N N' X X' R R' e w h hN C J;have Z:∀i∈wr a,i∈wr (.seq a b):=fun i hi=>List.mem_append_left _ hi;refine iha h ?_ (fun i e2 d j=>C i e2 d (j.mono Z)) (fun e2 d j=>J e2 d (j.mono Z));intro e2 d j U;exact ihb U (fun e3 V M=>hN e3 V (j.trans M)) (fun i e3 V M=>C i e3 V (j.trans M)) (fun e3 V M=>J e3 V (j.trans M))
 | cond c x y ihx ihy =>
  intro N N' X X' R R' e w h hN C J;have Z:∀i∈wr x,i∈wr (.cond c x y):=fun i hi=>List.mem_append_left _ hi;have hr:∀i∈wr y,i∈wr (.cond c x y):=fun i hi=>List.mem_append_right _ hi;obtain⟨b,M,h1,U⟩:=h;exact⟨b,M,fun hh=>ihx (h1 hh) (fun e2 d j=>hN e2 d (j.mono Z)) (fun i e2 d j=>C i e2 d (j.mono Z)) (fun e2 d j=>J e2 d (j.mono Z)),
   fun hh=>ihy (U hh) (fun e2 d j=>hN e2 d (j.mono hr)) (fun i e2 d j=>C i e2 d (j.mono hr)) (fun e2 d j=>J e2 d (j.mono hr))⟩
 | block id c ih =>
  intro N N' X X' R R' e w h hN C J;refine ih h hN ?_ J;intro i e2 d j hx;cases hi:Nat.beq i id
  ·rw[hi]at hx;exact C i e2 d j hx
  ·rw[hi]at hx;exact hN e2 d j hx
 | loop c ih =>
  intro N N' X X' R R' e w h hN C J;obtain⟨I,μ,h0,hs⟩:=h;refine⟨fun e' w' => I e' w'∧agree (wr c) e e',μ,⟨h0,agree.refl _ _⟩,?_⟩;rintro e' w' ⟨hI,ad⟩;have u:∀e2,agree (wr c) e' e2→agree (wr c) e e2:=fun e2 j=>(ad.trans j).mono (fun i hi=>by simpa using hi)
  exact ih (hs e' w' hI) (fun e2 d j ⟨h1,U⟩=>⟨⟨h1,u e2 j⟩,U⟩) (fun i e2 d j=>C i e2 d (u e2 j)) (fun e2 d j=>J e2 d (u e2 j))
 | exit i=>intro N N' X X' R R' e w h hN C J;exact C i _ _ (agree.refl _ _) h
 | ret=>intro N N' X X' R R' e w h hN C J;exact J _ _ (agree.refl _ _) h
 | _=>intro N N' X X' R R' e w h hN C J;exact h.elim
def mix (ws:List Nat)(e':Env):Nat→Env→Env
 | _,[]=>[]
 | k,v::e=>(if ws.contains k then gd e' k else v)::mix ws e' (k+1) e
theorem SX (d:List Nat)(e':Env):∀(e:Env) (k i:Nat),(mix d e' k e)[i]? = (e[i]?).map fun v=>if d.contains (k+i)then gd e' (k+i)else v:=by
 intro e
 induction e with
 | nil=>intro k i;simp[mix]
 | cons v e ih =>
  intro k i;cases i with
  | zero=>simp[mix]
  | succ i=>simp only[mix,List.getElem?_cons_succ,ih];rw[show k+1+i=k+(i+1)by omega]
theorem Ja {u:List Nat}{e e':Env}(h:agree u e e'):mix u e' 0 e=e':=by
 apply List.ext_getElem?;intro i;rw[SX,Nat.zero_add];by_cases hi:i<e.length
 ·have d:i<e'.length:=by rw[h.1];exact hi
  rw[List.getElem?_eq_getElem hi,List.getElem?_eq_getElem d];have j:gd e' i=e'[i]:=by simp[gd,List.getD,d]
  by_cases I:u.contains i=true
  ·simp[j];intro J;exact absurd (by simpa using I) J
  ·have C:=h.2 i (by simpa using I);rw[j]at C
   have:gd e i=e[i]:=by simp[gd,List.getD,hi]
   rw[this]at C;simp only[Option.map_some,I];simp[C]
 ·have d:¬i<e'.length:=by rw[h.1];exact hi
  simp[List.getElem?_eq_none (Nat.le_of_not_lt hi),List.getElem?_eq_none (Nat.le_of_not_lt d)]
theorem aQ (c:Code)(ws:List Nat)(u:(wr c).all (ws.contains ·)=true)(I:KE)(μ:Env→World→Nat){N:KE}{X:Nat→KE}{R:KE}{e:Env}{w:World}(h0:I e w)(J:∀e' w',I e' w'→ae P c (fun e2 C=>I e2 C∧μ e2 C<μ e' w') X R (mix ws e' 0 e) w'):ae P (.loop c) N X R e w:=by
 have j:∀i∈wr c,i∈ws:=fun i hi=>by simpa using List.all_eq_true.1 u i hi
 refine⟨fun e' w' => I e' w'∧agree ws e e',μ,⟨h0,agree.refl _ _⟩,?_⟩;rintro e' w' ⟨hI,d⟩;have h:=J e' w' hI;rw[Ja d]at h;exact vK c h (fun e2 C V ⟨U,M⟩=>⟨⟨U,(d.trans (V.mono j)).mono (fun i hi=>by simpa using hi)⟩,M⟩) (fun _ _ _ _ h=>h) (fun _ _ _ h=>h)
def sub :List Nat→Code→Code
 | 0::p,.seq a _=>sub p a
 | 1::p,.seq _ b=>sub p b
 | 0::p,.cond _ x _=>sub p x
 | 1::p,.cond _ _ y=>sub p y
 | 0::p,.block _ c=>sub p c
 | 0::p,.loop c=>sub p c
 | [],c=>c
 | _,_=>.skip
def rep :List Nat→Code→Code→Code
 | 0::p,x,.seq a b=>.seq (rep p x a) b
 | 1::p,x,.seq a b=>.seq a (rep p x b)
 | 0::p,x,.cond c a b=>.cond c (rep p x a) b
 | 1::p,x,.cond c a b=>.cond c a (rep p x b)
 | 0::p,x,.block i c=>.block i (rep p x c)
 | 0::p,x,.loop c=>.loop (rep p x c)
 | [],x,_=>x
 | _,_,c=>c
def cd (f:Func)(p:List Nat):Code:=sub p (f.body.getD .skip)
theorem aH {f:FuncId}{d:Func}{args:List Value}{w:World}{K:KV}(u:P.funcs[f]? = some d)(C:d.body.isSome=true)(h:ae P (cd d []) (ut P d.results.toList K) (fun _ _ _=>False) (ut P d.results.toList K) (args++List.replicate (d.ntmps-args.length) undef) w):Gives P f args.toArray w K:=by
 cases j:d.body with
 | none=>simp[j]at C
 | some c =>
  refine enter u j ?_
  have:cd d []=c:=by simp[cd,j,sub]
  rw[this]at h;exact h
end sound
end Go.Proofs.YtgpfkmdknlcemaaGreatDoor
