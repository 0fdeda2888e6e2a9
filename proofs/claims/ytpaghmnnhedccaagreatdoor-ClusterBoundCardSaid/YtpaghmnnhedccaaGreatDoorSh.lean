import Derived.WalkKit
import Derived.WalkSpells
import Derived.WalkLawsBesides
import Derived.KernelRfl
import Derived.Still
import Derived.StillTail
import Derived.OrdersHeld
import Derived.RegionTactic
set_option linter.all false
namespace Go.Proofs.YtpaghmnnhedccaaGreatDoor
set_option maxRecDepth 100000
set_option maxHeartbeats 4000000
abbrev oF :=Value
abbrev oG :=World
abbrev oD :=Nat->Value
abbrev oE :=List Value
def oo{p:Prop}(h:p:=by omega):p:=h
def kr{p:Prop}(h:p:=by kernel_rfl):p:=h
def dc{p:Prop}(h:p:=by decide):p:=h
def oB{p:Prop}(h:p:=by simp):p:=h
def oA{n:Nat}:n<=n:=Nat.le_refl n
def gE{α:Type _}{l:List α}{i:Nat}(h:i<l.length):l[i]? = some l[i]:=List.getElem?_eq_getElem h
def gS{α:Type _}{l:List α}{i:Nat}{a:α}(h:l[i]? = some a):∃h,l[i]=a:=List.getElem?_eq_some_iff.1 h
def tL{α:Type _}{l:List α}{i:Nat}(h:l.length<=i):l.take i=l:=List.take_of_length_le h
def mS{α:Type _}{a b:α}(h:a∈[b]):a=b:=List.mem_singleton.1 h
def mO{α:Type _}{l:List α}{i:Nat}{a:α}(h:l[i]? = some a):a∈l:=List.mem_of_getElem? h
def kf{α:Sort _}{p:α->Prop}(h:∀x,p x:=by intro _;kernel_rfl):∀x,p x:=h
abbrev pA(b o:Nat):oF:=.pointer (some ⟨b,o,none⟩)
abbrev oH :=@List.mem_cons_of_mem
abbrev oI :=@if_neg
abbrev oJ :=@if_pos
abbrev oK :=@Nat.zero_add
abbrev oL :=@List.mem_cons_self
abbrev oM :=@Bool.and_eq_true
abbrev oN :=@List.getD_eq_getElem?_getD
abbrev oO :=@List.mem_cons
abbrev oP :=@decide_eq_true_eq
abbrev oQ :=@Int.toNat_natCast
abbrev oR :=@List.not_mem_nil
abbrev oS :=@List.drop_of_length_le
abbrev oT :=@List.length_append
abbrev oU :=@List.mem_append
abbrev oV :=@List.nil_append
abbrev oW :=@List.append_nil
abbrev oX :=@List.drop_zero
abbrev oY :=@List.length_map
abbrev oZ :=@List.length_cons
abbrev qA :=@List.length_take
abbrev qB :=@List.length_drop
abbrev qC :=@List.getElem?_map
abbrev qD :=@Option.some.injEq
abbrev qE :=@decide_eq_false
abbrev qF :=@decide_eq_true
abbrev qG :=@Nat.zero_le
abbrev qH :=@congrArg
abbrev qI :=@absurd
abbrev qJ :=@List.take_append_of_le_length
abbrev qK :=@List.getElem?_cons_succ
abbrev qL :=@List.getElem?_cons_zero
abbrev qM :=@Array.getElem?_eq_some_iff
abbrev qN :=@List.length_set
abbrev qO :=@List.getElem?_append_left
abbrev qP :=@List.getElem?_append_right
abbrev qQ :=@Nat.lt_of_lt_of_le
abbrev qR :=@Nat.le_trans
abbrev qS :=@List.drop_append
abbrev qT :=@List.take_append
abbrev qU :=@List.mem_map
abbrev qV :=@List.mem_filter
abbrev qW :=@Nat.add_zero
abbrev qX :=@Nat.lt_irrefl
abbrev qY :=@List.take_zero
abbrev qZ :=@Bool.true_and
abbrev jA :=@Bool.false_and
abbrev jB :=@List.getElem?_set_ne
abbrev jC :=@List.getElem?_set_self
abbrev jD :=@List.getElem?_eq_none
abbrev jE :=@List.append_assoc
abbrev jF :=@List.cons_append
abbrev jG :=@List.nodup_cons
abbrev jH :=@List.map_map
abbrev jI :=@List.flatMap_cons
abbrev jJ :=@List.map_append
abbrev jK :=@List.map_cons
abbrev jL :=@List.getElem?_replicate
abbrev jM :=@List.getElem?_drop
abbrev jN :=@List.getElem?_take_of_lt
abbrev jO :=@Nat.sub_self
abbrev jP :=@Option.map_some
abbrev jQ :=@List.mem_range
abbrev jR :=@Bool.or_eq_true
abbrev jS :=@List.all_eq_true
abbrev jT :=@World.ownsRow.lt
abbrev jU :=@Go.RowKit.Below.refl
abbrev jW :=@Result.andThen_ok
abbrev jX :=@Sem.run_pure
abbrev jY :=@Sem.run_bind
abbrev jZ :=@run_underlying
abbrev zB :=@World.block_lt_of_cell?
open Go.RowKit
def AA(l:List UInt8):ByteArray:=⟨l.toArray⟩
abbrev Env:=oE
abbrev KV:=oF->oG->Prop
abbrev KE:=Env->oG->Prop
def gd(e:Env)(t:Nat):oF:=e.getD t undef
def ev(e:Env):Operand->oF
 | .tmp t=>gd e t
 | .const v=>v
 | .global g=>pA g 0
 | .func f=>.func (.func f) #[] #[]
def pt(e:Env)(d:Option Tmp)(v:oF):Env:=match d with|some d=>e.set d v|none=>e
def Gives(P:Program)(f:FuncId)(a:Array oF)(w:oG)(K:KV):Prop :=
 Calls P f a w λe b => ∃v,e=.returned v/\K v b
def Gives.mono{P:Program}{f:FuncId}{a:Array oF}{w:oG}{K K':KV}(h:Gives P f a w K)(c:∀v w',K v w'->K' v w'):Gives P f a w K' :=
 Calls.mono h λ_ _ ⟨v,b,d⟩=>⟨v,b,c v _ d⟩
def okV(P:Program)(s:Sem oF)(K:KV)(w:oG):Prop:=match s.run P w with | .ok v w' => K v w' | .halt _ _=>False
def okU(P:Program)(s:Sem Unit)(K:KV)(w:oG):Prop:=match s.run P w with | .ok _ w' => K undef w' | .halt _ _=>False
def zfz{P:Program}{s:Sem oF}{K K':KV}{w:oG}(a:∀v w',K v w'->K' v w')(h:okV P s K w):okV P s K' w:=by
 unfold okV at *;split at h
 .exact a _ _ h
 .exact h.elim
def zfy{P:Program}{s:Sem Unit}{K K':KV}{w:oG}(a:∀v w',K v w'->K' v w')(h:okU P s K w):okU P s K' w:=by
 unfold okU at *;split at h
 .exact a _ _ h
 .exact h.elim
def dR{P:Program}{s:Sem oF}{K:KV}{w w':oG}{v:oF}(h:s.run P w=.ok v w')(a:K v w'):okV P s K w:=by unfold okV;rw[h];exact a
def Vp{P:Program}{s:Sem Unit}{K:KV}{w w':oG}{u:Unit}(h:s.run P w=.ok u w')(a:K undef w'):okU P s K w:=by unfold okU;rw[h];exact a
def isC:Operand->Bool | .const _=>true|_=>false
def ziP(c:Bool)(v:oF):Operand:=match c with|true=>.const v|false=>.tmp 0
def eqG(c:BinOp)(t:TypeId)(cx cy:Bool)(a b:oF):Sem Unit:=eqGuard c t (ziP cx a) (ziP cy b) a b
def zd8(c:BinOp)(t:TypeId)(x y:Operand)(a b:oF):eqGuard c t x y a b=eqG c t (isC x) (isC y) a b:=by unfold eqG eqGuard;cases x<;>cases y<;>rfl
section ops
variable (P:Program)
def bin(a:BinOp)(t:TypeId)(cx cy:Bool)(x y:oF)(K:KV)(w:oG):Prop:=okV P (do eqG a t cx cy x y;binOp a t x y) K w
def un(a:UnOp)(x:oF)(K:KV)(w:oG):Prop:=okV P (Op.unary a x) K w
def conv(s d:TypeId)(x:oF)(K:KV)(w:oG):Prop:=okV P (convert s d x) K w
def KO (f:FuncId):Prop := ∃ a,P.funcs[f]? = some a∧(a.name == "runtime.NumGoroutine")=false∧a.body.isNone=false
def call(f:FuncId)(a:Array oF)(K:KV)(w:oG):Prop:=KO P f/\Gives P f a w K
def bA(b:oF)(a:Array oF)(K:KV)(w:oG):Prop:=∃f first cap,b=.func (.func f) first cap/\call P f (first++a++cap) K w
def blt(b:Builtin)(c:Array TypeId)(ty:TypeId)(cs:Array Bool)(a:Array oF)(K:KV)(w:oG):Prop :=
 match (builtin b c ty cs a).run P w with | .ok (.value v) w' => K v w'|_=>False
def slc(t:TypeId)(x:oF)(a hi b:Option oF)(K:KV)(w:oG):Prop:=okV P (Instr.sliceAt t x a hi b) K w
def ao(s:TypeId)(x:oF)(f:Nat)(K:KV)(w:oG):Prop:=okV P (Instr.fieldAt s x f) K w
def fld(s:TypeId)(x:oF)(f:Nat)(K:KV)(w:oG):Prop:=okV P (Instr.field s x f) K w
def aW(t:TypeId)(x i:oF)(K:KV)(w:oG):Prop:=okV P (Instr.indexAt t x i) K w
def idx(t:TypeId)(x i:oF)(K:KV)(w:oG):Prop:=okV P (Instr.index t x i) K w
def lkp(t:TypeId)(x i:oF)(ok:Bool)(K:KV)(w:oG):Prop:=okV P (Instr.lookup t x i ok) K w
def fk(t:TypeId)(m k x:oF)(K:KV)(w:oG):Prop:=okU P (Instr.mapUpdate t m k x) K w
def mW(t:TypeId)(m k:oF)(K:KV)(w:oG):Prop:=okV P (Instr.mapEntry t m k) K w
def eSt(t:TypeId)(m s x:oF)(K:KV)(w:oG):Prop:=okU P (Instr.entryStore t m s x) K w
def rng(t:TypeId)(x:oF)(K:KV)(w:oG):Prop:=okV P (Instr.range t x) K w
def nxt(b:oF)(a:Bool)(ty:TypeId)(K:KV)(w:oG):Prop:=okV P (Instr.next b a ty) K w
def ent(a:oF)(K:KV)(w:oG):Prop:=okV P (Instr.entry a) K w
def ext(t:oF)(i:Nat)(K:KV)(w:oG):Prop:=okV P (Instr.extract t i) K w
def alc(t:TypeId)(K:KV)(w:oG):Prop:=okV P (Instr.alloc t true (.tuple #[])) K w
def box(t:TypeId)(x:oF)(K:KV)(w:oG):Prop:=okV P (Instr.box t x) K w
def bld(t:TypeId)(a:Array (Nat×oF))(K:KV)(w:oG):Prop:=okV P (Instr.build t a) K w
def bM(t:TypeId)(n:Nat)(a:Array (Nat×oF))(K:KV)(w:oG):Prop:=okV P (Instr.buildSlice t n a) K w
def ld(t:TypeId)(a:oF)(K:KV)(w:oG):Prop:=okV P (Instr.loadAt t a) K w
def sto(t:TypeId)(a x:oF)(K:KV)(w:oG):Prop:=okU P (Instr.storeAt t a x) K w
def aU(x:oF)(K:KV)(w:oG):Prop :=
 match x with
 | .pointer (some a)=>K (.pointer (some a)) w
 | .func (.func f) first cap=>K (.func (.func f) first cap) w
 | _=>False
def fl(t:TypeId)(r:Option oF)(K:KV)(w:oG):Prop:=okV P (Instr.makeMap t r) K w
def mkS(t:TypeId)(l c:oF)(K:KV)(w:oG):Prop:=okV P (Instr.makeSlice t l c) K w
def ifc(t:TypeId)(x:oF)(K:KV)(w:oG):Prop:=okV P (Instr.makeInterface t x) K w
def pick(c x y:oF)(K:KV)(w:oG):Prop:=∃b,c=.bool b/\K (if b then x else y) w
def rdy(g:Nat)(K:KV)(w:oG):Prop:=okU P (Instr.ready g) K w
def wts(g:Nat)(K:KV)(w:oG):Prop:=okV P (Instr.waits g) K w
def cOp(r:Operand->oF)(o:Oper)(K:KV)(w:oG):Prop :=
 match o.op with
 | .move x=>K (r x) w
 | .assign x=>K (r x) w
 | .pick c a b=>pick (r c) (r a) (r b) K w
 | .alloc t=>alc P t K w
 | .box t x=>box P t (r x) K w
 | .build t ps=>bld P t (ps.toList.map λp=>(p.1,r p.2)).toArray K w
 | .buildSlice t n ps=>bM P t n (ps.toList.map λp=>(p.1,r p.2)).toArray K w
 | .load t a=>ld P t (r a) K w
 | .store t a x=>sto P t (r a) (r x) K w
 | .ready g=>rdy P g K w
 | .waits g=>wts P g K w
 | .nilCheck x=>aU (r x) K w
 | .binOp op t x y _=>bin P op t (isC x) (isC y) (r x) (r y) K w
 | .unOp op _ x=>un P op (r x) K w
 | .convert s d x=>conv P s d (r x) K w
 | .makeInterface t x=>ifc P t (r x) K w
 | .makeFunc fn first cap=>K (.func fn (first.toList.map r).toArray (cap.toList.map r).toArray) w
 | .makeMap t rs=>fl P t (rs.map r) K w
 | .makeSlice t l c=>mkS P t (r l) (r c) K w
 | .slice t x lo hi mx=>slc P t (r x) (lo.map r) (hi.map r) (mx.map r) K w
 | .fieldAddr s x f=>ao P s (r x) f K w
 | .field s x f=>fld P s (r x) f K w
 | .indexAddr t x i=>aW P t (r x) (r i) K w
 | .index t x i=>idx P t (r x) (r i) K w
 | .lookup t x i ok=>lkp P t (r x) (r i) ok K w
 | .mapUpdate t m k x=>fk P t (r m) (r k) (r x) K w
 | .insert t m k x=>fk P t (r m) (r k) (r x) K w
 | .mapEntry t m k=>mW P t (r m) (r k) K w
 | .entryStore t m s x=>eSt P t (r m) (r s) (r x) K w
 | .range t x=>rng P t (r x) K w
 | .next it s=>nxt P (r it) s o.type K w
 | .entry it=>ent P (r it) K w
 | .extract t i=>ext P (r t) i K w
 | .call c =>
  match c.callee with
  | .value (.func f)=>call P f (c.args.toList.map r).toArray K w
  | .value x=>bA P (r x) (c.args.toList.map r).toArray K w
  | .builtin b=>blt P b c.argTypes o.type (c.args.toList.map isC).toArray (c.args.toList.map r).toArray K w
  | .invoke _ _=>False
 | _=>False
def asB:oF->Option Bool
 | .bool b=>some b
 | _=>none
def tY(ops:List Oper)(e:Env)(j:Nat):oF:=match (ops[j]?).bind (·.dst)with|some d=>gd e d|none=>undef
def eD(l:List Oper):List Nat:=l.filterMap (·.dst)
def grp:List Oper->List (Option (Nat×Bool)×List Oper)
 | []=>[]
 | o::rest =>
  match grp rest with
  | []=>[(o.guard,[o])]
  | (g,l)::gs=>if o.guard=g then (g,o::l)::gs else (o.guard,[o])::(g,l)::gs
def ke:List Oper->KE->Env->oG->Prop
 | [],K,e,w=>K e w
 | o::r,K,e,w=>cOp P (ev e) o (λv a => ke r K (pt e o.dst v) a) w
def aM(v:oF)(a:Bool)(A B:(oE->oG->Prop)->Prop)(K:oE->oG->Prop):Prop:=(asB v=some a->A K)/\(asB v≠some a->B K)
def zQ(us:oE):List Nat->Nat->Env->Env
 | [],_,e=>e
 | d::ds,k,e=>zQ us ds (k+1) (e.set d (gd us k))
def Di(e:Env)(ds:List Nat)(us:oE):Env:=zQ us ds 0 e
def iy(ops:List Oper):List (Option (Nat×Bool)×List Oper)->KE->Env->oG->Prop
 | [],K=>K
 | (none,l)::gs,K=>ke P l (iy ops gs K)
 | (some (j,want),l)::gs,K=>λe w =>
  @Bool.rec (λ_=>Prop) (aM (tY ops e j) want (λk=>ke P l (λb a => k ((eD l).map (gd b)) a) e w) (λk=>k ((eD l).map λ_=>undef) w) (λc a => iy ops gs K (Di e (eD l) c) a)) False (((ops[j]?).bind (·.dst)).any ((eD l).contains ·))
def sti(s:KV->oG->Prop)(k:KV)(w:oG):Prop:=∃v,s (λa b => a=v/\b=w) w/\k v w
def sOp(e:Env)(o:Oper)(k:KV)(w:oG):Prop :=
 match o.op with
 | .move x=>k (ev e x) w
 | .assign x=>k (ev e x) w
 | _=>sti (λk w=>cOp P (ev e) o k w) k w
def TR:List Oper->KE->Env->oG->Prop
 | [],K,e,w=>K e w
 | o::r,K,e,w=>sOp P e o (λv a => TR r K (pt e o.dst v) a) w
def Es(ops:List Oper):List (Option (Nat×Bool)×List Oper)->KE->Env->oG->Prop
 | [],K=>K
 | (none,l)::gs,K=>TR P l (Es ops gs K)
 | (some (j,want),l)::gs,K=>λe w =>
  @Bool.rec (λ_=>Prop) (aM (tY ops e j) want (λk=>TR P l (λb a => k ((eD l).map (gd b)) a) e w) (λk=>k ((eD l).map λ_=>undef) w) (λc a => Es ops gs K (Di e (eD l) c) a)) False (((ops[j]?).bind (·.dst)).any ((eD l).contains ·))
def yJ(ops:Array Oper):Nat->Nat
 | 0=>ops.size+1
 | n+1=>match Region.lexTailB .any ops n with|true=>n|false=>yJ ops n
def zkq:Op->Bool | .store .. => true|_=>false
def zcG(ops:Array Oper):Nat:=ops.toList.findIdx λo=>zkq o.op
def ju(ops:Array Oper):Nat :=
 match Nat.ble (zcG ops+1) ops.size with
 | true=>yJ ops (zcG ops+1)
 | false=>match Region.lexB .any ops with|true=>ops.size|false=>yJ ops ops.size
def LL(o:Oper):Bool :=
 match o.op with
 | .move _=>true | .assign _=>true | .pick .. => true | .build .. => true | .load .. => true | .nilCheck _=>true | .binOp .. => true | .unOp .. => true | .convert .. => true
 | .makeInterface .. => true | .makeFunc .. => true | .slice .. => true | .fieldAddr .. => true | .field .. => true | .indexAddr .. => true | .index .. => true | .extract .. => true | .lookup .. => true
 | .call c=>match c.callee with | .builtin .len=>true | .builtin .cap=>true|_=>false
 | _=>false
def zcp(o:Oper):Bool :=
 match o.guard with
 | some _=>false
 | none=>match o.op with
  | .move _=>true
  | .binOp .sub _ _ _ _=>true
  | .binOp .add _ _ _ _=>true
  | _=>false
def zkX(o:Oper):Bool :=
 match o.op with
 | .store .. => true | .alloc _=>true | .box .. => true | .buildSlice .. => true | .makeSlice .. => true | .makeMap .. => true | .mapUpdate .. => true | .insert .. => true | .mapEntry .. => true | .entryStore .. => true
 | .call c=>match c.callee with | .builtin .append=>true | .builtin .copy=>true | .builtin .clear=>true | .builtin .delete=>true|_=>false
 | _=>false
def Kk:Nat->Code->Bool
 | 0,_=>false
 | n+1,.region _ ops false=>ops.toList.all λo =>
  match LL o with
  | true=>true
  | false=>match o.op with
   | .call c=>match c.callee with
    | .value (.func f)=>match P.funcs[f]? with
     | some fn=>match fn.body with|some b=>Kk n b|none=>false
     | none=>false
    | .builtin .max=>true
    | .builtin .min=>true
    | _=>false
   | _=>false
 | n+1,.seq a b=>match Kk n a with|true=>Kk n b|false=>false
 | n+1,.cond _ a b=>match Kk n a with|true=>Kk n b|false=>false
 | n+1,.block _ c=>Kk n c
 | n+1,.loop c=>Kk n c
 | _+1,.skip=>true
 | _+1,.exit _=>true
 | _+1,.ret=>true
 | _+1,_=>false
def zkr(o:Oper):Bool :=
 match zkX o with
 | true=>true
 | false=>match o.op with
  | .call c=>match c.callee with
   | .value (.func f)=>match P.funcs[f]? with
    | some fn=>match fn.body with|some b=>(match Kk P 60 b with|true=>false|false=>true)|none=>true
    | none=>true
   | .value _=>true
   | .invoke _ _=>true
   | _=>false
  | _=>false
def QS(ops:Array Oper):Bool :=
 Region.noSelect ops&&(match ops.toList.all (λo=>match o.guard with|none=>true|some _=>false)with
  | true=>(ops.toList.take (Nat.min (ju ops) ops.size)).any (λo=>match LL o with|true=>false|false=>true)
  | false=>(ops.toList.take (Nat.min (ju ops) ops.size)).any (zkr P))
def hld(S:oG->Prop)(s:KV->oG->Prop)(k:oF->Prop):Prop:=∃v,(∀w,S w->s (λa b => a=v/\b=w) w)/\k v
def hOp(S:oG->Prop)(e:Env)(o:Oper)(k:oF->Prop):Prop :=
 match o.op with
 | .move x=>k (ev e x)
 | .assign x=>k (ev e x)
 | .makeFunc fn first cap=>k (.func fn (first.toList.map (ev e)).toArray (cap.toList.map (ev e)).toArray)
 | _=>hld S (λk w=>cOp P (ev e) o k w) k
def hG(v:oF)(a:Bool)(S:oG->Prop)(s:KV->oG->Prop)(k:oF->Prop):Prop:=∃x,(asB v=some a->∀w,S w->s (λb c => b=x/\c=w) w)/\(asB v≠some a->x=undef)/\k x
def xG(v:oF)(a:Bool)(s:KV->oG->Prop)(K:KV)(w:oG):Prop:=(asB v=some a->s K w)/\(asB v≠some a->K undef w)
def zeY(ops:Array Oper)(S:oG->Prop)(e:Env)(o:Oper)(k:oF->Prop):Prop :=
 match o.guard with
 | none=>hOp P S e o k
 | some (j,want)=>hG (tY ops.toList e j) want S (λk w=>cOp P (ev e) o k w) k
def zeB(ops:Array Oper)(e:Env)(o:Oper)(K:KV)(w:oG):Prop :=
 match o.guard with
 | none=>cOp P (ev e) o K w
 | some (j,want)=>xG (tY ops.toList e j) want (λk w=>cOp P (ev e) o k w) K w
def Na:List Nat->(Nat->Prop)->Prop
 | [],_=>True
 | i::r,f=>match r with | []=>f i|_::_=>f i/\Na r f
def hAt(ops:Array Oper)(i:Nat)(f:Oper->Prop):Prop:=match ops[i]? with|some o=>f o|none=>False
def UR(ops:Array Oper)(a:Array Bool)(i:Nat):Bool:=(match ops[i]? with|some o=>LL o|none=>false)&&Region.free .any ops a i
def aF(b:(oG->Prop)->oG->Prop)(w:oG):Prop:=∃S,S w/\b S w
def aX(S:oG->Prop)(b:(oG->Prop)->oG->Prop)(w:oG):Prop:=∃S',(∀x,S' x->S x)/\S' w/\b S' w
def aB{S:oG->Prop}{b:(oG->Prop)->oG->Prop}{w:oG}(a:S w)(h:b S w):aX S b w:=⟨S,λ_ h=>h,a,h⟩
def Wz(k:Nat):List Nat->Bool
 | []=>false
 | i::r=>Nat.beq k i || Wz k r
def Wr(ops:Array Oper)(j:Nat):List Nat:=match ops[j]? with|some o=>(o.after.toList.filter λe=>Region.binds .any e).map (·.on)|none=>[]
def Wq(ops:Array Oper):Nat->List Nat->List Nat->List Nat
 | 0,_,seen=>seen
 | _+1,[],seen=>seen
 | f+1,j::todo,seen=>match Wz j seen with|true=>Wq ops f todo seen|false=>Wq ops f (Wr ops j++todo) (j::seen)
def tN(ops:Array Oper)(a:List Nat)(i:Nat):List Nat:=a.filter λk=>match Wz k (Wq ops 1000 (Wr ops i) [])with|true=>false|false=>true
def QP(ops:Array Oper)(K:KE):Nat->Array Bool->List Nat->(oG->Prop)->Env->oG->Prop
  | 0,listed,_,_,e,w=>@Bool.rec (λ_=>Prop) False (K e w) (Region.ready .any ops listed).isEmpty
  | f+1,listed,pend,S,e,w =>
    @Bool.rec (λ_=>Prop)
      (match (Region.ready .any ops listed).find? (UR ops listed)with
       | some i=>hAt ops i λo =>
         match zcp o with
         | true=>hOp P (λ_=>True) e o λv=>QP ops K f (listed.setIfInBounds i true) pend S (pt e o.dst v) w
         | false=>zeY P ops S e o λv=>QP ops K f (listed.setIfInBounds i true) (i::pend) S (pt e o.dst v) w
       | none=>Na (Region.ready .any ops listed) λi=>hAt ops i λo=>zeB P ops e o (λv a =>
           match tN ops pend i with
           | [] =>
             match (Region.ready .any ops (listed.setIfInBounds i true)).isEmpty with
             | true=>QP ops K f (listed.setIfInBounds i true) [] S (pt e o.dst v) a
             | false=>aF (λS w=>QP ops K f (listed.setIfInBounds i true) [] S (pt e o.dst v) w) a
           | p::ps=>aX S (λS w=>QP ops K f (listed.setIfInBounds i true) (p::ps) S (pt e o.dst v) w) a) w)
      (K e w) (Region.ready .any ops listed).isEmpty

def cond(v:oF)(p q:Prop):Prop:=∃b,v=.bool b/\(b=true->p)/\(b=false->q)
def zgk(a:KE->Env->oG->Prop)(e:Env)(w:oG):Prop :=
 ∃(I:KE) (f:Env->oG->Nat),I e w/\∀b w',I b w'->a (λc d=>I c d/\f c d<f b w') b w'
def ai:Code->KE->(Nat->KE)->KE->Env->oG->Prop
 | .skip,N,_,_=>N
 | .region _ ops false,N,_,_=>iy P ops.toList (grp ops.toList) N
 | .region _ ops true,N,_,_=>λe w =>
  @Bool.rec (λ_=>Prop)
   (@Bool.rec (λ_=>Prop) False
    (Es P ops.toList (grp (ops.toList.take (ju ops))) (iy P ops.toList (grp (ops.toList.drop (ju ops))) N) e w.drew)
    (P.follows .mixedOrders&&Nat.ble (ju ops) ops.size))
   (aF (λS w=>QP P ops N ops.size (Array.replicate ops.size false) [] S e w) w.drew)
   (P.follows .mixedOrders&&QS P ops)
 | .seq a b,N,X,R=>ai a (ai b N X R) X R
 | .cond c x y,N,X,R=>λe w=>cond (ev e c) (ai x N X R e w) (ai y N X R e w)
 | .block id c,N,X,R=>ai c N (λi=>@Bool.rec (λ_=>KE) (X i) N (Nat.beq i id)) R
 | .loop c,_,X,R=>zgk λN' => ai c N' X R
 | .exit i,_,X,_=>X i
 | .ret,_,_,R=>R
 | _,_,_,_=>λ_ _=>False
end ops
section sound
variable {P:Program}{ds:List Deferred}
def Ii(e:Env)(t:Nat):e.toArray.getD t undef=gd e t:=by simp[gd,Array.getD,List.getD];split<;>simp_all
def vg(e:Env)(ds:List Deferred)(x:Operand):Act.eval ⟨e.toArray,ds⟩ x=ev e x:=by
 cases x with
 | tmp t=>exact Ii e t
 | _=>rfl
def zO(e:Env)(ds:List Deferred)(d:Option Tmp)(v:oF):Act.put ⟨e.toArray,ds⟩ d v=⟨(pt e d v).toArray,ds⟩:=by cases d<;>simp[Act.put,pt]
def QQ(ds:List Deferred)(N:KE)(X:Nat->KE)(R:KE):Exit->Act->oG->Prop
 | .normal,a,w=>∃e:Env,a=⟨e.toArray,ds⟩/\N e w
 | .exit i,a,w=>∃e:Env,a=⟨e.toArray,ds⟩/\X i e w
 | .ret,a,w=>∃e:Env,a=⟨e.toArray,ds⟩/\R e w
 | _,_,_=>False
def XK(s:Sem oF)(w:oG):(do pure (.value (<-s)):Sem Next).run P w=(s.run P w).andThen λv w' => .ok (.value v) w':=by simp[jY,jX]
def QI(P:Program)(o:Oper)(a:Act)(K:KV)(w:oG):Prop :=
 (∃v b,(execOp a.eval o).run P w=.ok (.value v) b/\K v b)\/(∃b,(execOp a.eval o).run P w=.ok .skip b/\K undef b) \/
 (∃f args,(execOp a.eval o).run P w=.ok (.enter f args) w/\Gives P f args w K)
def kL{o:Oper}{a:Act}{w:oG}{K:KV}(s:Sem oF)(c:execOp a.eval o=(do pure (.value (<-s)):Sem Next))(h:okV P s K w):QI P o a K w:=by
 unfold okV at h;split at h
 .rename_i v d b;exact .inl ⟨v,d,by rw[c,XK,b];rfl,h⟩
 .exact h.elim
def Pa{o:Oper}{a:Act}{w:oG}{K:KV}(s:Sem Unit)(c:execOp a.eval o=(do s;pure .skip:Sem Next))(h:okU P s K w):QI P o a K w:=by
 unfold okU at h;split at h
 .rename_i u d b;exact .inr (.inl ⟨d,by rw[c];simp only[jY,b,Result.andThen,jX],h⟩)
 .exact h.elim
theorem Qm {f:FuncId} (j:KO P f) (a:Array Value) (w:World):(callFunc f a).run P w=.ok (.enter f a) w:=by
 obtain ⟨d,g,h,i⟩:=j;have b : ¬ d.name = "runtime.NumGoroutine" := by simpa using h
 cases e:d.body with
 | none=>simp [e] at i
 | some c=>simp [callFunc,g,b,e]
def zaY{o:Oper}{a:Act}{w:oG}{K:KV}(f:FuncId)(b:Array oF)(c:(execOp a.eval o).run P w=(callFunc f b).run P w)(h:call P f b K w):QI P o a K w :=
 .inr (.inr ⟨f,b,by rw[c,Qm h.1],h.2⟩)
def Tv(e:Env)(a:Array (Nat×Operand)):(a.map λ(i,x)=>(i,ev e x))=(a.toList.map λp=>(p.1,ev e p.2)).toArray:=by rw[<-Array.toList_map]
def Xs{o:Oper}{e:Env}{w:oG}{K:KV}(h:cOp P (ev e) o K w):QI P o ⟨e.toArray,ds⟩ K w:=by
 have j:Act.eval ⟨e.toArray,ds⟩=ev e:=funext (vg e ds);obtain⟨dst,op,z,pos,after,guard⟩:=o;cases op<;>simp only[cOp]at h
 case move x=>exact .inl ⟨_,w,by rw[j];rfl,h⟩
 case assign x=>exact .inl ⟨_,w,by rw[j];rfl,h⟩
 case pick c x y =>
  obtain⟨b,F,H⟩:=h;exact .inl ⟨_,w,by unfold execOp;simp only[j,F,asBool,jY,jX,Result.andThen],H⟩
 case alloc t=>exact kL _ rfl h
 case box t x=>exact kL (Instr.box t (ev e x)) (by rw[j];rfl) h
 case build t ps=>exact kL (Instr.build t (ps.toList.map λp:Nat×Operand=>(p.1,ev e p.2)).toArray) (by rw[j];exact qH (λl=>(do pure (.value (<-Instr.build t l)):Sem Next)) (Tv e ps)) h
 case buildSlice t n ps=>exact kL (Instr.buildSlice t n (ps.toList.map λp:Nat×Operand=>(p.1,ev e p.2)).toArray) (by rw[j];exact qH (λl=>(do pure (.value (<-Instr.buildSlice t n l)):Sem Next)) (Tv e ps)) h
 case load t x=>exact kL (Instr.loadAt t (ev e x)) (by rw[j];rfl) h
 case store t x y=>exact Pa (Instr.storeAt t (ev e x) (ev e y)) (by rw[j];rfl) h
 case ready g=>exact Pa _ rfl h
 case waits g=>exact kL _ rfl h
 case nilCheck x =>
  unfold aU at h;split at h
  .rename_i a B;exact .inl ⟨_,w,by unfold execOp;simp only[j,B];rfl,h⟩
  .rename_i f first q B;exact .inl ⟨_,w,by unfold execOp;simp only[j,B];rfl,h⟩
  .exact h.elim
 case binOp op t x y yt=>exact kL (do eqG op t (isC x) (isC y) (ev e x) (ev e y);binOp op t (ev e x) (ev e y)) (by rw[j, <-zd8];rfl) h
 case unOp op t x=>exact kL (Op.unary op (ev e x)) (by rw[j];rfl) h
 case convert s d x=>exact kL (Go.convert s d (ev e x)) (by rw[j];rfl) h
 case makeInterface t x=>exact kL (Instr.makeInterface t (ev e x)) (by rw[j];rfl) h
 case makeFunc fn first q =>
  have D:first.map (ev e)=(first.toList.map (ev e)).toArray:=by rw[<-Array.toList_map]
  have E:q.map (ev e)=(q.toList.map (ev e)).toArray:=by rw[<-Array.toList_map]
  exact .inl ⟨_,w,by unfold execOp;simp only[j,Instr.makeFunc,jY,jX,Result.andThen];rw[D,E],h⟩
 case makeMap t r=>exact kL (Instr.makeMap t (r.map (ev e))) (by rw[j];rfl) h
 case makeSlice t l c=>exact kL (Instr.makeSlice t (ev e l) (ev e c)) (by rw[j];rfl) h
 case slice t x lo hi mx=>exact kL (Instr.sliceAt t (ev e x) (lo.map (ev e)) (hi.map (ev e)) (mx.map (ev e))) (by rw[j];rfl) h
 case fieldAddr s x f=>exact kL (Instr.fieldAt s (ev e x) f) (by rw[j];rfl) h
 case field s x f=>exact kL (Instr.field s (ev e x) f) (by rw[j];rfl) h
 case indexAddr t x i=>exact kL (Instr.indexAt t (ev e x) (ev e i)) (by rw[j];rfl) h
 case index t x i=>exact kL (Instr.index t (ev e x) (ev e i)) (by rw[j];rfl) h
 case lookup t x i ok=>exact kL (Instr.lookup t (ev e x) (ev e i) ok) (by rw[j];rfl) h
 case mapUpdate t m k x=>exact Pa (Instr.mapUpdate t (ev e m) (ev e k) (ev e x)) (by rw[j];rfl) h
 case insert t m k x=>exact Pa (Instr.mapUpdate t (ev e m) (ev e k) (ev e x)) (by rw[j];rfl) h
 case mapEntry t m k=>exact kL (Instr.mapEntry t (ev e m) (ev e k)) (by rw[j];rfl) h
 case entryStore t m s x=>exact Pa (Instr.entryStore t (ev e m) (ev e s) (ev e x)) (by rw[j];rfl) h
 case range t x=>exact kL (Instr.range t (ev e x)) (by rw[j];rfl) h
 case next it s=>exact kL (Instr.next (ev e it) s z) (by rw[j];rfl) h
 case entry it=>exact kL (Instr.entry (ev e it)) (by rw[j];rfl) h
 case extract t i=>exact kL (Instr.extract (ev e t) i) (by rw[j];rfl) h
 case call c =>
  obtain⟨callee,args,u⟩:=c;have A:args.map (ev e)=(args.toList.map (ev e)).toArray:=by rw[<-Array.toList_map]
  cases callee with
  | invoke r m=>exact h.elim
  | builtin b =>
   have J:execOp (Act.eval ⟨e.toArray,ds⟩) {dst,op:=.call {callee:=.builtin b,args,argTypes:=u},type:=z,pos,after,guard} = builtin b u z (args.map isC) (args.map (ev e)):=by rw[j];rfl
   have C:args.map isC=(args.toList.map isC).toArray:=by rw[<-Array.toList_map]
   have h:blt P b u z (args.toList.map isC).toArray (args.toList.map (ev e)).toArray K w:=h;unfold blt at h;split at h
   .rename_i v L I;exact .inl ⟨v,L,by rw[J,C,A];exact I,h⟩
   .exact h.elim
  | value f =>
   cases f with
   | func f =>
    refine zaY f (args.toList.map (ev e)).toArray ?_ h;simp only[execOp,resolve,Deferred.ofValue,invoke,jY,jX,jW,j,A];simp[ev]
   | _ =>
    obtain⟨f,first,q,G,C⟩:=h;refine zaY f _ ?_ C;simp only[execOp,resolve,Deferred.ofValue,invoke,jY,jX,jW,j,A,G]
 all_goals exact h.elim
def EG{o:Oper}{e:Env}{w:oG}{K:KV}{next:Act->oG->Prop}{Q:Exit->Act->oG->Prop}(h:cOp P (ev e) o K w)(i:∀v w',K v w'->next ⟨(pt e o.dst v).toArray,ds⟩ w'):o.wp P ⟨e.toArray,ds⟩ w next Q:=by
 have a:∀v w',K v w'->next (Act.put ⟨e.toArray,ds⟩ o.dst v) w':=λv w' d=>by rw[zO];exact i v w' d
 unfold Oper.wp;rcases Xs h with⟨v,w',c,b⟩|⟨w',c,b⟩|⟨f,g,c,b⟩
 .rw[c];exact a _ _ b
 .rw[c];exact a _ _ b
 .rw[c];refine Calls.mono b ?_;rintro e w' ⟨v,rfl,d⟩;exact a _ _ d
def zv(ops:List Oper)(e:Env)(o:Oper)(j:Nat)(a:Bool)(b:o.guard=some (j,a)):Region.wanted o (yielded ops.toArray e.toArray)=(asB (tY ops e j)==some a):=by
 simp only[Region.wanted,b]
 have:yielded ops.toArray e.toArray j=asB (tY ops e j):=by
  unfold yielded tY;simp only[List.getElem?_toArray];cases h:(ops[j]?).bind (·.dst)with
  | none=>simp[undef,asB]
  | some d =>
   simp only[Option.bind_some,List.getElem?_toArray,gd,List.getD];cases c:e[d]? with
   | none=>simp[undef,asB]
   | some v=>cases v<;>simp[asB]
 rw[this]
def QL{ops:List Oper}{e:Env}{j:Nat}{d:Option Tmp}{v:oF}(h:((ops[j]?).bind (·.dst)).any (d.toList.contains ·)=false):tY ops (pt e d v) j=tY ops e j:=by
 unfold tY;cases c:(ops[j]?).bind (·.dst)with
 | none=>rfl
 | some dj =>
  cases d with
  | none=>rfl
  | some d =>
   have a:dj≠d:=by
    intro b;subst b;simp[c]at h
   have:d≠dj:=λe=>a e.symm
   simp[pt,gd,List.getD,jB this]
def Mx{ops:List Oper}{j:Nat}{o:Oper}{l:List Oper}(h:((ops[j]?).bind (·.dst)).any ((eD (o::l)).contains ·)=false):((ops[j]?).bind (·.dst)).any (o.dst.toList.contains ·)=false/\((ops[j]?).bind (·.dst)).any ((eD l).contains ·)=false:=by
 cases b:(ops[j]?).bind (·.dst)with
 | none=>simp
 | some d =>
  rw[b]at h;unfold eD at *;rw[List.filterMap_cons]at h;cases a:o.dst with
  | none=>rw[a]at h;simpa using h
  | some d' => rw[a]at h;simpa using h
def ze5{ops:List Oper}{K:KE}{Q:Exit->Act->oG->Prop}{rest:List Oper}(d:∀e w,K e w->wpList P ops.toArray Q rest ⟨e.toArray,ds⟩ w):∀(l:List Oper) (e:Env) (w:oG),(∀o∈l,o.guard=none)->ke P l K e w->wpList P ops.toArray Q (l++rest) ⟨e.toArray,ds⟩ w:=by
 intro l
 induction l with
 | nil=>intro e w _ h;exact d e w h
 | cons o l ih =>
  intro e w c h;refine wpList_step λKK a=>?_;rw[oJ (by simp[Region.wanted,c o (oL ..)])];exact EG h λv i f=>a _ _ (ih _ _ (λg b => c g (oH _ b)) f)
def zcD{ops:List Oper}{K:KE}{Q:Exit->Act->oG->Prop}{rest:List Oper}{j:Nat}{a:Bool}(n:∀e w,K e w->wpList P ops.toArray Q rest ⟨e.toArray,ds⟩ w):∀(l:List Oper) (e:Env) (w:oG),(∀o∈l,o.guard=some (j,a))->((ops[j]?).bind (·.dst)).any ((eD l).contains ·)=false->asB (tY ops e j)=some a->ke P l K e w ->
   wpList P ops.toArray Q (l++rest) ⟨e.toArray,ds⟩ w:=by
 intro l
 induction l with
 | nil=>intro e w _ _ _ h;exact n e w h
 | cons o l ih =>
  intro e w i p k h;obtain⟨c,d⟩:=Mx p;refine wpList_step λKK b=>?_;have m:=zv ops e o j a (i o (oL ..));dsimp only at m |-;rw[m,oJ (by simp[k])];exact EG h λv r g => b _ _ (ih _ _ (λq f => i q (oH _ f)) d (by rw[QL c];exact k) g)
def Sh(us:oE)(b:∀i,gd us i=undef):∀(ds:List Nat) (k k':Nat) (e:Env) (a:oE),(∀i,gd a i=undef)->zQ us ds k e=zQ a ds k' e:=by
 intro ds
 induction ds with
 | nil=>intro k k' e a _;rfl
 | cons d ds ih=>intro k k' e a h;simp only[zQ,b,h];exact ih _ _ _ _ h
def Xu(ds:List Nat)(i:Nat):gd (ds.map λ_=>undef) i=undef:=by simp only[gd,List.getD,qC];cases ds[i]? <;> rfl
def zaN{ops:List Oper}{Q:Exit->Act->oG->Prop}{rest:List Oper}{j:Nat}{a:Bool}:∀(l:List Oper) (e:Env) (w:oG),(∀o∈l,o.guard=some (j,a))->((ops[j]?).bind (·.dst)).any ((eD l).contains ·)=false->asB (tY ops e j)≠some a ->
   wpList P ops.toArray Q rest ⟨(Di e (eD l) ((eD l).map λ_=>undef)).toArray,ds⟩ w->wpList P ops.toArray Q (l++rest) ⟨e.toArray,ds⟩ w:=by
 intro l
 induction l with
 | nil=>intro e w _ _ _ h;exact h
 | cons o l ih =>
  intro e w k p m h;obtain⟨c,f⟩:=Mx p;refine wpList_step λKK b=>?_;have n:=zv ops e o j a (k o (oL ..));dsimp only at n |-;rw[n,oI (by simpa using m),zO];refine b _ _ (ih _ _ (λr g => k r (oH _ g)) f (by rw[QL c];exact m) ?_)
  have q:Di e (eD (o::l)) ((eD (o::l)).map λ_=>undef)=Di (pt e o.dst undef) (eD l) ((eD l).map λ_=>undef):=by
   have i:=λds=>Xu ds;unfold eD;rw[List.filterMap_cons];cases o.dst with
   | none=>rfl
   | some d =>
    simp only[Di,zQ,i,pt];exact Sh _ (i _) _ _ _ _ _ (i _)
  rw[<-q];exact h
def ze6(us:oE):∀(ds:List Nat) (k:Nat) (e:Env) (i:Nat),i∉ds->(zQ us ds k e)[i]? = e[i]? := by
 intro ds
 induction ds with
 | nil=>intro k e i _;rfl
 | cons d ds ih =>
  intro k e i a;simp only[oO,not_or]at a;simp only[zQ];rw[ih _ _ _ a.2,jB (λh=>a.1 h.symm)]
def zcE(us:oE)(e':Env):∀(ds:List Nat) (k:Nat) (e:Env),(∀i d,ds[i]? = some d->gd us (k+i)=gd e' d)->e'.length=e.length->(∀i,i∉ds->e'[i]? = e[i]?)->zQ us ds k e=e':=by
 intro ds
 induction ds with
 | nil=>intro k e _ f h;exact(List.ext_getElem? λi=>h i oB).symm
 | cons d ds ih =>
  intro k e g f h;simp only[zQ];refine ih (k+1) _ (λi j l=>by rw[show k+1+i=k+(i+1)by omega];exact g (i+1) j (by simpa using l)) (by simp[f]) ?_;have c:=g 0 d oB;rw[qW]at c;intro i m;by_cases a:i=d
  .subst a;by_cases b:i<e.length
   .rw[jC b,c]
    have:i<e'.length:=by omega
    simp[gd,List.getD,this]
   .rw[jD (show e'.length<=i by omega),jD (by simp;omega)]
  .rw[jB (λh=>a h.symm)];exact h i (by simp[a,m])
def ze7(ds:List Nat)(e e':Env)(b:e'.length=e.length)(h:∀i,i∉ds->e'[i]? = e[i]?):Di e ds (ds.map (gd e'))=e':=by refine zcE _ e' ds 0 e (λi d a=>?_) b h;rw[oK];simp[gd,List.getD,qC,a]
def wU:∀(l:List Oper),((grp l).flatMap (·.2))=l/\∀g∈grp l,∀o∈g.2,o.guard=g.1:=by
 intro l
 induction l with
 | nil=>simp[grp]
 | cons o l ih =>
  obtain⟨c,d⟩:=ih;unfold grp;split
  .rename_i f;rw[f]at c;simp at c;subst c;simp
  .rename_i g h j f;rw[f]at c d;split
   .rename_i i;refine⟨by simpa using c,?_⟩;intro x b e a;simp only[oO]at b;rcases b with rfl|b
    .simp only[oO]at a;rcases a with rfl|a
     .exact i
     .exact d (g,h) oB e a
    .exact d x (by simp[b]) e a
   .refine⟨by simpa using c,?_⟩;intro x b e a;simp only[oO]at b;rcases b with rfl|rfl|b
    .simp only[List.mem_singleton]at a;rw[a]
    .exact d (g,h) oB e a
    .exact d x (by simp[b]) e a
def agree(ws:List Nat)(e a:Env):Prop:=a.length=e.length/\∀i,i∉ws->gd a i=gd e i
def agree.refl(ws:List Nat)(e:Env):agree ws e e:=⟨rfl,λ_ _=>rfl⟩
def agree.trans{ws d:List Nat}{a b c:Env}(h:agree ws a b)(k:agree d b c):agree (ws++d) a c :=
 ⟨k.1.trans h.1,λi e=>by
  simp only[oU,not_or]at e;rw[k.2 i e.2,h.2 i e.1]⟩
def agree.mono{ws c:List Nat}{a b:Env}(h:agree ws a b)(f:∀i∈ws,i∈c):agree c a b:=⟨h.1,λi e=>h.2 i λd=>e (f i d)⟩
def Mw(e:Env)(d:Option Tmp)(v:oF):agree d.toList e (pt e d v):=by
 cases d with
 | none=>exact agree.refl _ _
 | some d =>
  refine⟨by simp[pt],λi a=>?_⟩
  have:d≠i:=by simpa[eq_comm]using a
  simp[pt,gd,List.getD,jB this]
def OW{f:FuncId}{a:Array oF}{K K':KV}{w:oG}(b:∀v w',K v w'->K' v w')(h:call P f a K w):call P f a K' w:=⟨h.1,h.2.mono b⟩
def HG{r:Operand->oF}{o:Oper}{K K':KV}{w:oG}(a:∀v w',K v w'->K' v w')(h:cOp P r o K w):cOp P r o K' w:=by
 unfold cOp at *;split at h<;>first
  | exact a _ _ h
  | exact zfz a h
  | exact zfy a h
  | exact h.elim
  | skip
 .obtain⟨b,d,h⟩:=h;exact⟨b,d,a _ _ h⟩
 .unfold aU at *;split at h
  .exact a _ _ h
  .exact a _ _ h
  .exact h.elim
 .split at h
  .exact OW a h
  .obtain⟨f,first,c,g,e⟩:=h;exact⟨f,first,c,g,OW a e⟩
  .unfold blt at *;split at h
   .exact a _ _ h
   .exact h.elim
  .exact h.elim
def MA:∀(l:List Oper) {K K':KE} {e:Env} {w:oG},ke P l K e w->(∀b w2,agree (eD l) e b->K b w2->K' b w2)->ke P l K' e w:=by
 intro l
 induction l with
 | nil=>intro K K' e w h f;exact f _ _ (agree.refl _ _) h
 | cons o rest ih =>
  intro K K' e w h f;exact HG (λv k h=>ih h λb h j g=>f b h (((Mw e o.dst v).trans j).mono (by
   intro i a;simp only[oU]at a;unfold eD;rw[List.filterMap_cons];rcases a with a|a
   .cases c:o.dst with
    | none=>simp[c]at a
    | some d=>simp[c]at a;simp[a]
   .cases c:o.dst with
    | none=>exact a
    | some d=>exact oH _ a)) g) h
def Uh{ds:List Nat}{e e':Env}(h:agree ds e e'):Di e ds (ds.map (gd e'))=e':=by
 refine ze7 ds e e' h.1 λi d=>?_;have c:=h.2 i d;by_cases a:i<e.length
 .have b:i<e'.length:=by rw[h.1];exact a
  simp only[gd,List.getD,gE a,gE b,Option.getD_some]at c |-;rw[c]
 .simp[jD (Nat.le_of_not_lt a),jD (show e'.length<=i by rw[h.1];omega)]
def Gr{ops:List Oper}{K:KE}{Q:Exit->Act->oG->Prop}(q:∀e w,K e w->Q .normal ⟨e.toArray,ds⟩ w):∀(a:List (Option (Nat×Bool)×List Oper)) (e:Env) (w:oG),(∀g∈a,∀o∈g.2,o.guard=g.1)->iy P ops a K e w->wpList P ops.toArray Q (a.flatMap (·.2)) ⟨e.toArray,ds⟩ w:=by
 intro a
 induction a with
 | nil=>intro e w _ h;exact q e w h
 | cons g a ih =>
  intro e w n h;obtain⟨c,l⟩:=g;have b:∀g∈a,∀o∈g.2,o.guard=g.1:=λg s=>n g (oH _ s);have m:=n (c,l) (oL ..);rw[jI];cases c with
  | none=>exact ze5 (λe w h=>ih e w b h) l e w m h
  | some jw =>
   obtain⟨j,d⟩:=jw;simp only[iy]at h;cases f:((ops[j]?).bind (·.dst)).any ((eD l).contains ·)
   case true=>rw[f]at h;exact h.elim
   case false =>
    rw[f]at h;have h:aM _ _ _ _ _:=h;by_cases i:asB (tY ops e j)=some d
    .refine zcD (K:=λp t => iy P ops a K p t) (λe w h=>ih e w b h) l e w m f i <|MA l (h.1 i) ?_;intro u v r k;dsimp only at k;rw[Uh r]at k;exact k
    .exact zaN l e w m f i (ih _ w b (h.2 i))
def zcF{o:Oper}{e:Env}{w:oG}{k:KV}(h:sOp P e o k w):sti (λk w=>cOp P (ev e) o k w) k w:=by
 unfold sOp at h;split at h
 .rename_i x a;exact⟨_,by unfold cOp;simp only[a];exact⟨(by first|trivial|rfl),(by first|trivial|rfl)⟩,h⟩
 .rename_i x a;exact⟨_,by unfold cOp;simp only[a];exact⟨(by first|trivial|rfl),(by first|trivial|rfl)⟩,h⟩
 .exact h
def zfO{o:Oper}{e:Env}{w:oG}{k k':KV}(a:∀v,k v w->k' v w)(h:sOp P e o k w):sOp P e o k' w:=by
 unfold sOp at *;split at h
 .exact a _ h
 .exact a _ h
 .obtain⟨v,b,h⟩:=h;exact⟨v,b,a _ h⟩
def zaf{o:Oper}{e:Env}{w:oG}{k:KV}{next:Act->Prop}(h:sOp P e o k w)(g:∀v,k v w->next ⟨(pt e o.dst v).toArray,ds⟩):o.still P ⟨e.toArray,ds⟩ w next:=by
 obtain⟨v,n,d⟩:=zcF h;have a:∀b,Act.put ⟨e.toArray,ds⟩ o.dst b=⟨(pt e o.dst b).toArray,ds⟩:=λb => zO e ds o.dst b;unfold Oper.still;rcases Xs n with⟨b,l,c,rfl,rfl⟩|⟨l,c,i,rfl⟩|⟨f,j,c,m⟩
 .rw[c];exact⟨rfl,by rw[a];exact g _ d⟩
 .rw[c];exact⟨rfl,by rw[a,i];exact g _ d⟩
 .rw[c];exact⟨rfl,v,Calls.mono m (by rintro p l ⟨b,rfl,rfl,rfl⟩;exact⟨rfl,rfl⟩),by rw[a];exact g _ d⟩
def zcC{ops:List Oper}{K:KE}{Q:Act->Prop}{w:oG}{rest:List Oper}(c:∀e,K e w->wpStill P ops.toArray w Q rest ⟨e.toArray,ds⟩):∀(l:List Oper) (e:Env),(∀o∈l,o.guard=none)->TR P l K e w->wpStill P ops.toArray w Q (l++rest) ⟨e.toArray,ds⟩:=by
 intro l
 induction l with
 | nil=>intro e _ h;exact c e h
 | cons o l ih =>
  intro e b h;simp only[jF,wpStill];rw[oJ (by simp[Region.wanted,b o (oL ..)])];exact zaf h λv d=>ih _ (λf a => b f (oH _ a)) d
def zaK{ops:List Oper}{K:KE}{Q:Act->Prop}{w:oG}{rest:List Oper}{j:Nat}{a:Bool}(k:∀e,K e w->wpStill P ops.toArray w Q rest ⟨e.toArray,ds⟩):∀(l:List Oper) (e:Env),(∀o∈l,o.guard=some (j,a))->((ops[j]?).bind (·.dst)).any ((eD l).contains ·)=false->asB (tY ops e j)=some a->TR P l K e w ->
   wpStill P ops.toArray w Q (l++rest) ⟨e.toArray,ds⟩:=by
 intro l
 induction l with
 | nil=>intro e _ _ _ h;exact k e h
 | cons o l ih =>
  intro e g m i h;obtain⟨b,c⟩:=Mx m;have n:=zv ops e o j a (g o (oL ..));simp only[jF,wpStill];rw[n,oJ (by simp[i])];exact zaf h λv f => ih _ (λp d => g p (oH _ d)) c (by rw[QL b];exact i) f
def zaL{ops:List Oper}{Q:Act->Prop}{w:oG}{rest:List Oper}{j:Nat}{a:Bool}:∀(l:List Oper) (e:Env),(∀o∈l,o.guard=some (j,a))->((ops[j]?).bind (·.dst)).any ((eD l).contains ·)=false->asB (tY ops e j)≠some a ->
   wpStill P ops.toArray w Q rest ⟨(Di e (eD l) ((eD l).map λ_=>undef)).toArray,ds⟩->wpStill P ops.toArray w Q (l++rest) ⟨e.toArray,ds⟩:=by
 intro l
 induction l with
 | nil=>intro e _ _ _ h;exact h
 | cons o l ih =>
  intro e i m k h;obtain⟨b,c⟩:=Mx m;have p:=zv ops e o j a (i o (oL ..));simp only[jF,wpStill];rw[p,oI (by simpa using k),zO];refine ih _ (λq f => i q (oH _ f)) c (by rw[QL b];exact k) ?_;have n:Di e (eD (o::l)) ((eD (o::l)).map λ_=>undef)=Di (pt e o.dst undef) (eD l) ((eD l).map λ_=>undef):=by
   have g:=λds=>Xu ds;unfold eD;rw[List.filterMap_cons];cases o.dst with
   | none=>rfl
   | some d =>
    simp only[Di,zQ,g,pt];exact Sh _ (g _) _ _ _ _ _ (g _)
  rw[<-n];exact h
def NK:∀(l:List Oper) {K K':KE} {e:Env} {w:oG},TR P l K e w->(∀b,agree (eD l) e b->K b w->K' b w)->TR P l K' e w:=by
 intro l
 induction l with
 | nil=>intro K K' e w h f;exact f _ (agree.refl _ _) h
 | cons o rest ih =>
  intro K K' e w h f;refine zfO (λv h=>ih h λb j g=>f b (((Mw e o.dst v).trans j).mono ?_) g) h;intro i a;simp only[oU]at a;unfold eD;rw[List.filterMap_cons];rcases a with a|a
  .cases c:o.dst with
   | none=>simp[c]at a
   | some d=>simp[c]at a;simp[a]
  .cases c:o.dst with
   | none=>exact a
   | some d=>exact oH _ a
def Hl{ops:List Oper}{K:KE}{Q:Act->Prop}{w:oG}(q:∀e,K e w->Q ⟨e.toArray,ds⟩):∀(a:List (Option (Nat×Bool)×List Oper)) (e:Env),(∀g∈a,∀o∈g.2,o.guard=g.1)->Es P ops a K e w->wpStill P ops.toArray w Q (a.flatMap (·.2)) ⟨e.toArray,ds⟩:=by
 intro a
 induction a with
 | nil=>intro e _ h;exact q e h
 | cons g a ih =>
  intro e n h;obtain⟨c,l⟩:=g;have b:∀g∈a,∀o∈g.2,o.guard=g.1:=λg s=>n g (oH _ s);have m:=n (c,l) (oL ..);rw[jI];cases c with
  | none=>exact zcC (λe h=>ih e b h) l e m h
  | some jw =>
   obtain⟨j,d⟩:=jw;simp only[Es]at h;cases f:((ops[j]?).bind (·.dst)).any ((eD l).contains ·)
   case true=>rw[f]at h;exact h.elim
   case false =>
    rw[f]at h;have h:aM _ _ _ _ _:=h;by_cases i:asB (tY ops e j)=some d
    .refine zaK (K:=λp t => Es P ops a K p t) (λe h=>ih e b h) l e m f i <|NK l (h.1 i) ?_;intro u r k;dsimp only at k;rw[Uh r]at k;exact k
    .exact zaL l e m f i (ih _ b (h.2 i))
def UA(ops:Array Oper)(h:Nat.ble (ju ops) ops.size=true):(Region.lexB .any ops=true/\ju ops=ops.size)\/(Region.lexTailB .any ops (ju ops)=true/\ju ops<ops.size):=by
 have a:∀n,n<=ops.size->Nat.ble (yJ ops n) ops.size=true->Region.lexTailB .any ops (yJ ops n)=true/\yJ ops n<ops.size:=by
  intro n
  induction n with
  | zero=>intro _ h;simp only[yJ]at h;have:=Nat.le_of_ble_eq_true h;omega
  | succ n ih =>
   intro e h;simp only[yJ]at h |-;cases c:Region.lexTailB .any ops n
   case true=>exact⟨c,by show n<_;omega⟩
   case false=>rw[c]at h;exact ih oo h
 unfold ju at *;cases b:Nat.ble (zcG ops+1) ops.size
 case true =>
  right;rw[b]at h;exact a _ (Nat.le_of_ble_eq_true b) h
 case false =>
  rw[b]at h;cases d:Region.lexB .any ops
  case true=>left;exact⟨rfl,rfl⟩
  case false =>
   right;rw[d]at h;exact a ops.size oA h
def wn{o:Oper}{a:Act}{w:oG}{K:KV}(s:Sem oF)(c:execOp a.eval o=(do pure (.value (<-s)):Sem Next))(h:okV P s K w):∃v w',(execOp a.eval o).run P w=.ok (.value v) w'/\K v w':=by
 unfold okV at h;split at h
 .rename_i v w' b;exact⟨v,w',by rw[c,XK,b];rfl,h⟩
 .exact h.elim
def VW{o:Oper}{e:Env}{w:oG}{K:KV}(n:LL o=true)(h:cOp P (ev e) o K w):∃v w',(execOp (Act.eval ⟨e.toArray,ds⟩) o).run P w=.ok (.value v) w'/\K v w':=by
 have g:Act.eval ⟨e.toArray,ds⟩=ev e:=funext (vg e ds);obtain⟨dst,op,u,pos,after,guard⟩:=o;cases op<;>simp only[cOp]at h
 case move x=>exact⟨_,w,by rw[g];rfl,h⟩
 case assign x=>exact⟨_,w,by rw[g];rfl,h⟩
 case pick c x y =>
  obtain⟨b,C,E⟩:=h;exact⟨_,w,by unfold execOp;simp only[g,C,asBool,jY,jX,Result.andThen],E⟩
 case build t ps=>exact wn (a:=⟨e.toArray,ds⟩) (Instr.build t (ps.toList.map λp:Nat×Operand=>(p.1,ev e p.2)).toArray) (by rw[g];exact qH (λl=>(do pure (.value (<-Instr.build t l)):Sem Next)) (Tv e ps)) h
 case load t x=>exact wn (a:=⟨e.toArray,ds⟩) (Instr.loadAt t (ev e x)) (by rw[g];rfl) h
 case nilCheck x =>
  unfold aU at h;split at h
  .rename_i a q;exact⟨_,w,by unfold execOp;simp only[g,q];rfl,h⟩
  .rename_i f first k q;exact⟨_,w,by unfold execOp;simp only[g,q];rfl,h⟩
  .exact h.elim
 case binOp op t x y yt=>exact wn (a:=⟨e.toArray,ds⟩) (do eqG op t (isC x) (isC y) (ev e x) (ev e y);binOp op t (ev e x) (ev e y)) (by rw[g, <-zd8];rfl) h
 case unOp op t x=>exact wn (a:=⟨e.toArray,ds⟩) (Op.unary op (ev e x)) (by rw[g];rfl) h
 case convert s d x=>exact wn (a:=⟨e.toArray,ds⟩) (Go.convert s d (ev e x)) (by rw[g];rfl) h
 case makeInterface t x=>exact wn (a:=⟨e.toArray,ds⟩) (Instr.makeInterface t (ev e x)) (by rw[g];rfl) h
 case makeFunc fn first k =>
  have z:first.map (ev e)=(first.toList.map (ev e)).toArray:=by rw[<-Array.toList_map]
  have A:k.map (ev e)=(k.toList.map (ev e)).toArray:=by rw[<-Array.toList_map]
  exact⟨_,w,by unfold execOp;simp only[g,Instr.makeFunc,jY,jX,Result.andThen];rw[z,A],h⟩
 case slice t x lo hi mx=>exact wn (a:=⟨e.toArray,ds⟩) (Instr.sliceAt t (ev e x) (lo.map (ev e)) (hi.map (ev e)) (mx.map (ev e))) (by rw[g];rfl) h
 case fieldAddr s x f=>exact wn (a:=⟨e.toArray,ds⟩) (Instr.fieldAt s (ev e x) f) (by rw[g];rfl) h
 case field s x f=>exact wn (a:=⟨e.toArray,ds⟩) (Instr.field s (ev e x) f) (by rw[g];rfl) h
 case indexAddr t x i=>exact wn (a:=⟨e.toArray,ds⟩) (Instr.indexAt t (ev e x) (ev e i)) (by rw[g];rfl) h
 case index t x i=>exact wn (a:=⟨e.toArray,ds⟩) (Instr.index t (ev e x) (ev e i)) (by rw[g];rfl) h
 case lookup t x i ok=>exact wn (a:=⟨e.toArray,ds⟩) (Instr.lookup t (ev e x) (ev e i) ok) (by rw[g];rfl) h
 case extract t i=>exact wn (a:=⟨e.toArray,ds⟩) (Instr.extract (ev e t) i) (by rw[g];rfl) h
 case call c =>
  obtain⟨callee,args,j⟩:=c;have B:args.map (ev e)=(args.toList.map (ev e)).toArray:=by rw[<-Array.toList_map]
  cases callee with
  | invoke r m=>exact h.elim
  | builtin b =>
   have F:execOp (Act.eval ⟨e.toArray,ds⟩) {dst,op:=.call {callee:=.builtin b,args,argTypes:=j},type:=u,pos,after,guard} = builtin b j u (args.map isC) (args.map (ev e)):=by rw[g];rfl
   have D:args.map isC=(args.toList.map isC).toArray:=by rw[<-Array.toList_map]
   have h:blt P b j u (args.toList.map isC).toArray (args.toList.map (ev e)).toArray K w:=h;unfold blt at h;split at h
   .rename_i v w' n;exact⟨v,w',by rw[F,D,B];exact n,h⟩
   .exact h.elim
  | value f=>simp[LL]at n
 all_goals first|exact h.elim|(simp[LL]at n)
def zbe{S:oG->Prop}{e:Env}{o:Oper}{k:oF->Prop}(h:hOp P S e o k):hld S (λk w=>cOp P (ev e) o k w) k:=by
 unfold hOp at h;split at h
 .rename_i x a;exact⟨_,λw _=>by unfold cOp;simp only[a];exact⟨(by first|trivial|rfl),(by first|trivial|rfl)⟩,h⟩
 .rename_i x a;exact⟨_,λw _=>by unfold cOp;simp only[a];exact⟨(by first|trivial|rfl),(by first|trivial|rfl)⟩,h⟩
 .rename_i c first b a;exact⟨_,λw _=>by unfold cOp;simp only[a];exact⟨(by first|trivial|rfl),(by first|trivial|rfl)⟩,h⟩
 .exact h
def zdh{f:Nat->Prop}:∀(l:List Nat),Na l f->∀i∈l,f i:=by
 intro l
 induction l with
 | nil=>intro _ i a;cases a
 | cons j r ih =>
  intro h i a;cases r with
  | nil =>
   rcases oO.1 a with rfl|a
   .exact h
   .cases a
  | cons b r2 =>
   have h:f j/\Na (b::r2) f:=h;rcases oO.1 a with rfl|a
   .exact h.1
   .exact ih h.2 i a
def zc9{f g:Nat->Prop}(a:∀i,f i->g i):∀(l:List Nat),Na l f->Na l g:=by
 intro l
 induction l with
 | nil=>exact id
 | cons j r ih =>
  intro h;cases r with
  | nil=>exact a _ h
  | cons b r2 =>
   have h:f j/\Na (b::r2) f:=h;exact⟨a _ h.1,ih h.2⟩
section taken
variable {ops:Array Oper}{Q:Exit->Act->oG->Prop}{S:oG->Prop}
def EH(ops:Array Oper)(a:Array Bool):Prop:=∀(j:Nat) (o:Oper),ops[j]? = some o->a.getD j false=true->∀e∈o.after,Region.binds .any e=true->a.getD e.on false=true
def Yd{a:Array Bool}{i j:Nat}(h:(a.setIfInBounds i true).getD j false=true):a.getD j false=true\/j=i:=by
 by_cases b:j=i
 .exact .inr b
 .left;rw[getD_set_ne false (Ne.symm b)]at h;exact h
def zF{a:Array Bool}{i:Nat}(k:EH ops a)(m:i∈Region.ready .any ops a):EH ops (a.setIfInBounds i true):=by
 intro j o g l e f d;rcases Yd l with h|rfl
 .exact getD_set_true (k j o g h e f d)
 .obtain⟨_,n,c,b⟩:=mem_ready.1 m;rw[g]at c;cases c;exact getD_set_true (b e f d)
def Sf{a:Array Bool}{j:Nat}(f:∀o,ops[j]? = some o->∀e∈o.after,Region.binds .any e=true->a.getD e.on false=true):∀x∈Wr ops j,a.getD x false=true:=by
 intro x b;unfold Wr at b;split at b
 .rename_i o g;simp only[qU,qV]at b;obtain⟨e,⟨d,c⟩,rfl⟩:=b;exact f o g e (by simpa using d) c
 .cases b
def zaD{a:Array Bool}(k:EH ops a):∀(f:Nat) (b c:List Nat),(∀x∈b,a.getD x false=true)->(∀x∈c,a.getD x false=true)->∀x∈Wq ops f b c,a.getD x false=true:=by
 intro f
 induction f with
 | zero=>intro b c _ g;exact g
 | succ f ih =>
  intro b c h g;cases b with
  | nil=>exact g
  | cons j b =>
   simp only[Wq];split
   .exact ih _ _ (λx d=>h x (oH _ d)) g
   .refine ih _ _ (λx d=>?_) (λx d=>?_)
    .rcases oU.1 d with d|d
     .exact Sf (λo m e l i=>k j o m (h j (oL ..)) e l i) x d
     .exact h x (oH _ d)
    .rcases oO.1 d with rfl|d
     .exact h _ (oL ..)
     .exact g x d
def zfo{k:Nat}:∀{l:List Nat},Wz k l=true->k∈l:=by
 intro l
 induction l with
 | nil=>intro h;cases h
 | cons i r ih =>
  intro h;simp only[Wz,jR]at h;rcases h with h|h
  .rw[Nat.eq_of_beq_eq_true h];exact oL ..
  .exact oH _ (ih h)
def zaE{a:Array Bool}{i j:Nat}{b:List Nat}(h:EH ops a)(k:j∈Region.ready .any ops a)(hi:i∈Region.ready .any ops a):tN ops (i::b) j=i::tN ops b j:=by
 unfold tN;rw[List.filter_cons_of_pos];cases l:Wz i (Wq ops 1000 (Wr ops j) [])with
 | false=>rfl
 | true =>
  obtain⟨_,o,m,c⟩:=mem_ready.1 k;have e:=zaD h 1000 (Wr ops j) [] (Sf λp d => by rw[m]at d;cases d;exact c) (λx n=>by cases n) i (zfo l);have g:=(mem_ready.1 hi).1;rcases Nat.lt_or_ge i a.size with f|f
  .simp[f]at g e;rw[g]at e;cases e
  .simp[Array.getElem?_eq_none f]at e
def ve(P:Program)(ops:Array Oper)(Q:Exit->Act->oG->Prop)(S:oG->Prop):Nat->Array Bool->List Nat->Act->oG->Prop
 | 0,listed,_,a,w=>Region.ready .any ops listed=[]/\Q .normal a w
 | fuel+1,listed,pend,a,w =>
  (Region.ready .any ops listed=[]->Q .normal a w) /\
  ∀i∈Region.ready .any ops listed,wpOp P ops Q i (λc b => (tN ops pend i≠[]->S b)/\ve P ops Q S fuel (listed.setIfInBounds i true) (tN ops pend i) c b) a w
def Ho:∀(fuel:Nat) (b:Array Bool) (c:List Nat) (a:Act) (w:oG),ve P ops Q S fuel b c a w->wpAny P .any ops Q fuel b a w
 | 0,_,_,_,_,h=>h
 | fuel+1,_,_,_,_,h=>⟨h.1,λi f=>wpOp_mono (λd g e => Ho fuel _ _ d g e.2) (h.2 i f)⟩
def XP:∀(fuel:Nat) (b:Array Bool) (a:Act) (w:oG),wpAny P .any ops Q fuel b a w->ve P ops Q S fuel b [] a w
 | 0,_,_,_,h=>h
 | fuel+1,_,_,_,h=>⟨h.1,λi f=>wpOp_mono (λc g d => ⟨λe=>qI rfl e,XP fuel _ c g d⟩) (h.2 i f)⟩
def zau{S2:oG->Prop}(f:∀x,S2 x->S x):∀(fuel:Nat) (b:Array Bool) (c:List Nat) (a:Act) (w:oG),ve P ops Q S2 fuel b c a w->ve P ops Q S fuel b c a w
 | 0,_,_,_,_,h=>h
 | fuel+1,_,_,_,_,h=>⟨h.1,λi j=>wpOp_mono (λg k e => ⟨λd=>f _ (e.1 d),zau f fuel _ _ g k e.2⟩) (h.2 i j)⟩
def Xw{p b:List Nat}{i:Nat}(h:∀x∈p,x∈b):∀x∈tN ops p i,x∈tN ops b i:=by intro x a;unfold tN at *;rw[qV]at *;exact⟨h x a.1,a.2⟩
def EF:∀(fuel:Nat) (b:Array Bool) (p d:List Nat) (a:Act) (w:oG),(∀x∈p,x∈d)->ve P ops Q S fuel b d a w->ve P ops Q S fuel b p a w
 | 0,_,_,_,_,_,_,h=>h
 | fuel+1,_,p,d,_,_,hp,h=>⟨h.1,λi j=>wpOp_mono (λf l e => ⟨λc=>e.1 (λg=>c (by
   cases k:tN ops p i with
   | nil=>rfl
   | cons x r =>
    have:=Xw (ops:=ops) (i:=i) hp x (by rw[k];exact oL ..)
    rw[g]at this;cases this)),EF fuel _ _ _ f l (Xw hp) e.2⟩) (h.2 i j)⟩
def zav{i:Nat}{u:Oper}{v:oF}(hi:ops[i]? = some u)(s:∀(j:Nat) (o:Oper) cs b,ops[j]? = some o->o.op≠.select cs b)(X:∀c a w,Q (.panic c) (a.put u.dst v) w->Q (.panic c) a w):∀(f:Nat) (d:Array Bool) (l:List Nat) (a:Act) (w:oG),EH ops d ->
   (∀j y,ops[j]? = some y->j≠i->d.getD j true=false->(∀e∈y.after,Region.binds .any e=true->e.on≠i)->u.apart ops y=true) ->
   i∈Region.ready .any ops d->YieldsIf P ops S u v a->S w ->
   ve P ops Q S f (d.setIfInBounds i true) (i::l) (a.put u.dst v) w->ve P ops Q S (f+1) d l a w:=by
 intro f
 induction f with
 | zero =>
  intro d l a w _ _ r I A H;refine⟨λh=>(by rw[h]at r;cases r),λj z=>?_⟩;by_cases g:j=i
  .subst g;exact I.wpOp hi A ⟨λ_=>A,H⟩
  .have:=ready_mono z g
   rw[H.1]at this;cases this
 | succ f ih =>
  intro d l a w T m r I A H;refine⟨λh=>(by rw[h]at r;cases r),λj z=>?_⟩;by_cases g:j=i
  .subst g;refine I.wpOp hi A ⟨λ_=>A,EF _ _ _ _ _ _ (λx U=>?_) H⟩;unfold tN at U;exact oH _ (qV.1 U).1
  .have p:=H.2 j (ready_mono z g);rw[zaE T z r]at p;obtain⟨q,y,t,C⟩:=mem_ready.1 z;have E:∀e∈y.after,Region.binds .any e=true->e.on≠i:=λe Z Y M=>by
    have p:=C e Z Y;have R:=(mem_ready.1 r).1;rw[M]at p;rcases Nat.lt_or_ge i d.size with J|J
    .simp[J]at R p;rw[R]at p;cases p
    .simp[Array.getElem?_eq_none J]at p
   have W:=wpOp_putIf t (m j y t g q E) (λa b=>s i u a b hi) (λa b=>s j y a b t) X I p;have n:∀k G,ops[k]? = some G->k≠i->(d.setIfInBounds j true).getD k true=false ->
     (∀e∈G.after,Region.binds .any e=true->e.on≠i)->u.apart ops G=true:=λk G hk N F O=>by
    refine m k G hk N ?_ O;by_cases D:j=k
    .subst D;exact q
    .rw[getD_set_ne true D]at F;exact F
   refine wpOp_mono (λV w' L=>?_) W;have B:S w':=L.2.1 oB;refine⟨λ_=>B,ih (d.setIfInBounds j true) _ V w' (zF T z) n (ready_mono r (Ne.symm g)) L.1 B ?_⟩;rw[Array.setIfInBounds_comm _ _ g];exact L.2.2
def zaP{i:Nat}{u:Oper}{v:oF}(hi:ops[i]? = some u)(q:∀(j:Nat) (o:Oper) cs b,ops[j]? = some o->o.op≠.select cs b)(W:∀c a w,Q (.panic c) (a.put u.dst v) w->Q (.panic c) a w):∀(g:Nat) (d:Array Bool) (f:List Nat) (a:Act) (w:oG),EH ops d ->
   (∀j y,ops[j]? = some y->j≠i->d.getD j true=false->(∀e∈y.after,Region.binds .any e=true->e.on≠i)->u.apart ops y=true) ->
   i∈Region.ready .any ops d->YieldsIf P ops (λ_=>True) u v a->(f≠[]->S w) ->
   ve P ops Q S g (d.setIfInBounds i true) f (a.put u.dst v) w->ve P ops Q S (g+1) d f a w:=by
 intro g
 induction g with
 | zero =>
  intro d f a w _ _ t I L H;refine⟨λh=>(by rw[h]at t;cases t),λj B=>?_⟩;by_cases l:j=i
  .subst l;exact I.wpOp hi trivial ⟨λN=>L (λz=>N (by rw[z];rfl)),EF 0 _ _ f _ _ (λx T=>(qV.1 T).1) H⟩
  .have:=ready_mono B l
   rw[H.1]at this;cases this
 | succ g ih =>
  intro d f a w Y m t I L H;refine⟨λh=>(by rw[h]at t;cases t),λj B=>?_⟩;by_cases l:j=i
  .subst l;exact I.wpOp hi trivial ⟨λN=>L (λz=>N (by rw[z];rfl)),EF _ _ _ _ _ _ (λx T=>(qV.1 T).1) H⟩
  .have r:=H.2 j (ready_mono B l);obtain⟨p,y,s,A⟩:=mem_ready.1 B;have D:∀e∈y.after,Region.binds .any e=true->e.on≠i:=λe Z X M=>by
    have r:=A e Z X;have z:=(mem_ready.1 t).1;rw[M]at r;rcases Nat.lt_or_ge i d.size with J|J
    .simp[J]at z r;rw[z]at r;cases r
    .simp[Array.getElem?_eq_none J]at r
   have V:=wpOp_putIf s (m j y s l p D) (λa b=>q i u a b hi) (λa b=>q j y a b s) W I r;have n:∀k F,ops[k]? = some F->k≠i->(d.setIfInBounds j true).getD k true=false ->
     (∀e∈F.after,Region.binds .any e=true->e.on≠i)->u.apart ops F=true:=λk F hk O E R=>by
    refine m k F hk O ?_ R;by_cases C:j=k
    .subst C;exact p
    .rw[getD_set_ne true C]at E;exact E
   refine wpOp_mono (λU w' G=>?_) V;refine⟨G.2.1,ih (d.setIfInBounds j true) _ U w' (zF Y B) n (ready_mono t (Ne.symm l)) G.1 G.2.1 ?_⟩;rw[Array.setIfInBounds_comm _ _ l];exact G.2.2
def Lk{b:Array Bool}{d:List Nat}{a:Act}{w:oG}(e:Region.ready .any ops b=[])(h:Q .normal a w):∀c,ve P ops Q S c b d a w
 | 0=>⟨e,h⟩
 | _+1=>⟨λ_=>h,by rw[e];simp⟩
end taken
def US{ops:Array Oper}{K:KE}{Q:Exit->Act->oG->Prop}(L:∀e w,K e w->Q .normal ⟨e.toArray,ds⟩ w)(T:∀c a w,¬Q (.panic c) a w)(V:Region.noSelect ops=true):∀(f:Nat) (b:Array Bool) (d:List Nat) (S:oG->Prop) (e:Env) (w:oG),S w->EH ops b->QP P ops K f b d S e w->ve P ops Q S f b d ⟨e.toArray,ds⟩ w:=by
 intro f
 induction f with
 | zero =>
  intro b d S e w r D h;simp only[QP]at h;cases A:(Region.ready .any ops b).isEmpty
  case false=>rw[A]at h;exact h.elim
  case true =>
   rw[A]at h;exact Lk (List.isEmpty_iff.1 A) (L _ _ h) 0
 | succ f ih =>
  intro b d S e w r D h;simp only[QP]at h;cases A:(Region.ready .any ops b).isEmpty
  case true =>
   rw[A]at h;exact Lk (List.isEmpty_iff.1 A) (L _ _ h) _
  case false =>
   rw[A]at h;have N:Region.ready .any ops b≠[]:=λg=>by rw[g]at A;cases A
   dsimp only at h;cases I:(Region.ready .any ops b).find? (UR ops b)with
   | some i =>
    rw[I]at h;have h:hAt ops i _:=h;have n:=List.mem_of_find?_eq_some I;have l:=List.find?_some I;unfold UR at l;unfold hAt at h;cases x:ops[i]? with
    | none=>rw[x]at h;exact h.elim
    | some o =>
     rw[x]at h l;simp only[oM]at l;cases s:zcp o with
     | true =>
      dsimp only at h;rw[s]at h;obtain⟨v,H,E⟩:=zbe h;have k:o.guard=none:=by
       unfold zcp at s;cases X:o.guard with
       | none=>rfl
       | some _=>rw[X]at s;cases s
      have O:YieldsIf P ops (λ_=>True) o v ⟨e.toArray,ds⟩:=.inl ⟨by simp[Region.wanted,k],λw r=>by
       obtain⟨W,w',t,rfl,rfl⟩:=VW l.1 (H w r);exact t⟩
      refine zaP x (Region.noSelect_spec V) (λc a w g=>qI g (T _ _ _)) (v:=v) _ _ _ _ _ D (Region.free_spec x l.2) n O (λ_=>r) ?_;rw[zO];exact ih _ _ _ _ _ r (zF D n) E
     | false =>
     dsimp only at h;rw[s]at h;have R:∃v,YieldsIf P ops S o v ⟨e.toArray,ds⟩/\QP P ops K f (b.setIfInBounds i true) (i::d) S (pt e o.dst v) w:=by
      dsimp only at h;unfold zeY at h;cases k:o.guard with
      | none =>
       rw[k]at h;obtain⟨v,H,E⟩:=zbe h;refine⟨v,.inl ⟨by simp[Region.wanted,k],λw r=>?_⟩,E⟩;obtain⟨W,w',t,rfl,rfl⟩:=VW l.1 (H w r);exact t
      | some jw =>
       obtain⟨j,m⟩:=jw;rw[k]at h;obtain⟨v,H,Y,E⟩:=h;have F:=zv ops.toList e o j m k;rw[show ops.toList.toArray=ops from rfl]at F;refine⟨v,?_,E⟩;by_cases z:asB (tY ops.toList e j)=some m
       .refine .inl ⟨by rw[F,z];simp,λw r=>?_⟩;obtain⟨W,w',t,rfl,rfl⟩:=VW l.1 (H z w r);exact t
       .exact .inr ⟨by rw[F];simpa using z,Y z⟩
     obtain⟨v,O,E⟩:=R;refine zav x (Region.noSelect_spec V) (λc a w g=>qI g (T _ _ _)) (v:=v) _ _ _ _ _ D (Region.free_spec x l.2) n O r ?_;rw[zO];exact ih _ _ _ _ _ r (zF D n) E
   | none =>
    rw[I]at h;refine⟨λJ=>qI J N,λi M=>?_⟩;have q:=zdh _ h i M;unfold hAt at q;cases x:ops[i]? with
    | none=>rw[x]at q;exact q.elim
    | some o =>
     rw[x]at q;have B:∀(v:oF) (w':oG),(match tN ops d i with
       | [] =>
        match (Region.ready .any ops (b.setIfInBounds i true)).isEmpty with
        | true=>QP P ops K f (b.setIfInBounds i true) [] S (pt e o.dst v) w'
        | false=>aF (λS w=>QP P ops K f (b.setIfInBounds i true) [] S (pt e o.dst v) w) w'
       | p::ps=>aX S (λS w=>QP P ops K f (b.setIfInBounds i true) (p::ps) S (pt e o.dst v) w) w') ->
       (tN ops d i≠[]->S w')/\ve P ops Q S f (b.setIfInBounds i true) (tN ops d i) ⟨(pt e o.dst v).toArray,ds⟩ w':=by
      intro v w' g;cases U:tN ops d i with
      | nil =>
       rw[U]at g;dsimp only at g;refine⟨λJ=>qI rfl J,?_⟩;cases u:(Region.ready .any ops (b.setIfInBounds i true)).isEmpty with
       | true =>
        rw[u]at g;have g:QP P ops K f (b.setIfInBounds i true) [] S (pt e o.dst v) w':=g
        have:K (pt e o.dst v) w':=by
         cases f with
         | zero=>simp only[QP,u]at g;exact g
         | succ f=>simp only[QP,u]at g;exact g
        exact Lk (List.isEmpty_iff.1 u) (L _ _ this) _
       | false =>
        rw[u]at g;obtain⟨S2,y,g⟩:=g;exact XP _ _ _ _ (Ho _ _ _ _ _ (ih _ _ _ _ _ y (zF D M) g))
      | cons p ps =>
       rw[U]at g;obtain⟨S2,y,G,g⟩:aX S (λS w=>QP P ops K f (b.setIfInBounds i true) (p::ps) S (pt e o.dst v) w) w':=g;exact⟨λ_=>y _ G,zau y _ _ _ _ _ (ih _ _ _ _ _ G (zF D M) g)⟩
     refine wpOp_step x λK' C=>?_;dsimp only at q;unfold zeB at q;cases k:o.guard with
     | none =>
      rw[k]at q;rw[oJ (by simp[Region.wanted,k])];exact EG q λv w' g=>C _ _ (B v w' g)
     | some jw =>
      obtain⟨j,m⟩:=jw;rw[k]at q;have F:=zv ops.toList e o j m k;rw[show ops.toList.toArray=ops from rfl]at F;by_cases z:asB (tY ops.toList e j)=some m
      .rw[oJ (by rw[F,z];simp)];exact EG (q.1 z) λv w' g=>C _ _ (B v w' g)
      .rw[oI (by rw[F];simpa using z)];refine C _ _ ?_;rw[zO];exact B undef w (q.2 z)
def RZ(ops:Array Oper)(n:Nat):EH ops (Array.replicate n false):=by
 intro j o _ h;rcases Nat.lt_or_ge j n with a|a
 .simp[Array.getD,a]at h
 .simp[Array.getD,Nat.not_lt.2 a]at h
def UT{ops:Array Oper}(h:QS P ops=true):Region.noSelect ops=true:=by simp only[QS,oM]at h;exact h.1
def Ez:∀(c:Code) (N:KE) (X:Nat->KE) (R:KE) (e:Env) (w:oG),ai P c N X R e w->c.wp P (QQ ds N X R) ⟨e.toArray,ds⟩ w:=by
 intro c
 induction c with
 | skip=>intro N X R e w h;exact wp_skip ⟨e,rfl,h⟩
 | region id ops draw =>
  intro N X R e w h;cases draw with
  | true =>
   simp only[ai]at h;cases n:(P.follows .mixedOrders&&QS P ops)
   case true =>
    rw[n]at h;obtain⟨S,E,h⟩:=h;simp only[oM]at n;exact wp_region_any n.1 (Ho _ _ _ _ _ (US (λe w D=>⟨e,rfl,D⟩) (λc a w F=>F) (UT n.2) _ _ _ _ _ _ E (RZ ops _) h))
   case false =>
   rw[n]at h;dsimp only at h;cases m:(P.follows .mixedOrders&&Nat.ble (ju ops) ops.size)
   case false=>rw[m]at h;exact h.elim
   case true =>
    rw[m]at h;have h:Es _ _ _ _ _ _:=h;simp only[oM]at m;obtain⟨d,f⟩:=wU (ops.toList.take (ju ops));obtain⟨A,B⟩:=wU (ops.toList.drop (ju ops));have j:∀e,iy P ops.toList (grp (ops.toList.drop (ju ops))) N e w.drew->wpList P ops.toList.toArray (QQ ds N X R) (ops.toList.drop (ju ops)) ⟨e.toArray,ds⟩ w.drew:=by
     intro e o
     have:=Gr (P:=P) (ops:=ops.toList) (Q:=QQ ds N X R) (K:=N) (λe w h=>⟨e,rfl,h⟩) (grp (ops.toList.drop (ju ops))) e w.drew B o
     rwa[A]at this
    rcases UA ops m.2 with⟨r,s⟩|⟨r,s⟩
    .have k:=Hl (P:=P) (ops:=ops.toList) (Q:=λa=>QQ ds N X R .normal a w.drew) (w:=w.drew) (λe o=>by
      have:=j e o
      rw[s,oS oB]at this;exact this) _ e f h
     rw[d,s,tL oB]at k;refine wp_region_still m.1 r ?_;simpa using k
    .have k:=Hl (P:=P) (ops:=ops.toList) (Q:=λa=>wpList P ops.toList.toArray (QQ ds N X R) (ops.toList.drop (ju ops)) a w.drew) (w:=w.drew) (λe o=>j e o) _ e f h;rw[d]at k
     have:=wp_region_still_tail (P:=P) (id:=id) (Q:=QQ ds N X R) (a:=⟨e.toArray,ds⟩) (w:=w) (l:=ops.toList) (ju ops) m.1 (by simpa using r) k
     simpa using this
  | false =>
   refine wp_region_list ?_;obtain⟨d,f⟩:=wU ops.toList
   have:=Gr (P:=P) (ops:=ops.toList) (Q:=QQ ds N X R) (K:=N) (λe w h=>⟨e,rfl,h⟩) (grp ops.toList) e w f h
   rw[d]at this;simpa using this
 | seq a b iha ihb =>
  intro N X R e w h;refine wp_seq (wp_mono (iha _ _ _ _ _ h) ?_);intro x a w g;cases x with
  | normal=>obtain⟨e,rfl,h⟩:=g;exact ihb _ _ _ _ _ h
  | _=>exact g
 | cond c x y ihx ihy =>
  intro N X R e w h;obtain⟨b,p,d,f⟩:=h;cases b with
  | true=>exact wp_cond (t:=true) (by rw[vg];exact p) (ihx _ _ _ _ _ (d rfl))
  | false=>exact wp_cond (t:=false) (by rw[vg];exact p) (ihy _ _ _ _ _ (f rfl))
 | block id c ih =>
  intro N X R e w h;refine wp_block (wp_mono (ih _ _ _ _ _ h) ?_);intro x a w g;cases x with
  | exit i =>
   obtain⟨e,rfl,h⟩:=g;simp only[Exit.inBlock];by_cases q:i=id
   .rw[oJ q]
    have:Nat.beq i id=true:=by rw[q];exact Nat.beq_refl id
    rw[this]at h;exact⟨e,rfl,h⟩
   .rw[oI q]
    have:Nat.beq i id=false:=by
     cases p:Nat.beq i id with
     | false=>rfl
     | true=>exact qI (Nat.eq_of_beq_eq_true p) q
    rw[this]at h;exact⟨e,rfl,h⟩
  | _=>exact g
 | loop c ih =>
  intro N X R e w h;obtain⟨I,H,z,k⟩:=h;refine wp_loop (λa w=>∃e:Env,a=⟨e.toArray,ds⟩/\I e w) (λa w=>H a.tmps.toList w) ⟨e,rfl,z⟩ ?_;rintro _ G ⟨u,rfl,C⟩;refine wp_mono (ih _ _ _ _ _ (k u G C)) ?_;intro x a w g;cases x with
  | normal=>obtain⟨v,rfl,d,f⟩:=g;exact⟨⟨v,rfl,d⟩,by simpa using f⟩
  | _=>exact g
 | exit i=>intro N X R e w h;exact wp_exit ⟨e,rfl,h⟩
 | ret=>intro N X R e w h;exact wp_ret ⟨e,rfl,h⟩
 | _=>intro N X R e w h;exact h.elim
def pR(l:List (Option TypeId×oF)):Sem oF:=do
 let b <-l.toArray.mapM λ|(none,v)=>pure v|(some t,a)=>do loadVar t (<-asAddr a)
 pure (if h:b.size=1 then b[0]else .tuple b)
def aY(P:Program)(l:List (Option TypeId×oF))(K:KV)(w:oG):Prop:=match (pR l).run P w with | .ok v w' => w'=w/\K v w|_=>False
def Qi(b:List ResultVar)(e:Env):List (Option TypeId×oF):=b.map λ| .tmp t=>(none,gd e t) | .cell a t=>(some t,gd e a)
def Dh(P:Program)(rs:List ResultVar)(K:KV)(e:Env)(w:oG):Prop :=
 match rs with
 | []=>K (.tuple #[]) w
 | [.tmp t]=>K (gd e t) w
 | [.tmp t,.tmp u]=>K (.tuple #[gd e t,gd e u]) w
 | [.tmp t,.tmp u,.tmp v]=>K (.tuple #[gd e t,gd e u,gd e v]) w
 | [.tmp t,.tmp u,.tmp v,.tmp x]=>K (.tuple #[gd e t,gd e u,gd e v,gd e x]) w
 | rs=>aY P (Qi rs e) K w
def zcv(b:Func)(e:Env)(w:oG):(results b e.toArray).run P w=(pR (Qi b.results.toList e)).run P w:=by
 unfold results pR Qi
 have:((b.results.toList.map λ| .tmp t=>((none,gd e t):Option TypeId×oF) | .cell a t=>(some t,gd e a))).toArray=b.results.map (λ| .tmp t=>((none,gd e t):Option TypeId×oF) | .cell a t=>(some t,gd e a)):=by
  rw[<-Array.toList_map]
 rw[this,Array.mapM_map]
 congr 2
 congr 1
 funext x;cases x with
 | tmp t=>simp only[Function.comp,Ii]
 | cell a t=>simp only[Function.comp,Ii]
def zP{c:Func}{K:KV}{e:Env}{w:oG}(h:Dh P c.results.toList K e w):∃v,(results c e.toArray).run P w=.ok v w/\K v w:=by
 rw[zcv];unfold Dh at h;split at h
 .rename_i a;rw[a];exact⟨_,by simp[pR,Qi],h⟩
 .rename_i a;rw[a];exact⟨_,by simp[pR,Qi],h⟩
 .rename_i a;rw[a];exact⟨_,by simp[pR,Qi],h⟩
 .rename_i a;rw[a];exact⟨_,by simp[pR,Qi],h⟩
 .rename_i a;rw[a];exact⟨_,by simp[pR,Qi],h⟩
 .unfold aY at h;split at h
  .rename_i v f b;obtain⟨rfl,d⟩:=h;exact⟨v,b,d⟩
  .exact h.elim
def enter{f:FuncId}{d:Func}{c:Code}{b:oE}{w:oG}{K:KV}(n:P.funcs[f]? = some d)(m:d.body=some c)(h:ai P c (Dh P d.results.toList K) (λ_ _ _=>False) (Dh P d.results.toList K) (b++List.replicate (d.ntmps-b.length) undef) w):Gives P f b.toArray w K:=by
 refine calls_of_wp n m ?_;have l:b.toArray++Array.replicate (d.ntmps-b.toArray.size) undef=(b++List.replicate (d.ntmps-b.length) undef).toArray:=by simp
 rw[l];refine wp_mono (Ez c _ _ _ _ _ h) ?_;intro x a w g;cases x with
 | normal=>obtain⟨e,rfl,h⟩:=g;obtain⟨v,j,k⟩:=zP h;exact⟨rfl,v,j,v,rfl,k⟩
 | ret=>obtain⟨e,rfl,h⟩:=g;obtain⟨v,j,k⟩:=zP h;exact⟨rfl,v,j,v,rfl,k⟩
 | exit i=>obtain⟨_,_,h⟩:=g;exact h.elim
 | _=>exact g.elim
def wr:Code->List Nat
 | .region _ ops _=>eD ops.toList
 | .seq a b=>wr a++wr b
 | .cond _ x y=>wr x++wr y
 | .block _ c=>wr c
 | .loop c=>wr c
 | _=>[]
def Bu:∀(ds:List Nat) (vs:oE) (e:Env),agree ds e (Di e ds vs):=by
 intro ds vs e;refine⟨?_,λi a=>by simp only[gd,List.getD,Di,ze6 vs ds 0 e i a]⟩
 have:∀(ds:List Nat) (k:Nat) (e:Env),(zQ vs ds k e).length=e.length:=by
  intro ds
  induction ds with
  | nil=>intro k e;rfl
  | cons d ds ih=>intro k e;simp only[zQ];rw[ih];simp
 exact this ds 0 e
def Up{ops:List Oper}:∀(a:List (Option (Nat×Bool)×List Oper)) {K K':KE} {e:Env} {w:oG},iy P ops a K e w ->
  (∀c w2,agree (eD (a.flatMap (·.2))) e c->K c w2->K' c w2)->iy P ops a K' e w:=by
 intro a
 induction a with
 | nil=>intro K K' e w h b;exact b _ _ (agree.refl _ _) h
 | cons g a ih =>
  intro K K' e w h b;obtain⟨f,l⟩:=g;have r:eD (((f,l)::a).flatMap (·.2))=eD l++eD (a.flatMap (·.2)):=by simp[eD,List.filterMap_append]
  rw[r]at b;cases f with
  | none=>exact MA l h λc w2 p n=>ih n λd m i=>b d m (p.trans i)
  | some jw =>
   obtain⟨j,q⟩:=jw;simp only[iy]at h |-;cases k:((ops[j]?).bind (·.dst)).any ((eD l).contains ·)
   case true=>rw[k]at h;exact h.elim
   case false =>
    rw[k]at h;have h:aM _ _ _ _ _:=h;show aM _ _ _ _ _;refine⟨λo=>?_,λo=>?_⟩
    .refine MA l (h.1 o) ?_;intro c w2 p n;exact ih n λd m i=>b d m ((Bu _ _ _).trans i)
    .exact ih (h.2 o) λd m i=>b d m ((Bu _ _ _).trans i)
def zcB{ops:List Oper}:∀(a:List (Option (Nat×Bool)×List Oper)) {K K':KE} {e:Env} {w:oG},Es P ops a K e w ->
  (∀c,agree (eD (a.flatMap (·.2))) e c->K c w->K' c w)->Es P ops a K' e w:=by
 intro a
 induction a with
 | nil=>intro K K' e w h b;exact b _ (agree.refl _ _) h
 | cons g a ih =>
  intro K K' e w h b;obtain⟨f,l⟩:=g;have q:eD (((f,l)::a).flatMap (·.2))=eD l++eD (a.flatMap (·.2)):=by simp[eD,List.filterMap_append]
  rw[q]at b;cases f with
  | none=>exact NK l h λc o m=>ih m λd i=>b d (o.trans i)
  | some jw =>
   obtain⟨j,p⟩:=jw;simp only[Es]at h |-;cases k:((ops[j]?).bind (·.dst)).any ((eD l).contains ·)
   case true=>rw[k]at h;exact h.elim
   case false =>
    rw[k]at h;have h:aM _ _ _ _ _:=h;show aM _ _ _ _ _;refine⟨λn=>?_,λn=>?_⟩
    .refine NK l (h.1 n) ?_;intro c o m;exact ih m λd i=>b d ((Bu _ _ _).trans i)
    .exact ih (h.2 n) λd i=>b d ((Bu _ _ _).trans i)
def zca{ops:Array Oper}{K K':KE}:∀(f:Nat) (a:Array Bool) (d:List Nat) (S:oG->Prop) (e:Env) (w:oG),QP P ops K f a d S e w->(∀q w2,agree (eD ops.toList) e q->K q w2->K' q w2)->QP P ops K' f a d S e w:=by
 intro f;have y:∀{i:Nat} {o:Oper} (e:Env) (v:oF),ops[i]? = some o->agree (eD ops.toList) e (pt e o.dst v):=by
  intro i o e v g;refine(Mw e o.dst v).mono λk l=>?_;have C:o∈ops.toList:=by have:=Array.mem_of_getElem? g;simpa using this
  simp only[eD,List.mem_filterMap];exact⟨o,C,by simpa using l⟩
 induction f with
 | zero =>
  intro a d S e w h l;simp only[QP]at h |-;cases t:(Region.ready .any ops a).isEmpty
  case false=>rw[t]at h;exact h
  case true=>rw[t]at h;exact l _ _ (agree.refl _ _) h
 | succ f ih =>
  intro a d S e w h l;simp only[QP]at h |-;cases t:(Region.ready .any ops a).isEmpty
  case true=>rw[t]at h;exact l _ _ (agree.refl _ _) h
  case false =>
   rw[t]at h;dsimp only at h |-;have b:∀{i:Nat} {o:Oper} (p:List Nat) (S:oG->Prop) (v:oF) (w':oG),ops[i]? = some o->QP P ops K f (a.setIfInBounds i true) p S (pt e o.dst v) w'->QP P ops K' f (a.setIfInBounds i true) p S (pt e o.dst v) w':=by
    intro i o p S v w' g c;exact ih _ _ _ _ _ c λq w2 r=>l q w2 (((y e v g).trans r).mono (λk l=>by simpa using l))
   cases A:(Region.ready .any ops a).find? (UR ops a)with
   | some i =>
    rw[A]at h;have h:hAt ops i _:=h;show hAt ops i _;unfold hAt at *;cases g:ops[i]? with
    | none=>rw[g]at h;exact h.elim
    | some o =>
     rw[g]at h;dsimp only at h |-;cases s:zcp o with
     | true =>
      rw[s]at h;dsimp only at h |-;unfold hOp at *;split at h
      .exact b _ _ _ _ g h
      .exact b _ _ _ _ g h
      .exact b _ _ _ _ g h
      .obtain⟨v,x,c⟩:=h;exact⟨v,x,b _ _ _ _ g c⟩
     | false =>
     rw[s]at h;dsimp only at h |-;unfold zeY at *;cases j:o.guard with
     | some jw =>
      rw[j]at h;obtain⟨v,x,D,c⟩:=h;exact⟨v,x,D,b _ _ _ _ g c⟩
     | none =>
     rw[j]at h;dsimp only at h |-;unfold hOp at *;split at h
     .exact b _ _ _ _ g h
     .exact b _ _ _ _ g h
     .exact b _ _ _ _ g h
     .obtain⟨v,x,c⟩:=h;exact⟨v,x,b _ _ _ _ g c⟩
   | none =>
    rw[A]at h;refine zc9 (λi c=>?_) _ h;unfold hAt at *;cases g:ops[i]? with
    | none=>rw[g]at c;exact c.elim
    | some o =>
     rw[g]at c;have m:∀(v:oF) (w':oG),(match tN ops d i with
       | [] =>
        match (Region.ready .any ops (a.setIfInBounds i true)).isEmpty with
        | true=>QP P ops K f (a.setIfInBounds i true) [] S (pt e o.dst v) w'
        | false=>aF (λS w=>QP P ops K f (a.setIfInBounds i true) [] S (pt e o.dst v) w) w'
       | p::ps=>aX S (λS w=>QP P ops K f (a.setIfInBounds i true) (p::ps) S (pt e o.dst v) w) w')->(match tN ops d i with
       | [] =>
        match (Region.ready .any ops (a.setIfInBounds i true)).isEmpty with
        | true=>QP P ops K' f (a.setIfInBounds i true) [] S (pt e o.dst v) w'
        | false=>aF (λS w=>QP P ops K' f (a.setIfInBounds i true) [] S (pt e o.dst v) w) w'
       | p::ps=>aX S (λS w=>QP P ops K' f (a.setIfInBounds i true) (p::ps) S (pt e o.dst v) w) w'):=by
      intro v w' c;cases B:tN ops d i with
      | nil =>
       rw[B]at c;dsimp only at c |-;cases u:(Region.ready .any ops (a.setIfInBounds i true)).isEmpty with
       | true=>rw[u]at c;exact b _ _ _ _ g c
       | false=>rw[u]at c;obtain⟨S2,n,c⟩:=c;exact⟨S2,n,b _ _ _ _ g c⟩
      | cons p ps =>
       rw[B]at c;obtain⟨S2,n,z,c⟩:aX S (λS w=>QP P ops K f (a.setIfInBounds i true) (p::ps) S (pt e o.dst v) w) w':=c;exact⟨S2,n,z,b _ _ _ _ g c⟩
     dsimp only at c |-;unfold zeB at *;cases j:o.guard with
     | some jw =>
      rw[j]at c;exact⟨λr=>HG m (c.1 r),λr=>m _ _ (c.2 r)⟩
     | none =>
      rw[j]at c;exact HG m c
def Ey:∀(c:Code) {N N':KE} {X X':Nat->KE} {R R':KE} {e:Env} {w:oG},ai P c N X R e w->(∀e2 w2,agree (wr c) e e2->N e2 w2->N' e2 w2) ->
  (∀i e2 w2,agree (wr c) e e2->X i e2 w2->X' i e2 w2)->(∀e2 w2,agree (wr c) e e2->R e2 w2->R' e2 w2)->ai P c N' X' R' e w:=by
 intro c
 induction c with
 | skip=>intro N N' X X' R R' e w h f j g;exact f _ _ (agree.refl _ _) h
 | region id ops draw =>
  intro N N' X X' R R' e w h f j g;cases draw with
  | true =>
   simp only[ai]at h |-;cases s:(P.follows .mixedOrders&&QS P ops)
   case true =>
    rw[s]at h;obtain⟨S,G,h⟩:=h;exact⟨S,G,zca _ _ _ _ _ _ h f⟩
   case false =>
   rw[s]at h;dsimp only at h |-;cases C:(P.follows .mixedOrders&&Nat.ble (ju ops) ops.size)
   case false=>rw[C]at h;exact h.elim
   case true =>
    rw[C]at h;have h:Es _ _ _ _ _ _:=h;show Es _ _ _ _ _ _;have s:wr (.region id ops true)=eD (ops.toList.take (ju ops))++eD (ops.toList.drop (ju ops)):=by
     show eD ops.toList=_;simp only[eD];rw[<-List.filterMap_append,List.take_append_drop]
    rw[s]at f;refine zcB _ h ?_;rw[(wU (ops.toList.take (ju ops))).1];intro e2 d o;refine Up _ o ?_;rw[(wU (ops.toList.drop (ju ops))).1];intro n p m E;exact f n p (d.trans m) E
  | false =>
   refine Up _ h ?_;rw[(wU ops.toList).1];exact f
 | seq a b iha ihb =>
  intro N N' X X' R R' e w h f j g;have q:∀i∈wr a,i∈wr (.seq a b):=λi l=>List.mem_append_left _ l;refine iha h ?_ (λi a b d=>j i a b (d.mono q)) (λa b d=>g a b (d.mono q));intro e2 w2 d o;exact ihb o (λn p m=>f n p (d.trans m)) (λi n p m=>j i n p (d.trans m)) (λn p m=>g n p (d.trans m))
 | cond c x y ihx ihy =>
  intro N N' X X' R R' e w h f j g;have q:∀i∈wr x,i∈wr (.cond c x y):=λi l=>List.mem_append_left _ l;have A:∀i∈wr y,i∈wr (.cond c x y):=λi l=>List.mem_append_right _ l;obtain⟨b,m,u,o⟩:=h;exact⟨b,m,λz=>ihx (u z) (λa b d=>f a b (d.mono q)) (λi a b d=>j i a b (d.mono q)) (λa b d=>g a b (d.mono q)),
   λz=>ihy (o z) (λa b d=>f a b (d.mono A)) (λi a b d=>j i a b (d.mono A)) (λa b d=>g a b (d.mono A))⟩
 | block id c ih =>
  intro N N' X X' R R' e w h f j g;refine ih h f ?_ g;intro i e2 w2 d t;cases l:Nat.beq i id
  .rw[l]at t;exact j i e2 w2 d t
  .rw[l]at t;exact f e2 w2 d t
 | loop c ih =>
  intro N N' X X' R R' e w h f j g;obtain⟨I,J,D,H⟩:=h;refine⟨λr B => I r B/\agree (wr c) e r,J,⟨D,agree.refl _ _⟩,?_⟩;rintro r B ⟨F,v⟩;have k:∀e2,agree (wr c) r e2->agree (wr c) e e2:=λe2 d=>(v.trans d).mono (λi l=>by simpa using l)
  exact ih (H r B F) (λe2 w2 d ⟨u,o⟩=>⟨⟨u,k e2 d⟩,o⟩) (λi a b d=>j i a b (k a d)) (λa b d=>g a b (k a d))
 | exit i=>intro N N' X X' R R' e w h f j g;exact j i _ _ (agree.refl _ _) h
 | ret=>intro N N' X X' R R' e w h f j g;exact g _ _ (agree.refl _ _) h
 | _=>intro N N' X X' R R' e w h f j g;exact h.elim
def mix(ws:List Nat)(a:Env):Nat->Env->Env
 | _,[]=>[]
 | k,v::e=>(if ws.contains k then gd a k else v)::mix ws a (k+1) e
def zhp(ws:List Nat)(a:Env):∀(e:Env) (k i:Nat),(mix ws a k e)[i]? = (e[i]?).map λv=>if ws.contains (k+i)then gd a (k+i)else v:=by
 intro e
 induction e with
 | nil=>intro k i;simp[mix]
 | cons v e ih =>
  intro k i;cases i with
  | zero=>simp[mix]
  | succ i=>simp only[mix,qK,ih];rw[show k+1+i=k+(i+1)by omega]
def XD{ws:List Nat}{e e':Env}(h:agree ws e e'):mix ws e' 0 e=e':=by
 apply List.ext_getElem?;intro i;rw[zhp,oK];by_cases c:i<e.length
 .have a:i<e'.length:=by rw[h.1];exact c
  rw[gE c,gE a];have b:gd e' i=e'[i]:=by simp[gd,List.getD,a]
  by_cases f:ws.contains i=true
  .simp[b];intro g;exact qI (by simpa using f) g
  .have d:=h.2 i (by simpa using f);rw[b]at d
   have:gd e i=e[i]:=by simp[gd,List.getD,c]
   rw[this]at d;simp only[jP,f];simp[d]
 .have a:¬i<e'.length:=by rw[h.1];exact c
  simp[jD (Nat.le_of_not_lt c),jD (Nat.le_of_not_lt a)]
def dC(c:Code)(ws:List Nat)(j:(wr c).all (ws.contains ·)=true)(I:KE)(k:Env->oG->Nat){N:KE}{X:Nat->KE}{R:KE}{e:Env}{w:oG}(l:I e w)(q:∀a w',I a w'->ai P c (λf b=>I f b/\k f b<k a w') X R (mix ws a 0 e) w'):ai P (.loop c) N X R e w:=by
 have d:∀i∈wr c,i∈ws:=λi g=>by simpa using jS.1 j i g
 refine⟨λa w' => I a w'/\agree ws e a,k,⟨l,agree.refl _ _⟩,?_⟩;rintro a w' ⟨o,b⟩;have h:=q a w' o;rw[XD b]at h;exact Ey c h (λf w2 p ⟨m,n⟩=>⟨⟨m,(b.trans (p.mono d)).mono (λi g=>by simpa using g)⟩,n⟩) (λ_ _ _ _ h=>h) (λ_ _ _ h=>h)
def sub:List Nat->Code->Code
 | 0::p,.seq a _=>sub p a
 | 1::p,.seq _ b=>sub p b
 | 0::p,.cond _ x _=>sub p x
 | 1::p,.cond _ _ y=>sub p y
 | 0::p,.block _ c=>sub p c
 | 0::p,.loop c=>sub p c
 | [],c=>c
 | _,_=>.skip
def rep:List Nat->Code->Code->Code
 | 0::p,x,.seq a b=>.seq (rep p x a) b
 | 1::p,x,.seq a b=>.seq a (rep p x b)
 | 0::p,x,.cond c a b=>.cond c (rep p x a) b
 | 1::p,x,.cond c a b=>.cond c a (rep p x b)
 | 0::p,x,.block i c=>.block i (rep p x c)
 | 0::p,x,.loop c=>.loop (rep p x c)
 | [],x,_=>x
 | _,_,c=>c
def cd(f:Func)(p:List Nat):Code:=sub p (f.body.getD .skip)
def au{f:FuncId}{b:Func}{a:oE}{w:oG}{K:KV}(g:P.funcs[f]? = some b)(e:b.body.isSome=true)(h:ai P (cd b []) (Dh P b.results.toList K) (λ_ _ _=>False) (Dh P b.results.toList K) (a++List.replicate (b.ntmps-a.length) undef) w):Gives P f a.toArray w K:=by
 cases d:b.body with
 | none=>simp[d]at e
 | some c =>
  refine enter g d ?_
  have:cd b []=c:=by simp[cd,d,sub]
  rw[this]at h;exact h
end sound
end Go.Proofs.YtpaghmnnhedccaaGreatDoor
