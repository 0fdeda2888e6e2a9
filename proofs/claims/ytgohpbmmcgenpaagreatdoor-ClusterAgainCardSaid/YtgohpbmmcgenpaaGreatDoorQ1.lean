import Derived.Test.YtgohpbmmcgenpaaGreatDoorSh
import Derived.WalkKit
import Derived.WalkSpells
import Derived.WalkLawsBesides
import Derived.KernelRfl
import Derived.Lib.Hide
import Derived.Lib.SlBytesConst
import Derived.Deep.MidRow
import Derived.Great.BuildSlice
import Derived.Maps.RangeRun
import Derived.MapKept
import Derived.Laws.StructEq
namespace Go.Proofs.YtgohpbmmcgenpaaGreatDoor
set_option maxRecDepth 100000
set_option linter.defProp false
open Go.RowKit
variable {w w' S O:oG}{b c o i g m s j z f d c2 D B' B2 hi:Nat}{a av a2:Option Addr}{x v r N:Int}{E t e:TypeId}{A X0:List Int}{xs ys vs:oE}{P:Program}{cx cy:Bool}{α κ:Type}{T:List (Int×Int)}{k' Q0:IntKind}{K0:Array Bool}{H Z U Y J C:oF}
def rV(a:Option Addr)(i:Nat):Addr:=match a with|some ⟨b,o,_⟩=>⟨b,o+i,none⟩|none=>default
theorem uR(b o i:Nat)(s:Option Nat):rV (some ⟨b,o,s⟩) i=⟨b,o+i,none⟩:=rfl
structure RV(w:oG) (a:Option Addr) (n c:Nat) (xs:oE):Prop where
 len:xs.length=n
 cap:n<=c
 some_:0<n->∃b o,a=some ⟨b,o,none⟩
 nil_:a=none->n=0/\c=0
 cell:∀i v,xs[i]? = some v->w.cell? (rV a i)=some v
def RV.below{B:Nat}{n:Nat}(h:RV w a n c xs)(f:Below B w S)(e:w.heap.size<=B):RV S a n c xs :=
 ⟨h.len,h.cap,h.some_,h.nil_,λi v d=>by
  have b:=jZ w _ (h.cell i v d);rw[f.cell (p:=rV a i) (qQ b e)];exact h.cell i v d⟩
def RV.nil(w:oG):RV w none 0 0 []:=⟨rfl,Nat.le_refl _,λh=>qI h oo,λ_=>⟨rfl,rfl⟩,λi v h=>by simp at h⟩
def RV.cut{n:Nat}(h:RV w a n c xs)(l k m:Nat)(q:l<=k)(j:k<=m)(p:k<=n)(s:m<=c):RV w (if m=l then a else a.map (·.add (l*1))) (k-l) (m-l) ((xs.take k).drop l):=by
 refine⟨by simp[h.len];omega,by omega,?_,?_,?_⟩
 .intro t;obtain⟨b,o,rfl⟩:=h.some_ oo;by_cases d:m=l
  .omega
  .rw[oI d];exact⟨b,o+l,by simp[Addr.add]⟩
 .intro e;by_cases d:m=l
  .omega
  .rw[oI d]at e;cases a with
   | none=>have:=h.nil_ rfl;omega
   | some ad=>simp at e
 .intro i v f;have r:i<k-l:=by
   have:=(gS f).1
   simp[h.len]at this;omega
  obtain⟨b,o,rfl⟩:=h.some_ oo;rw[oI oo];have g:((⟨b,o,none⟩:Addr).add (l*1))=⟨b,o+l,none⟩:=by unfold Addr.add;split<;>simp_all
  simp only[jP,g,uR]
  have:=h.cell (l+i) v (by rw[<-f,jM,List.getElem?_take];rw[oJ oo])
  rw[uR]at this;rw[Nat.add_assoc];exact this
def u8v(c:UInt8):oF:=.int .u8 (c.toNat:Int)
def RB(w:oG)(a:Option Addr)(n c:Nat)(l:List UInt8):Prop:=RV w a n c (l.map u8v)
def RB.rv{n:Nat}{l:List UInt8}(h:RB w a n c l):RV w a n c (l.map u8v):=h
def RB.len{n:Nat}{l:List UInt8}(h:RB w a n c l):l.length=n:=by simpa using RV.len h
def RB.below{B:Nat}{n:Nat}{l:List UInt8}(h:RB w a n c l)(d:Below B w S)(b:w.heap.size<=B):RB S a n c l:=RV.below h d b
def RB.cut{n:Nat}{xs:List UInt8}(h:RB w a n c xs)(l k m:Nat)(e:l<=k)(b:k<=m)(d:k<=n)(f:m<=c):RB w (if m=l then a else a.map (·.add (l*1))) (k-l) (m-l) ((xs.take k).drop l):=by
 have:=RV.cut h l k m e b d f
 simpa[RB,List.map_drop,List.map_take]using this
def RB.cell{n:Nat}{l:List UInt8}(h:RB w a n c l)(i:Nat)(hi:i<l.length):w.cell? (rV a i)=some (.int .u8 (l[i].toNat:Int)) :=
 RV.cell h i _ (by simp[gE hi,u8v])
def OV(w:oG)(B:Nat)(E:TypeId)(a:Option Addr)(n c:Nat)(xs:oE):Prop:=w.ownsRow B E 1 (.slice a n c) n xs
def OV.rv{B:Nat}{n:Nat}(h:OV w B E a n c xs):RV w a n c xs:=by
 have k:xs.length=n:=by simpa using h.1
 rcases h.2 with⟨d,p⟩|⟨g,l,f,d,r,m,j,s,t,q⟩
 .simp only[Value.slice.injEq]at d;obtain⟨rfl,_,rfl⟩:=d;subst p
  have:xs=[]:=List.eq_nil_of_length_eq_zero k
  subst this;exact RV.nil w
 .simp only[Value.slice.injEq]at d;obtain⟨rfl,_,rfl⟩:=d;refine⟨k,j,λ_=>⟨g,0,rfl⟩,λe=>by simp at e,λi v b=>?_⟩;have o:i<xs.length:=(gS b).1;rw[uR,oK,cell_of_row w g i f E (0,0) m];rw[<-q]at b;rw[List.getElem?_take]at b;split at b
  .simpa using b
  .cases b
def OV.block{B:Nat}{n:Nat}(h:OV w B E a n c xs):∀k,(Value.slice a n c).ownBlock=some k->B<=k/\k<w.heap.size:=jS h
def OV.nil(w:oG)(B:Nat)(E:TypeId):OV w B E none 0 0 []:=World.ownsRow_nil w B E 1
def OV.mono{B:Nat}{n:Nat}(h:OV w B E a n c xs)(f:B'<=B):OV w B' E a n c xs:=by
 refine⟨h.1,?_⟩;rcases h.2 with e|⟨g,b,d,j,i,r⟩
 .exact .inl e
 .exact .inr ⟨g,b,d,j,qR f i,r⟩
def OV.below{B:Nat}{n:Nat}(h:OV w B E a n c xs)(j:Below D w S)(m:w.heap.size<=D):OV S B E a n c xs:=by
 refine⟨h.1,?_⟩;rcases h.2 with f|⟨g,b,d,l,i,e,r⟩
 .exact .inl f
 .have k:g<w.heap.size:=(qM.1 e).1;exact .inr ⟨g,b,d,l,i,(j.block g oo).trans e,r⟩
def cS{B:Nat}{a:Option Nat}(c:w.grownBy S a)(b:B<=w.heap.size)(d:∀k,a=some k->B<=k):Below B w S :=
 (jT B w).grown c b d
section
variable  (w:oG)

def Xj(base:Nat)(t ty e:TypeId)(i:TypeInfo)(z:oF)(d:Nat)(H:P.underlying t=some (.slice e))(hi:P.info? e=some i)(S:i.zero=some z)(p:i.size=1)(A:i.bytes=d)(D:z.cells.size=1){n:Nat}(f:OV w base e a n c xs)(r:RV w a2 m c2 ys)(J:∀u∈ys,u.oneCell'=true)(k:(n+m)*d<=140737488355328)(M:n+m<=9223372036854775807)(l:base<=w.heap.size):∃q c' w',(Builtin.append_ #[t,t] ty #[.slice a n c,.slice a2 m c2]).run P w=.ok (.slice q (n+m) c') w'/\OV w' base e q (n+m) c' (xs++ys)/\w.grownBy w' (Value.slice a n c).ownBlock:=by
  have x:∀(s:oF) (w':oG),w'.ownsRow base e 1 s (n+m) (xs++ys)->∃q c',s=.slice q (n+m) c':=by
    intro s w' h;rcases h.2 with⟨C,B⟩|⟨g,v,I,C,_⟩
    · exact⟨none,0,by rw[C,B]⟩
    · exact⟨_,v,C⟩
  cases a2 with
  | some ad =>
    have B:∀j u,ys[j]? = some u->w.cell? (ad.add j)=some u:=by
      intro j u G;have O:j<m:=by rw[<-r.len];exact(gS G).1
      obtain⟨b,o,y⟩:=r.some_ oo;have F:=r.cell j u G;cases y;rw[uR]at F;have N:((⟨b,o,none⟩:Addr).add j)=⟨b,o+j,none⟩:=by unfold Addr.add;split<;>simp_all
      rw[N];exact F
    obtain⟨s,w',R,E,L,_⟩:=run_append_own (P:=P) w base t ty e i z 1 d H hi S p A D oo _ n xs f ad m c2 ys (by simp[r.len]) B J (by simp only[maxLen];omega) k l;obtain⟨q,c',rfl⟩:=x _ _ E;exact⟨q,c',w',R,E,L⟩
  | none =>
    obtain⟨rfl,rfl⟩:=r.nil_ rfl
    have:ys=[]:=List.eq_nil_of_length_eq_zero r.len
    subst this;refine⟨a,c,w,run_append_owned_none (P:=P) w base t ty e i 1 H hi _ n xs f,by simpa using f,World.grownBy.refl _ _⟩

variable {ops:Array Oper}{rest:List Oper}{a:Act}{Q:Exit->Act->oG->Prop}{dst:Option Tmp}{ty:TypeId}{pos:String}{after:Array Edge}

def zbr(t e:TypeId)(i:TypeInfo)(z:oF)(h:P.underlying t=some (.slice e))(hi:P.info? e=some i)(m:i.zero=some z)(a:i.size=1)(d:z.cells.size=1)(v:oF)(l:v.cells=#[v]):(Instr.buildSlice t 1 #[(0,v)]).run P w=.ok (.slice (some ⟨w.heap.size,0,none⟩) 1 1) (w.alloc (.cells #[v] e)):=by
 obtain⟨b,c⟩:∃b,z.cells=#[b]:=by
  match o:z.cells,d with
  | ⟨[b]⟩,_=>exact⟨b,rfl⟩
 have g:(Array.range 1).map (λk=>z.cells[k%z.cells.size]!)=#[b]:=by
  rw[c];apply Array.ext
  .simp
  .intro j n f
   have:j=0:=by simpa using f
   subst this;simp
 simp[Instr.buildSlice,Instr.fill,jY h,sizeOf,typeInfo,hi,a,zeroValue,m,l,newRow,g]
end
def xE(l:List UInt8):(Al l).toList=l:=by simp[Al]
@[go_sem ↓] theorem binOp_bstr_eql (t:TypeId) (l m:List UInt8):binOp .eql t (.string (Al l)) (.string (Al m))=pure (.bool (l==m)):=by rw[binOp_string_eql,xE,xE]
@[go_sem ↓] theorem binOp_bstr_neq (t:TypeId) (l m:List UInt8):binOp .neq t (.string (Al l)) (.string (Al m))=pure (.bool (!(l==m))):=by rw[binOp_string_neq,xE,xE]
@[go_sem ↓] theorem binOp_bstr_lss (t:TypeId) (l m:List UInt8):binOp .lss t (.string (Al l)) (.string (Al m))=pure (.bool (Op.bytesLess l m)):=by rw[binOp_string_lss,xE,xE]
section
variable  (w:oG)
variable {ops:Array Oper}{rest:List Oper}{a:Act}{Q:Exit->Act->oG->Prop}{dst:Option Tmp}{ty:TypeId}{pos:String}{after:Array Edge}

end
def eY{n:Int}(a : -9223372036854775808<=n)(b:n<=9223372036854775807):IntKind.i64.wrap n=n:=IntWalk.i64_in n ⟨a,b⟩
def gu(n:Int):IntKind.u64.wrap n=n%18446744073709551616:=by simp[IntKind.wrap,IntKind.signed,IntKind.bits]
def Nq(n:Int):IntKind.u32.wrap n=n%4294967296:=by simp[IntKind.wrap,IntKind.signed,IntKind.bits]
def Qv(n:Int):IntKind.u8.wrap n=n%256:=by simp[IntKind.wrap,IntKind.signed,IntKind.bits]
section
variable  {K:KV}   

def eH{a:BinOp}{x y v:oF}(c:(eqG a t cx cy x y).run P w=.ok () w)(b:(binOp a t x y).run P w=.ok v w)(h:K v w):bin P a t cx cy x y K w:=by unfold bin;refine eJ (w':=w) (v:=v) ?_ h;simp only[jX,c,jU,b]
def pI(c:BinOp)(k k':IntKind)(a b:Int):(eqG c t cx cy (.int k a) (.int k' b)).run P w=.ok () w:=by unfold eqG eqGuard;cases c<;>simp[jW]
def zdK(c:BinOp)(a b:Bool):(eqG c t cx cy (.bool a) (.bool b)).run P w=.ok () w:=by unfold eqG eqGuard;cases c<;>simp[jW]
variable {k:IntKind}{a b:Int}
def aU(h:K (.bool (decide (a=b))) w):bin P .eql t cx cy (.int k a) (.int k b) K w:=by
 refine eH (pI ..) ?_ h
 have:(a==b)=decide (a=b):=by by_cases c:a=b<;>simp[c]
 simp[binOp,Op.intCmp,jW,this]
def bo(h:K (.bool (decide (a≠b))) w):bin P .neq t cx cy (.int k a) (.int k b) K w:=by
 refine eH (pI ..) ?_ h
 have:(a != b)=decide (a≠b):=by by_cases c:a=b<;>simp[c]
 simp only[binOp,Op.intCmp,ne_eq,not_true_eq_false,if_false,jW,this]
def aW(h:K (.bool (decide (a<b))) w):bin P .lss t cx cy (.int k a) (.int k b) K w:=by refine eH (pI ..) ?_ h;simp[binOp,Op.intCmp,jW]
def kq(h:K (.bool (decide (a<=b))) w):bin P .leq t cx cy (.int k a) (.int k b) K w:=by refine eH (pI ..) ?_ h;simp[binOp,Op.intCmp,jW]
def dE(h:K (.bool (decide (b<a))) w):bin P .gtr t cx cy (.int k a) (.int k b) K w:=by refine eH (pI ..) ?_ h;simp[binOp,Op.intCmp,jW]
def cJ(h:K (.bool (decide (b<=a))) w):bin P .geq t cx cy (.int k a) (.int k b) K w:=by refine eH (pI ..) ?_ h;simp[binOp,Op.intCmp,jW]
def ze(h:K (.int k (k.wrap (a+b))) w):bin P .add t cx cy (.int k a) (.int k b) K w:=by refine eH (pI ..) ?_ h;simp[binOp,Op.intArith,jW]
def nT(h:K (.int k (k.wrap (a-b))) w):bin P .sub t cx cy (.int k a) (.int k b) K w:=by refine eH (pI ..) ?_ h;simp[binOp,Op.intArith,jW]
def UU(h:K (.int k (k.wrap (a*b))) w):bin P .mul t cx cy (.int k a) (.int k b) K w:=by refine eH (pI ..) ?_ h;simp[binOp,Op.intArith,jW]
def aY(c : -9223372036854775808<=a+b)(d:a+b<=9223372036854775807)(h:K (.int .i64 (a+b)) w):bin P .add t cx cy (.int .i64 a) (.int .i64 b) K w :=
 ze (by rw[eY c d];exact h)
def aP(h:K (.int .i64 (a+b)) w)(c : -9223372036854775808<=a+b:=by omega)(d:a+b<=9223372036854775807:=by omega):bin P .add t cx cy (.int .i64 a) (.int .i64 b) K w:=aY c d h
def co(c : -9223372036854775808<=a-b)(d:a-b<=9223372036854775807)(h:K (.int .i64 (a-b)) w):bin P .sub t cx cy (.int .i64 a) (.int .i64 b) K w :=
 nT (by rw[eY c d];exact h)
def sP(h:K (.int .i64 (a-b)) w)(c : -9223372036854775808<=a-b:=by omega)(d:a-b<=9223372036854775807:=by omega):bin P .sub t cx cy (.int .i64 a) (.int .i64 b) K w:=co c d h
def MY(c : -9223372036854775808<=a*b)(d:a*b<=9223372036854775807)(h:K (.int .i64 (a*b)) w):bin P .mul t cx cy (.int .i64 a) (.int .i64 b) K w :=
 UU (by rw[eY c d];exact h)
def zfD(c:b≠0)(h:K (.int k (a.tmod b)) w):bin P .rem t cx cy (.int k a) (.int k b) K w:=by refine eH (pI ..) ?_ h;simp[binOp,Op.intDiv,jW,c]
def ZO(c:b≠0)(h:K (.int k (k.wrap (a.tdiv b))) w):bin P .quo t cx cy (.int k a) (.int k b) K w:=by refine eH (pI ..) ?_ h;simp[binOp,Op.intDiv,jW,c]
def LH(c:0<=a)(d:0<b)(h:K (.int k (a%b)) w):bin P .rem t cx cy (.int k a) (.int k b) K w :=
 zfD oo (by rw[Int.tmod_eq_emod_of_nonneg c];exact h)
def Uu(c:0<=a)(d:a<=9223372036854775807)(e:0<b)(h:K (.int .i64 (a / b)) w):bin P .quo t cx cy (.int .i64 a) (.int .i64 b) K w :=
 ZO oo (by
  rw[Int.tdiv_eq_ediv_of_nonneg c,eY (Int.le_trans oo (Int.ediv_nonneg c oo)) (Int.le_trans (Int.ediv_le_self b c) d)];exact h)
def Dr(c:0<=b)(h:K (.int k (k.wrap (a*2 ^ (min b.toNat k.bits)))) w):bin P .shl t cx cy (.int k a) (.int k' b) K w:=by
 refine eH (pI ..) ?_ h
 have : ¬b<0:=by omega
 simp[binOp,Op.shift,jW,this]
def He(c:0<=b)(h:K (.int k (a.fdiv (2 ^ (min b.toNat k.bits)))) w):bin P .shr t cx cy (.int k a) (.int k' b) K w:=by
 refine eH (pI ..) ?_ h
 have : ¬b<0:=by omega
 simp[binOp,Op.shift,jW,this]
def rC(c:BinOp)(k:IntKind)(x y:Int):Int :=
 let a:=BitVec.ofInt k.bits x
 let b:=BitVec.ofInt k.bits y
 match c with
 | .and=>k.wrap (a &&& b).toNat
 | .or=>k.wrap (a ||| b).toNat
 | .xor=>k.wrap (a ^^^ b).toNat
 | _=>k.wrap (a &&& ~~~b).toNat
def US(h:K (.int k (rC .and k a b)) w):bin P .and t cx cy (.int k a) (.int k b) K w:=by refine eH (pI ..) ?_ h;simp[binOp,Op.intBits,jW,rC]
def To(h:K (.int k (rC .or k a b)) w):bin P .or t cx cy (.int k a) (.int k b) K w:=by refine eH (pI ..) ?_ h;simp[binOp,Op.intBits,jW,rC]
def Qc(h:K (.int k (rC .xor k a b)) w):bin P .xor t cx cy (.int k a) (.int k b) K w:=by refine eH (pI ..) ?_ h;simp[binOp,Op.intBits,jW,rC]
def zdz{x y:Bool}(h:K (.bool (x != y)) w)(a:P.underlying t=some .bool):bin P .neq t cx cy (.bool x) (.bool y) K w:=by refine eH (zdK ..) ?_ h;simp only[binOp,jX,run_equal_bool w t x y a,jU,jW];rfl
def bH{x:Bool}(h:K (.bool (!x)) w):un P .not (.bool x) K w:=by unfold un;exact eJ (by simp[Op.unary,jW]) h
def xI{p:Prop}[Decidable p](h:K (.bool (decide (¬p))) w):un P .not (.bool (decide p)) K w :=
 bH (by rw[<-decide_not];exact h)
def ziL(h:K (.int k (rC .xor k (if k.signed then -1 else k.max) a)) w):un P .xor (.int k a) K w:=by unfold un;exact eJ (by simp only[Op.unary,Op.intBits,jW];rfl) h
def dP{s d:TypeId}{b:TypeDesc}(e:P.underlying s=some b)(c:P.underlying d=some (.int k'))(h:K (.int k' (k'.wrap a)) w):conv P s d (.int k a) K w:=by
 unfold conv
 refine eJ (w':=w) ?_ h;cases b<;>simp[convert,jY e,jY c,Conv.intToInt,jW]
def te{vs:Array oF}{v:oF}(a:vs[i]? = some v)(h:K v w):ext P (.tuple vs) i K w:=by unfold ext;exact eJ (by simp[Instr.extract,a,jW]) h
def bK{a b:oF}(h:K a w):ext P (.tuple #[a,b]) 0 K w:=te rfl h
def bJ{a b:oF}(h:K b w):ext P (.tuple #[a,b]) 1 K w:=te rfl h
def TQ{a b c:oF}(h:K a w):ext P (.tuple #[a,b,c]) 0 K w:=te rfl h
def TR{a b c:oF}(h:K b w):ext P (.tuple #[a,b,c]) 1 K w:=te rfl h
def TS{a b c:oF}(h:K c w):ext P (.tuple #[a,b,c]) 2 K w:=te rfl h
def bR{x y:oF}{p:Prop}[Decidable p](a:p)(h:K x w):pick (.bool (decide p)) x y K w:=⟨_,rfl,by simp[a,h]⟩
def bG{x y:oF}{p:Prop}[Decidable p](a : ¬p)(h:K y w):pick (.bool (decide p)) x y K w:=⟨_,rfl,by simp[a,h]⟩
def dD{x y:oF}(h:K x w):pick (.bool true) x y K w:=⟨_,rfl,h⟩
def cA{x y:oF}(h:K y w):pick (.bool false) x y K w:=⟨_,rfl,h⟩
def Ow{p:Prop}[Decidable p]{A B:Prop}(a:p->A)(b : ¬p->B):cond (.bool (decide p)) A B:=⟨_,rfl,λh=>a (by simpa using h),λh=>b (by simpa using h)⟩
def aG{p:Prop}[Decidable p]{A B:Prop}(b:p)(h:A):cond (.bool (decide p)) A B:=⟨_,rfl,λ_=>h,λa=>qI b (by simpa using a)⟩
def aB{p:Prop}[Decidable p]{A B:Prop}(b : ¬p)(h:B):cond (.bool (decide p)) A B:=⟨_,rfl,λa=>qI (by simpa using a) b,λ_=>h⟩
def cOt{p:Prop}[Decidable p]{A B:Prop}(h:A)(a:p:=by omega):cond (.bool (decide p)) A B:=aG a h
def cOf{p:Prop}[Decidable p]{A B:Prop}(h:B)(a : ¬p:=by omega):cond (.bool (decide p)) A B:=aB a h
def bc{A B:Prop}(h:A):cond (.bool true) A B:=⟨_,rfl,λ_=>h,(λa=>by cases a)⟩
def aD{A B:Prop}(h:B):cond (.bool false) A B:=⟨_,rfl,(λa=>by cases a),λ_=>h⟩
def zhv{c:Bool}{A B:Prop}(a:c=true->A)(b:c=false->B):cond (.bool c) A B:=⟨c,rfl,a,b⟩
def ah{s:KV->oG->Prop}{k:KV}{v:oF}(h:∀K:KV,K v w->s K w)(a:k v w):sti s k w:=⟨v,h _ ⟨rfl,rfl⟩,a⟩
variable {A B:(oE->oG->Prop)->Prop}{KL:oE->oG->Prop}
def TV{v:oF}(b:v=.bool cx)(h:A KL):aT v cx A B KL:=⟨λ_=>h,λa=>qI (by rw[b];rfl) a⟩
def Lk{v:oF}(b:asB v≠some cx)(h:B KL):aT v cx A B KL:=⟨λa=>qI a b,λ_=>h⟩
def ck{p:Prop}[Decidable p](b:p)(a:A KL):aT (.bool (decide p)) true A B KL:=TV (by simp[b]) a
def dt{p:Prop}[Decidable p](b : ¬p)(a:B KL):aT (.bool (decide p)) true A B KL:=Lk (by simp[asB,b]) a
def kW{p:Prop}[Decidable p](b:p)(a:B KL):aT (.bool (decide p)) false A B KL:=Lk (by simp[asB,b]) a
def dL{p:Prop}[Decidable p](b : ¬p)(a:A KL):aT (.bool (decide p)) false A B KL:=TV (by simp[b]) a
def my(a:A KL):aT (.bool true) true A B KL:=TV rfl a
def iQ(a:B KL):aT (.bool true) false A B KL:=Lk (by simp[asB]) a
def eK(a:A KL):aT (.bool false) false A B KL:=TV rfl a
def js(a:B KL):aT (.bool false) true A B KL:=Lk (by simp[asB]) a
def ao{f:FuncId}{a:Array oF}(b:Kr P f)(h:Gives P f a w K):call P f a K w:=⟨b,h⟩
def rD{c:Builtin}{b:Array TypeId}{cs:Array Bool}{a:Array oF}{v:oF}(d:(builtin c b E cs a).run P w=.ok (.value v) w')(h:K v w'):blt P c b E cs a K w:=by unfold blt;rw[d];exact h
def bM{cs:Array Bool}{n:Nat}(a:P.underlying t=some (.slice e))(h:K (.int .i64 (n:Int)) w):blt P .len #[t] E cs #[.slice av n c] K w :=
 rD (by rw[BigFrame.builtin_len];simp[Builtin.len_,jY a,jW,goInt]) h
theorem ZN {e ty : TypeId} {cs : Array Bool} {base : Nat} {i : TypeInfo} {z : Value} {bytes : Nat} (ht : P.underlying t = some (.slice e)) (hi : P.info? e = some i) (hz : i.zero = some z)
    (hsize : i.size = 1) (hby : i.bytes = bytes) (hzs : z.cells.size = 1)
    {av : Option Addr} {n c : Nat} {xs : List Value} (hown : OV w base e av n c xs) {a2 : Option Addr} {m c2 : Nat} {ys : List Value} (hy : RV w a2 m c2 ys) (h1 : ∀ u ∈ ys, u.oneCell' = true)
    (hbytes : (n + m) * bytes ≤ 140737488355328) (h63 : n + m ≤ 9223372036854775807) (hbase : base ≤ w.heap.size)
    (h : ∀ a' c' w', OV w' base e a' (n + m) c' (xs ++ ys) → w.grownBy w' (Value.slice av n c).ownBlock → K (.slice a' (n + m) c') w') :
    blt P .append #[t, t] ty cs #[.slice av n c, .slice a2 m c2] K w := by
  obtain ⟨a', c', w', hr, h2, h3⟩ := Xj (P := P) w base t ty e i z bytes ht hi hz hsize hby hzs hown hy h1 hbytes h63 hbase
  exact rD (by rw [BigFrame.builtin_append]; simp only [Sem.run_bind, hr, Result.andThen_ok, Sem.run_pure]) (h a' c' w' h2 h3)

def Ll(j:P.underlying t=some (.slice e))(i:∀w,(sizeOf e).run P w=.ok 1 w){n:Nat}(d:0<=x)(f:x<n)(a:0<n->∃b o,av=some ⟨b,o,none⟩)(h:K (.pointer (some (rV av x.toNat))) w):bv P t (.slice av n c) (.int k x) K w:=by
 obtain⟨b,o,rfl⟩:=a oo;have g:((⟨b,o,none⟩:Addr).add x.toNat)=⟨b,o+x.toNat,none⟩:=by unfold Addr.add;split<;>simp_all
 unfold bv;refine eJ (w':=w) ?_ h;simp only[Instr.indexAt,asIntOf,jX,jW,jU,jY j,i,d,f,and_self,if_true,Nat.mul_one,g];rfl
def Ua{a:Addr}{v:oF}(b:(loadVar t a).run P w=.ok v w)(h:K v w):ld P t (.pointer (some a)) K w:=by unfold ld;exact eJ (by simp only[Instr.loadAt,Instr.sureAddr,jX,jW,jU,b]) h
def ux{a:Addr}{v:oF}(b:∀w,(isAgg t).run P w=.ok false w)(c:w.cell? a=some v)(h:K v w):ld P t (.pointer (some a)) K w:=by refine Ua ?_ h;simp[loadVar,jX,b,load,c,Sem.run]
def zeT{ad:Addr}{v u:oF}(e:∀w,(sizeOf t).run P w=.ok 1 w)(g:v.oneCell'=true)(a:v.cells=#[v])(c:w.cell? ad=some u)(d:w.frozen? ad=false)(f:ad.spot=none)(h:K undef (w.setCell ad v)):sto P t (.pointer (some ad)) v K w:=by unfold sto;have b:ad.add 0=ad:=rfl;refine Uo (w':=w.setCell ad v) (u:=()) ?_ h;simp[Instr.storeAt,Instr.sureAddr,storeVar,jX,e,a,storeCells,store,b,c,d];cases v<;>simp_all [Value.oneCell',Sem.run]
def ziE(z:P.underlying t=some (.slice e))(x:∀w,(sizeOf e).run P w=.ok 1 w){n:Nat}{l:Nat}(q:RV w av n c xs){d hi:Option oF}(j:(d=none/\l=0)\/∃k,d=some (.int k (l:Int)))(g:(hi=none/\m=n)\/∃k,hi=some (.int k (m:Int)))(b:l<=m)(o:m<=n)(h:∀p,RV w p (m-l) (c-l) ((xs.take m).drop l)->K (.slice p (m-l) (c-l)) w):slc P t (.slice av n c) d hi none K w:=by
 have v:=q.cap;have f:∀(k:IntKind) (i y:Nat) (a:BoundsCode),i<=y->(Instr.sliceBound (.int k (i:Int)) y a).run P w=.ok i w:=by
  intro k i y a hi
  have:=run_sliceBound (P:=P) w k (i:Int) y a oo oo
  simpa using this
 have u:(Instr.sliceBounds true n c d hi none).run P w=.ok (l,m,c) w:=by
  rcases j with⟨rfl,rfl⟩|⟨s,rfl⟩<;>rcases g with⟨rfl,rfl⟩|⟨r,rfl⟩
  .simp[Instr.sliceBounds]
  .simp[Instr.sliceBounds,f r m c _ oo]
  .simp[Instr.sliceBounds,f s l m _ b]
  .simp[Instr.sliceBounds,f r m c _ oo,f s l m _ b]
 unfold slc;refine eJ (w':=w) ?_ (h _ (q.cut l m c b oo o oA));simp only[Instr.sliceAt,Instr.slice,jX,jW,jU,jY z,x,u]
def zf6{i:TypeInfo}{z:oF}(d:P.underlying t=some (.slice e))(hi:P.info? e=some i)(g:i.zero=some z)(a:i.size=1)(c:z.cells.size=1){v:oF}(f:v.cells=#[v])(h:RV (w.alloc (.cells #[v] e)) (some ⟨w.heap.size,0,none⟩) 1 1 [v]->K (.slice (some ⟨w.heap.size,0,none⟩) 1 1) (w.alloc (.cells #[v] e))):cH P t 1 #[(0,v)] K w:=by
 unfold cH;refine eJ (zbr w t e i z d hi g a c v f) (h ⟨rfl,Nat.le_refl _,λ_=>⟨_,_,rfl⟩,(λh=>by simp at h),λj u b=>?_⟩)
 have:j=0:=by
  have:=(gS b).1
  simpa using this
 subst this;simp at b;subst b;rw[uR,World.cell?_alloc_at _ _ _ _ rfl];rfl
theorem zjW {e : TypeId} {base : Nat} {i : TypeInfo} {z : Value} {bytes : Nat} (ht : P.underlying t = some (.slice e)) (hi : P.info? e = some i) (hz : i.zero = some z) (hsize : i.size = 1) (hby : i.bytes = bytes)
    {kl kc : IntKind} {C : Int} {n : Nat} (hC : C = (n : Int)) (b2 : bytes * n ≤ 281474976710656) (b3 : n ≤ 9223372036854775807) (hbase : base ≤ w.heap.size)
    (h : ∀ a' w', OV w' base e a' 0 n [] → Below w.heap.size w w' → K (.slice a' 0 n) w') : mkS P t (.int kl 0) (.int kc C) K w := by
  subst hC
  obtain ⟨w', hrun, r1, r2⟩ := run_make_own (P := P) w base t e i z 1 ht hi hz hsize kl kc n (by rw [hby]; exact b2) (by simp only [maxLen]; omega) hbase
  unfold mkS
  exact eJ hrun (h _ w' r1 (cS r2 (Nat.le_refl _) (fun k hk => by cases hk)))
def zj4{i:TypeInfo}{base:Nat}(j:P.underlying t=some (.slice e))(hi:P.info? e=some i)(b:i.size=1)(a:base<=w.heap.size)(h:∀c w',OV w' base e c 0 0 []->Below w.heap.size w w'->K (.slice c 0 0) w'):cH P t 0 #[] K w:=by
 unfold cH;refine eJ (w':=w.alloc (.cells #[] e)) (v:=.slice (some ⟨w.heap.size,0,none⟩) 0 0) ?_ (h _ _ (World.ownsRow_made w #[] 0 a (qG _) rfl) (cS (World.grownBy_alloc _ _ none) oA (λk g=>by cases g)));have d:∀f:oD,(Array.range 0).map f=#[]:=λf=>by apply Array.ext<;>simp
 simp[Instr.buildSlice,Instr.fill,jY j,sizeOf,typeInfo,hi,b,newRow,d]
def XX{n:Nat}(a:P.underlying t=some (.slice e))(h:K (.bool av.isNone) w):bin P .eql t cx cy (.slice av n c) (.slice none 0 0) K w:=by refine eH (by unfold eqG eqGuard;simp[jW]) ?_ h;simp only[binOp,jX,run_equal_slice_nil w t e av n c a,jU,jW]
def VN{n:Nat}(h:n<72057594037927936)(g:c<256):rC .or .u64 (IntKind.u64.wrap ((n:Int)*2 ^ (min (8:Int).toNat IntKind.u64.bits))) (c:Int)=((n*256+c:Nat):Int):=by
 have e:(2:Int) ^ (min (8:Int).toNat IntKind.u64.bits)=256:=rfl;rw[e,gu];have d:((n:Int)*256)%18446744073709551616=((n*256:Nat):Int):=by omega
 rw[d];unfold rC;have f:IntKind.u64.bits=64:=rfl;simp only[f,gu]
 have:(BitVec.ofInt 64 ((n*256:Nat):Int) ||| BitVec.ofInt 64 ((c:Nat):Int)).toNat=n*256+c:=by
  rw[BitVec.toNat_or,BitVec.ofInt_natCast,BitVec.ofInt_natCast,BitVec.toNat_ofNat,BitVec.toNat_ofNat];rw[Nat.mod_eq_of_lt oo,Nat.mod_eq_of_lt oo];have a:=Nat.shiftLeft_add_eq_or_of_lt (i:=8) (b:=c) oo n;rw[Nat.shiftLeft_eq]at a;rw[<-a]
 show ((BitVec.ofInt 64 ((n*256:Nat):Int) ||| BitVec.ofInt 64 ((c:Nat):Int)).toNat:Int)%18446744073709551616=_;rw[this];omega
def Hq:Nat->oE->List (Nat×oF)
 | _,[]=>[]
 | k,v::vs=>(k,v)::Hq (k+1) vs
def zaW(z:oF):∀(vs:oE) (a:oE) (b:Nat),(∀v∈vs,v.cells=#[v])->vs.length<=b ->
  Instr.fill (λi=>some (i*1,1)) (a++List.replicate b z).toArray (Hq a.length vs)=some (a++vs++List.replicate (b-vs.length) z).toArray:=by
 intro vs
 induction vs with
 | nil=>intro a b _ _;simp[Hq,Instr.fill]
 | cons v vs ih =>
  intro a b f k;simp only[oZ]at k;obtain⟨d,rfl⟩:∃s,b=s+1:=⟨b-1,by omega⟩
  have h:=f v (oL ..);have e:=ih (a++[v]) d (λx l=>f x (oH _ l)) oo;simp only[oT,oZ,List.length_nil,oK]at e;simp only[Hq,Instr.fill,h];rw[oI oB]
  have:(#[v].zipIdx.foldl (λg (c,j)=>g.setIfInBounds (a.length*1+j) c) (a++List.replicate (d+1) z).toArray)=(a++[v]++List.replicate d z).toArray:=by
   simp[List.replicate_succ]
  rw[this,e];simp[jD]
def zbs{i:TypeInfo}{z:oF}(m:P.underlying t=some (.slice e))(hi:P.info? e=some i)(o:i.zero=some z)(a:i.size=1)(f:z.cells=#[z])(vs:oE)(l:vs.length≠0)(h:vs.length<=1000000)(n:∀v∈vs,v.cells=#[v]):(Instr.buildSlice t vs.length (Hq 0 vs).toArray).run P w=.ok (.slice (some ⟨w.heap.size,0,none⟩) vs.length vs.length) (w.alloc (.cells vs.toArray e)):=by
 have c:(Array.range (vs.length*1)).map (λk=>z.cells[k%z.cells.size]!)=(([]:oE)++List.replicate vs.length z).toArray:=by
  rw[f];apply Array.ext
  .simp
  .intro j p q;simp[Nat.mod_one]
 have b:=zaW z vs [] vs.length n oA;simp only[List.length_nil,oV,jO,List.replicate_zero,oW]at b c;have g : ¬(16777216<vs.length):=by omega
 have d:¬vs=[]:=λe=>l (by rw[e];rfl);simp only[Nat.mul_one]at c b;rw[List.toArray_replicate]at b c;simp[Instr.buildSlice,jY m,sizeOf,typeInfo,hi,a,zeroValue,o,newRow,c,b,d,g]
def ZP{i:TypeInfo}{z:oF}{n:Nat}{f:Array (Nat×oF)}(l:n=vs.length)(c:f=(Hq 0 vs).toArray)(m:P.underlying t=some (.slice e))(hi:P.info? e=some i)(p:i.zero=some z)(a:i.size=1)(d:z.cells=#[z])(g:vs.length≠0)(b:vs.length<=1000000)(o:∀v∈vs,v.cells=#[v])(h:OV (w.alloc (.cells vs.toArray e)) w.heap.size e (some ⟨w.heap.size,0,none⟩) vs.length vs.length vs->Below w.heap.size w (w.alloc (.cells vs.toArray e)) ->
   K (.slice (some ⟨w.heap.size,0,none⟩) vs.length vs.length) (w.alloc (.cells vs.toArray e))):cH P t n f K w:=by subst l c;unfold cH;refine eJ (zbs m hi p a d vs g b o) (h ⟨by simp,.inr ⟨w.heap.size,vs.length,vs.toArray,rfl,Nat.le_refl _,heap_alloc_new w _,Nat.le_refl _,?_,by simp,by simp⟩⟩ (cS (World.grownBy_alloc _ _ none) oA (λk j=>by cases j)));simp only[maxLen];omega
end
def blk(w:oG)(b:Nat)(E:TypeId)(cs:oE):Prop:=w.heap[b]? = some (.cells cs.toArray E (0,0))
def blk.lt{cs:oE}(h:blk w b E cs):b<w.heap.size:=(qM.1 h).1
def blk.ne{b':Nat}{cs:oE}(h:blk w b E cs)(a:blk w b' t xs)(c:E≠t):b≠b':=by rintro rfl;unfold blk at *;rw[h]at a;simp only[qD,Obj.cells.injEq]at a;exact c a.2.1
def blk.cell{cs:oE}(h:blk w b E cs)(o:Nat):w.cell? ⟨b,o,none⟩=cs[o]? := by
 unfold World.cell?;rw[h];simp
def blk.frozen{cs:oE}(h:blk w b E cs)(o:Nat):w.frozen? ⟨b,o,none⟩=false:=by unfold World.frozen?;rw[h];simp
structure Keep(T:List TypeId) (B:Nat) (w w':oG):Prop where
 os:w'.os=w.os
 tape:w'.tape=w.tape
 output:w'.output=w.output
 size:w.heap.size<=w'.heap.size
 block:∀(k:Nat) (o:Obj),w.heap[k]? = some o->(k<B\/∀cs E z,o=.cells cs E z->E∉T)->w'.heap[k]? = some o
def Keep.trans{T:List TypeId}{B:Nat}{a b c:oG}(h:Keep T B a b)(k:Keep T B b c):Keep T B a c :=
 ⟨k.os.trans h.os,k.tape.trans h.tape,k.output.trans h.output,qR h.size k.size,λi o e d=>k.block i o (h.block i o e d) d⟩
def Keep.mono{T T':List TypeId}{B:Nat}(h:Keep T B w S)(c:∀t∈T,t∈T')(b:B'<=B):Keep T' B' w S :=
 ⟨h.os,h.tape,h.output,h.size,λk o g d=>h.block k o g (d.elim (λh=>.inl (qQ h b)) (λh=>.inr λa E z e f=>h a E z e (c E f)))⟩
def Keep.of{T:List TypeId}{B:Nat}(h:Below w.heap.size w S):Keep T B w S :=
 ⟨h.os,h.tape,h.output,h.size,λk o a _=>by rw[h.block k (qM.1 a).1];exact a⟩
def Keep.below{T:List TypeId}{B:Nat}(h:Keep T B w S)(c:B<=w.heap.size):Below B w S :=
 ⟨h.os,h.tape,h.output,h.size,λk b=>by
  have a:k<w.heap.size:=by omega
  rw[h.block k _ (Array.getElem?_eq_getElem a) (.inl b),Array.getElem?_eq_getElem a]⟩
def Keep.undrew{T:List TypeId}{B:Nat}{a:oG}(h:Keep T B a.drew w):Keep T B a w:=⟨h.os,h.tape,h.output,h.size,h.block⟩
def Keep.blk{T:List TypeId}{B:Nat}{cs:oE}(h:Keep T B w S)(c:blk w b E cs)(a:b<B\/E∉T):blk S b E cs :=
 h.block _ _ c (a.imp id λh a E z e=>by cases e;exact h)
def ae{B:Nat}{cs:oE}(h:Below B w S)(c:blk w b E cs)(a:b<B):blk S b E cs:=by unfold Go.Proofs.YtgohpbmmcgenpaaGreatDoor.blk;rw[h.block b a];exact c
def blk.drew{cs:oE}(h:blk w b E cs):blk w.drew b E cs:=h
structure Oth(b:Nat) (w w':oG):Prop where
 os:w'.os=w.os
 tape:w'.tape=w.tape
 output:w'.output=w.output
 size:w'.heap.size=w.heap.size
 other:∀k,k≠b->w'.heap[k]? = w.heap[k]?
def Oth.blk{k:Nat}{cs:oE}(h:Oth b w S)(a:blk w k E cs)(c:k≠b):blk S k E cs:=by unfold Go.Proofs.YtgohpbmmcgenpaaGreatDoor.blk;rw[h.other k c];exact a
def Oth.keep{T:List TypeId}{B:Nat}{cs:oE}(h:Oth b w S)(d:Go.Proofs.YtgohpbmmcgenpaaGreatDoor.blk w b E cs)(e:E∈T)(f:B<=b):Keep T B w S :=
 ⟨h.os,h.tape,h.output,by rw[h.size];exact Nat.le_refl _,λk o c a=>by
  have:k≠b:=by
   rintro rfl;rcases a with a|a
   .omega
   .unfold Go.Proofs.YtgohpbmmcgenpaaGreatDoor.blk at d;rw[d]at c;cases c;exact a _ _ _ rfl e
  rw[h.other k this];exact c⟩
def Oth.below(h:Oth b w S):Below b w S :=
 ⟨h.os,h.tape,h.output,by rw[h.size];exact Nat.le_refl _,λk a=>h.other k oo⟩
def Keep.grown{T:List TypeId}{B:Nat}{n:Nat}(b:w.grownBy S (Value.slice a n c).ownBlock)(p:w.ownsRow B2 E s (.slice a n c) n xs)(l:E∈T)(q:B<=B2):Keep T B w S :=
 ⟨b.os,b.tape,b.output,b.size,λk o d h=>by
  have e:k<w.heap.size:=(qM.1 d).1;rw[b.block k e ?_];exact d;rcases p.2 with⟨f,_⟩|⟨g,i,j,f,r,m,_⟩
  .cases f;simp[Value.ownBlock]
  .cases f;simp only[Value.ownBlock,ne_eq,qD];rintro rfl;rcases h with h|h
   .omega
   .rw[m]at d;cases d;exact h _ _ _ rfl l⟩
section
variable  {K:KV}     {cs:oE}

def yZ(b o j:Nat):(⟨b,o,none⟩:Addr).add j=⟨b,o+j,none⟩:=Addr.add_mid b o j
def au{a:Addr}(h:K (.pointer (some a)) w):bj (.pointer (some a)) K w:=h
def ld1{v:oF}(a:∀w,(isAgg t).run P w=.ok false w)(c:blk w b E cs)(d:cs[o]? = some v)(h:K v w):ld P t (pA b o) K w :=
 ux a (by rw[c.cell,d]) h
abbrev bW(w w':oG):Prop:=Below w.heap.size w w'
theorem ivS {k : Nat} : Value.int .i64 ((k : Int) + 1) = .int .i64 ((k + 1 : Nat) : Int) := congrArg (Value.int .i64) (by push_cast; rfl)
def cZ{k:Nat}{cs:oE}(h:blk w k E (Value.agg cs.toArray).cells.toList):blk w k E cs:=by simpa[Value.cells]using h
def lK{v:oF}(c:blk w b E cs)(d:cs[o]? = some v)(h:K v w)(a:∀w,(isAgg t).run P w=.ok false w:=by intro _;kernel_rfl):ld P t (pA b o) K w:=ld1 a c d h
def ldA{n:Nat}{d:TypeDesc}(i:P.underlying t=some d)(e:d.isRow=true)(hi:(P.info? t).map (·.size)=some n)(c:blk w b E cs)(k:(cs.drop o).take n=vs)(g:vs.length=n)(h:K (.agg vs.toArray) w):ld P t (pA b o) K w:=by
 refine Ua (run_loadVar_mid w b o t vs d ?_ i e (by rw[g];exact hi)) h;intro j v a;rw[c.cell];subst k;have f:=(gS a).1;rw[List.getElem?_take]at a;split at a
 .rw[jM]at a;exact a
 .cases a
def dw{v:oF}(i:∀w,(sizeOf t).run P w=.ok 1 w)(a:blk w b E cs)(g:o<cs.length)(d:v.oneCell'=true)(h:∀S,blk S b E (cs.set o v)->Oth b w S->K undef S):sto P t (pA b o) v K w:=by
 have e:w.cell? ⟨b,o,none⟩=some cs[o]:=by rw[a.cell,gE g]
 have c:v.cells=#[v]:=by cases v<;>first|rfl|simp[Value.oneCell']at d
 refine zeT i d c e (a.frozen o) rfl (h _ ?_ ⟨rfl,rfl,rfl,by simp[World.setCell],λk f=>Below.heap_setCell _ _ _ _ f⟩);unfold blk at *;simp only[World.setCell,Array.getElem?_modify];rw[oJ trivial,a];simp
def LP(b:Nat):∀(vs:oE) (o:Nat) (w:oG),Oth b w (w.setCells b o vs):=by
 intro vs
 induction vs with
 | nil=>intro o w;exact⟨rfl,rfl,rfl,rfl,λ_ _=>rfl⟩
 | cons v vs ih =>
  intro o w;have h:=ih (o+1) (w.setCell ⟨b,o,none⟩ v);rw[World.setCells];exact⟨h.os,h.tape,h.output,by rw[h.size];simp[World.setCell],λk a=>(h.other k a).trans (Below.heap_setCell _ _ _ _ a)⟩
def PO:∀(vs:oE) (o:Nat) (w:oG) (cs:oE),blk w b E cs->o+vs.length<=cs.length->blk (w.setCells b o vs) b E (cs.take o++vs++cs.drop (o+vs.length)):=by
 intro vs
 induction vs with
 | nil=>intro o w cs h c;rw[World.setCells];simpa using h
 | cons v vs ih =>
  intro o w cs h c;rw[World.setCells];simp only[oZ]at c;have f:blk (w.setCell ⟨b,o,none⟩ v) b E (cs.set o v):=by
   unfold blk at *;simp only[World.setCell,Array.getElem?_modify];rw[oJ trivial,h];simp
  have a:=ih (o+1) _ _ f (by simp;omega)
  have:(cs.set o v).take (o+1)++vs++(cs.set o v).drop (o+1+vs.length)=cs.take o++(v::vs)++cs.drop (o+(vs.length+1)):=by
   have e:cs.set o v=cs.take o++v::cs.drop (o+1):=by rw[List.set_eq_take_append_cons_drop,oJ oo]
   have d:(cs.take o).length=o:=by rw[qA];omega
   rw[e,List.take_append,qS,d,List.take_take,List.drop_take];simp only[show min (o+1) o=o by omega,show o+1-o=1 by omega,List.take_succ_cons,qX,show o-(o+1+vs.length)=0 by omega,oV,show o+1+vs.length-o=vs.length+1 by omega,List.drop_succ_cons,List.drop_drop,
    show o+1+vs.length=o+(vs.length+1)by omega,jD,jE,qX,show o-(o+(vs.length+1))=0 by omega,show o+(vs.length+1)-o=vs.length+1 by omega,oV,List.drop_succ_cons,List.drop_drop,
    show o+1+vs.length=o+(vs.length+1)by omega]
  rw[this]at a;exact a
def fY{n:Nat}(hi:(P.info? t).map (·.size)=some n)(e:vs.length=n)(a:blk w b E cs)(f:o+n<=cs.length)(c:∀v∈vs,v.oneCell'=true)(h:∀S,blk S b E (cs.take o++vs++cs.drop (o+n))->Oth b w S->K undef S):sto P t (pA b o) (.agg vs.toArray) K w:=by
 subst e;have g:=run_storeAt_mid (P:=P) w b o t vs.toArray (λj d=>⟨by
  rw[a.cell,gE (by simp at d;omega)];rfl,a.frozen _⟩) (by simpa using hi) (by simpa using c)
 unfold sto;exact Uo g (h _ (by simpa using PO vs o w cs a f) (by simpa using LP b vs o w))
def bU{v:oF}(h:∀w',blk w' w.heap.size t v.cells.toList->Below w.heap.size w w'->w'.heap.size=w.heap.size+1->K (pA w.heap.size 0) w'):box P t v K w:=by
 unfold box;refine eJ (w':=w.alloc (.cells v.cells t)) (v:=pA w.heap.size 0) ?_ (h _ ?_ (cS (World.grownBy_alloc _ _ none) oA (λk a=>by cases a)) oB)
 .simp[Instr.box,newVar,newRow]
 .unfold blk;rw[heap_alloc_new]
def cD{z:oF}(a:(P.info? t).bind (·.zero)=some z)(h:∀w',blk w' w.heap.size t z.cells.toList->Below w.heap.size w w'->w'.heap.size=w.heap.size+1->K (pA w.heap.size 0) w'):alc P t K w:=by
 obtain⟨i,b,a⟩:=Option.bind_eq_some_iff.1 a;unfold alc;refine eJ (w':=w.alloc (.cells z.cells t)) (v:=pA w.heap.size 0) ?_ (h _ ?_ (cS (World.grownBy_alloc _ _ none) oA (λk c=>by cases c)) oB)
 .simp[Instr.alloc,zeroValue,typeInfo,b,a,newVar,newRow]
 .unfold blk;rw[heap_alloc_new]
def cE{a:Array (Nat×oF)}(b:P.built t a.toList=some vs.toArray)(h:K (.agg vs.toArray) w):bld P t a K w:=by unfold bld;exact eJ (run_build w t a _ b) h
def zdW(P:Program)(s:TypeId)(f:Nat):Option Nat :=
 match P.underlying s with
 | some (.struct fs) =>
  match fs[f]? with
  | some fd=>match P.info? fd.type with
   | some i=>match Nat.beq i.size 0 with|true=>none|false=>some fd.offset
   | none=>none
  | none=>none
 | _=>none
def aQ{off:Nat}(a:zdW P t f=some off)(h:K (pA b (o+off)) w):aq P t (pA b o) f K w:=by
 unfold zdW at a;split at a
 .rename_i n m;split at a
  .rename_i j d;split at a
   .rename_i i k;split at a
    .cases a
    .rename_i g;cases a;have l:(sizeOf j.type).run P w=.ok i.size w:=by simp[sizeOf,typeInfo,k]
     have c:¬i.size=0:=λe=>by rw[e]at g;exact qI g dc
     unfold aq;refine eJ (w':=w) ?_ h;simp only[Instr.fieldAt,jX,jY m,jU,d,Instr.sureAddr,jW,fieldPlace,l,c,if_false,yZ]
   .cases a
  .cases a
 .cases a
def zff(P:Program)(s:TypeId)(f:Nat):Option (Nat×Nat×Bool) :=
 match P.underlying s with
 | some (.struct fs) =>
  match fs[f]? with
  | some fd=>match P.info? fd.type,P.underlying fd.type with
   | some i,some d=>some (fd.offset,i.size,d.isRow)
   | _,_=>none
  | none=>none
 | _=>none
def zhL{off n:Nat}{v:oF}(a:zff P t f=some (off,n,false))(k:cs[off]? = some v)(h:K v w):fld P t (.agg cs.toArray) f K w:=by
 unfold zff at a;split at a
 .rename_i l j;split at a
  .rename_i c b;split at a
   .rename_i i d m g;simp only[qD,jH]at a;obtain⟨rfl,rfl,o⟩:=a;have e:(isAgg c.type).run P w=.ok false w:=by
     unfold isAgg;rw[jX,jY g w];cases d<;>simp_all [TypeDesc.isRow]
    unfold fld;refine eJ (w':=w) ?_ h;simp only[Instr.field,jX,jY j,jU,b,asAgg,jW,part,e];simp[k]
   .cases a
  .cases a
 .cases a
def fB{n:Nat}{k:IntKind}{i:Int}(f:P.underlying t=some (.array n e))(d:∀w,(sizeOf e).run P w=.ok s w)(a:0<=i)(c:i<n)(h:K (pA b (o+i.toNat*s)) w):bv P t (pA b o) (.int k i) K w:=by unfold bv;refine eJ (w':=w) ?_ h;simp only[Instr.indexAt,asIntOf,Instr.sureAddr,jX,jW,jU,jY f,d,a,c,and_self,if_true,yZ]
def gO{n:Nat}{k:IntKind}{i:Int}(g:P.underlying t=some (.slice e))(f:∀w,(sizeOf e).run P w=.ok s w)(a:0<=i)(d:i<n)(h:K (pA b (o+i.toNat*s)) w):bv P t (.slice (some ⟨b,o,none⟩) n c) (.int k i) K w:=by unfold bv;refine eJ (w':=w) ?_ h;simp only[Instr.indexAt,asIntOf,Instr.sureAddr,jX,jW,jU,jY g,f,a,d,and_self,if_true,yZ]
def iR{n:Nat}{k:IntKind}{i:Int}(g:P.underlying t=some (.slice e))(h:K (pA b (o+i.toNat*s)) w)(f:∀w,(sizeOf e).run P w=.ok s w:=by intro _;kernel_rfl)(a:0<=i:=by omega)(d:i<n:=by omega):bv P t (.slice (some ⟨b,o,none⟩) n c) (.int k i) K w:=gO g f a d h
def UH(d:P.underlying t=some (.slice e))(b:∀w,(sizeOf e).run P w=.ok s w){n:Nat}{k:IntKind}(f:m<=c)(h:K (.slice av m c) w):slc P t (.slice av n c) none (some (.int k (m:Int))) none K w:=by
 have a:(Instr.sliceBounds true n c none (some (.int k (m:Int))) none).run P w=.ok (0,m,c) w:=by
  have:=run_sliceBound (P:=P) w k (m:Int) c .sliceAcap oo oo
  simp[Instr.sliceBounds]at this |-;rw[this];simp
 unfold slc;refine eJ (w':=w) ?_ h;simp only[Instr.sliceAt,Instr.slice,jX,jW,jU,jY d,b,a];cases av<;>simp[Addr.add]
def ziD(g:P.underlying t=some (.slice e))(f:∀w,(sizeOf e).run P w=.ok s w){n q:Nat}{k:IntKind}(i:m<=q)(j:q<=c)(h:K (.slice av m q) w):slc P t (.slice av n c) none (some (.int k (m:Int))) (some (.int k' (q:Int))) K w:=by
 have d:(Instr.sliceBounds true n c none (some (.int k (m:Int))) (some (.int k' (q:Int)))).run P w=.ok (0,m,q) w:=by
  have a:=run_sliceBound (P:=P) w k' (q:Int) c .slice3Acap oo oo;have b:=run_sliceBound (P:=P) w k (m:Int) q .slice3B oo oo;simp[Instr.sliceBounds]at a b |-;rw[a];simp[b]
 unfold slc;refine eJ (w':=w) ?_ h;simp only[Instr.sliceAt,Instr.slice,jX,jW,jU,jY g,f,d];cases av<;>simp[Addr.add]
def qb{n:Nat}{g:Array (Nat×oF)}(vs:oE)(q:P.underlying t=some (.slice e))(hi:(P.info? e).map (·.size)=some s)(u:((P.info? e).bind (·.zero)).isSome=true)(p:0<s)(o:n=vs.length)(y:vs.length≠0)(j:n*s<=16777216)(d:g.toList=(vs.zipIdx 0).map λx=>(x.2,x.1))(r:∀v∈vs,v.cells.size=s)(h:∀S,blk S w.heap.size e (vs.flatMap λv=>v.cells.toList)->Below w.heap.size w S->S.heap.size=w.heap.size+1->K (.slice (some ⟨w.heap.size,0,none⟩) n n) S):cH P t n g K w:=by
 subst o;obtain⟨b,c,f⟩:∃b,P.info? e=some b/\b.size=s:=by
  cases i:P.info? e with
  | none=>rw[i]at hi;cases hi
  | some b=>rw[i]at hi;exact⟨b,rfl,by simpa using hi⟩
 obtain⟨z,a⟩:=Option.isSome_iff_exists.1 u;rw[c]at a;have a:b.zero=some z:=a;subst f;have l:=Go.Great.fill_whole p vs ((Array.range (vs.length*b.size)).map (z.cells[· % z.cells.size]!)) r oB;unfold cH
 refine eJ (run_buildSlice (P:=P) w t e vs.length g _ b z q c a oo (by intro h;rcases Nat.mul_eq_zero.1 h with h|h<;>omega) (by rw[d];exact l)) (h _ ?_ (cS (World.grownBy_alloc _ _ none) oA (λk m=>by cases m)) oB);unfold blk;rw[heap_alloc_new]
def cB{f:FuncId}{first a b all:Array oF}(c:first++a++b=all)(h:call P f all K w):bS P (.func (.func f) first b) a K w:=⟨f,first,b,rfl,by rw[c];exact h⟩
def ZM{ty:TypeId}{cs:Array Bool}{base:Nat}{i:TypeInfo}{z:oF}(L:P.underlying t=some (.slice e))(hi:P.info? e=some i)(N:i.zero=some z)(f:i.size=s)(r:i.bytes=b)(C:z.cells.size=s)(x:0<s){n:Nat}(o:w.ownsRow base e s (.slice av n c) n xs){q:Nat}{zs:oE}(M:blk w g E zs)(A:ys.length=m*s)(B:(zs.drop q).take (m*s)=ys)(G:∀u∈ys,u.oneCell'=true)(a:(n+m)*b<=140737488355328)(I:n+m<=9223372036854775807)(d:base<=w.heap.size)(h:∀k c' S,S.ownsRow base e s (.slice k (n+m) c') (n+m) (xs++ys)->w.grownBy S (Value.slice av n c).ownBlock->K (.slice k (n+m) c') S):blt P .append #[t,t] ty cs #[.slice av n c,.slice (some ⟨g,q,none⟩) m c2] K w:=by
  have v:∀j u,ys[j]? = some u->w.cell? ((⟨g,q,none⟩:Addr).add j)=some u:=by
    intro j u l;rw[yZ,M.cell];subst B;rw[List.getElem?_take]at l;split at l
    · rw[jM]at l;exact l
    · cases l
  obtain⟨O,S,J,D,H,_⟩:=run_append_own (P:=P) w base t ty e i z s b L hi N f r C x _ n xs o ⟨g,q,none⟩ m c2 ys A v G (by simp only[maxLen];omega) a d;obtain⟨k,c',rfl⟩:∃k c',O=.slice k (n+m) c':=by
    rcases D.2 with⟨y,v⟩|⟨g,p,F,y,_⟩
    · exact⟨none,0,by rw[y,v]⟩
    · exact⟨_,p,y⟩
  exact rD (by rw[BigFrame.builtin_append];simp only[jX,J,jU,jW]) (h k c' S D H)

def zdv{i:TypeInfo}{z:oF}(A:P.underlying t=some (.slice e))(hi:P.info? e=some i)(O:i.zero=some z)(a:i.size=1)(r:i.bytes=b)(J:z.cells.size=1){n:Nat}(p:RV w av n n xs)(s:RV w a2 m c2 ys)(d:(n+m)*b<=140737488355328)(U:n+m<=9223372036854775807)(h:∀B c' w',((B=av/\c'=n/\m=0)\/∃S,blk w' w.heap.size e (xs++ys++S)/\(n+m)+S.length=c'/\B=some ⟨w.heap.size,0,none⟩)->Below w.heap.size w w'->K (.slice B (n+m) c') w'):blt P .append #[t,t] E K0 #[.slice av n n,.slice a2 m c2] K w:=by
  by_cases W:m=0
  · subst W
    refine rD (v:=.slice av (n+0) n) (w':=w) ?_ (h av n w (.inl ⟨rfl,rfl,rfl⟩) (jT _ _));rw[BigFrame.builtin_append];have X:ys=[]:=List.eq_nil_of_length_eq_zero s.len;cases a2 with
    | none=>cases av<;>simp[Builtin.append_,jY A,sizeOf,typeInfo,hi,Builtin.lenOf,Builtin.firstCells,storeCells]
    | some ad=>cases av<;>simp[Builtin.append_,jY A,sizeOf,typeInfo,hi,Builtin.lenOf,Builtin.firstCells,storeCells,loadCells,loadCellsFrom]
  obtain⟨C,L,rfl⟩:=s.some_ oo;have f:∀j u,ys[j]? = some u->w.cell? ((⟨C,L,none⟩:Addr).add j)=some u:=by
    intro j u y
    have:=s.cell j u y
    rw[yZ];exact this
  have l:∀k c:Nat,k*b<=140737488355328->c<k->Builtin.nextslicecap k c*i.bytes<=281474976710656:=by
    intro k c N Z;have T:Builtin.nextslicecap k c<=2*k:=by
      have:=nextslicecap_le (need:=k) (old:=c) oo
      omega
    calc _<=2*k*i.bytes:=Nat.mul_le_mul_right _ T
      _<=_:=by rw[r,Nat.mul_assoc];omega
  have q:∀(old:Nat),blk (w.drew.alloc (.cells (xs.toArray++ys.toArray++Builtin.zeroCells z.cells (grownCap w (n+m) old e-(n+m))) e)) w.heap.size e (xs++ys++(Builtin.zeroCells z.cells (grownCap w (n+m) old e-(n+m))).toList):=by
    intro old;unfold blk
    have:=heap_alloc_new w.drew (.cells (xs.toArray++ys.toArray++Builtin.zeroCells z.cells (grownCap w (n+m) old e-(n+m))) e)
    rw[show w.drew.heap.size=w.heap.size from rfl]at this;rw[this];simp
  have x:∀k,(Builtin.zeroCells z.cells k).toList.length=k:=by intro k;rw[Array.length_toList,size_zeroCells,J];omega
  have g:∀R,Below w.heap.size w (w.drew.alloc R):=λR=>⟨rfl,rfl,rfl,by simp,λk N=>Below.heap_alloc w.drew _ _ N⟩
  cases av with
  | none =>
    obtain⟨rfl, -⟩:=p.nil_ rfl;have I:xs=[]:=List.eq_nil_of_length_eq_zero p.len;subst I;have G:=run_append_nil (P:=P) w t E e i z A hi O ⟨C,L,none⟩ m c2 ys (by rw[a,s.len];omega) f oo oo (by rw[r];rw[oK]at d;omega);have F:=grownCap_ge w m 0 e;have M:=q 0;simp only[oK,oV]at M h |-
    have o:=h (some ⟨w.heap.size,0,none⟩) (grownCap w m 0 e) (w.drew.alloc (.cells (ys.toArray++Builtin.zeroCells z.cells (grownCap w m 0 e-m)) e))
      (.inr ⟨_,by simpa using M,by rw[x];omega,rfl⟩) (g _)
    exact rD (by rw[BigFrame.builtin_append];simp only[jX,G,jU,jW]) o
  | some ad =>
    have H:∀j v,xs[j]? = some v->w.cell? (ad.add j)=some v:=by
      intro j v y;have V:=(gS y).1;obtain⟨Y,o1,D⟩:=p.some_ (by have:=p.len;omega);cases D;rw[yZ];exact p.cell j v y
    have G:=run_append_grow (P:=P) w t E e i z A hi O ad n n xs (by rw[a,p.len];omega) H ⟨C,L,none⟩ m c2 ys (by rw[a,s.len];omega) f oo oo (l _ _ d oo);have F:=grownCap_ge w (n+m) n e;have o:=h (some ⟨w.heap.size,0,none⟩) (grownCap w (n+m) n e) _ (.inr ⟨_,q n,by rw[x];omega,rfl⟩) (g _)
    exact rD (by rw[BigFrame.builtin_append];simp only[jX,G,jU,jW]) o

def ac{S:oG->Prop}{s:KV->oG->Prop}{k:oF->Prop}{v:oF}(h:∀w,S w->∀K:KV,K v w->s K w)(a:k v):hld S s k:=⟨v,λw b=>h w b _ ⟨rfl,rfl⟩,a⟩
def ax{b:(oG->Prop)->oG->Prop}(S:oG->Prop)(a:S w)(h:b S w):aL b w:=⟨S,a,h⟩
end
def qp{v:oF}{S:oG->Prop}{s:KV->oG->Prop}{k:oF->Prop}{x:oF}(c:asB v=some cx)(h:∀w,S w->∀K:KV,K x w->s K w)(b:k x):hG v cx S s k :=
 ⟨x,λ_ w d=>h w d _ ⟨rfl,rfl⟩,λa=>qI c a,b⟩
def Zp{v:oF}{s:KV->oG->Prop}{K:KV}(b:asB v=some cx)(h:s K w):xG v cx s K w:=⟨λ_=>h,λa=>qI b a⟩
def Xn{p:Prop}[Decidable p](a:p):asB (.bool (decide p))=some true:=by show some (decide p)=some true;rw[qF a]
def zj1{p:Prop}[Decidable p](a : ¬p):asB (.bool (decide p))=some false:=by show some (decide p)=some false;rw[qE a]
section
variable  {K:KV}  

def Uf{a:Array TypeId}{cs:Array Bool}{k:IntKind}{y:Int}(h:K (.int k (if x<y then y else x)) w):blt P .max a E cs #[.int k x,.int k' y] K w :=
 rD (v:=.int k (if x<y then y else x)) (w':=w) (by rw[BigFrame.builtin_max];simp[Builtin.max_,Builtin.max2,jW]) h
def zb7{a:Array TypeId}{cs:Array Bool}{k:IntKind}{y:Int}(h:K (.int k (if y<x then y else x)) w):blt P .min a E cs #[.int k x,.int k' y] K w :=
 rD (v:=.int k (if y<x then y else x)) (w':=w) (by rw[BigFrame.builtin_min];simp[Builtin.min_,Builtin.min2,jW]) h
end
section
variable    {K:KV} 

def ze5(g:P.underlying t=some (.slice e))(f:∀w,(sizeOf e).run P w=.ok 1 w){n:Nat}{k:IntKind}{v:oF}(a:RV w av n c vs)(d:0<=x)(b:vs[x.toNat]? = some v)(h:w.cell? (rV av x.toNat)=some v->K (.pointer (some (rV av x.toNat))) w):bv P t (.slice av n c) (.int k x) K w:=by have i:=(gS b).1;exact Ll g f d (by rw[<-a.len];omega) a.some_ (h (a.cell _ _ b))
def Oo{x y:Bool}(b:P.underlying t=some .bool)(a:x=y)(h:K (.bool false) w):bin P .neq t cx cy (.bool x) (.bool y) K w:=by refine zdz ?_ b;rw[a];simpa using h
end
section
open Go.ChangeMaps Go.MapKept
structure Hs(P:Program) (k:TypeId) {κ:Type} (kv:κ->oF):Prop where
 inj:∀x y,kv x=kv y->x=y
 chk:∀w em x,(Instr.checkKey em 10000 k (kv x)).run P w=.ok () w
 find:∀(w:oG) x (es:List MapEntry),(∀e∈es,∃y,e.key=kv y) ->
  ((Instr.findKey k (kv x) es).run P w=.ok none w/\∀e∈es,e.key≠kv x)\/∃j e,(Instr.findKey k (kv x) es).run P w=.ok (some (j,e.val)) w/\es[j]? = some e/\e.key=kv x
 stays:∀(w:oG) x,(Instr.keyThatStays (kv x) (kv x)).run P w=.ok (kv x) w
section
variable  {k:TypeId}
def Yx{q:IntKind}(hk:P.underlying k=some (.int q)):Hs P k (Value.int q) where
 inj x y h:=by simpa using h
 chk w em x:=by
  show (Instr.checkKey em (9999+1) k _).run P w=_;rw[Instr.checkKey];simp[jY hk]
 stays w x:=by
  have:Instr.sameBits 10000 (.int q x) (.int q x)=true:=by unfold Instr.sameBits;simp
  unfold Instr.keyThatStays;rw[oJ this,jW]
 find w x es hes:=by
  have key:∀(es:List MapEntry) (i:Nat),(∀e∈es,∃y,e.key=Value.int q y)->(Instr.findNow (.int q) (.int q x) es i=some none/\∀e∈es,e.key≠.int q x)\/∃j e,Instr.findNow (.int q) (.int q x) es i=some (some (i+j,e.val))/\es[j]? = some e/\e.key=.int q x:=by
   intro es
   induction es with
   | nil=>intro i _;exact .inl ⟨rfl,by simp⟩
   | cons e es ih =>
    intro i hes;obtain⟨y,hy⟩:=hes e oB;by_cases hxy:x=y
    .subst hxy;exact .inr ⟨0,e,by simp[Instr.findNow,Instr.sameNow,hy],rfl,hy⟩
    .have hne:e.key≠.int q x:=by rw[hy];simpa using λh=>hxy h.symm
     have hb:(x==y)=false:=by simpa using hxy
     rcases ih (i+1) (λa b => hes a (by simp[b]))with⟨h1,h2⟩|⟨j,e',h1,h2,h3⟩
     .refine .inl ⟨by simp[Instr.findNow,Instr.sameNow,hy,hb,h1],λe' he'=>?_⟩;rcases oO.1 he' with rfl|he'
      .exact hne
      .exact h2 e' he'
     .exact .inr ⟨j+1,e',by simp[Instr.findNow,Instr.sameNow,hy,hb,h1];omega,by simpa using h2,h3⟩
  rcases key es 0 hes with⟨h1,h2⟩|⟨j,e,h1,h2,h3⟩
  .exact .inl ⟨by simp[Instr.findKey,jY hk,h1],h2⟩
  .exact .inr ⟨j,e,by simp[Instr.findKey,jY hk,h1],h2,h3⟩
def Xz{kv:κ->oF}(fs:Array Field)(hk:P.underlying k=some (.struct fs))(hagg:∀x,∃cs,kv x=.agg cs)(inj:∀x y,kv x=kv y->x=y)(chk:∀w em x,(Instr.checkKey em 10000 k (kv x)).run P w=.ok () w)(eq:∀(w:oG) x y,∃b:Bool,(Op.equal k (kv x) (kv y)).run P w=.ok b w/\(b=true↔kv x=kv y))(same:∀x,Instr.sameBits 10000 (kv x) (kv x)=true):Hs P k kv where
 inj:=inj
 chk:=chk
 stays w x:=by unfold Instr.keyThatStays;rw[oJ (same x),jW]
 find w x es hes:=by
  have key:∀(es:List MapEntry) (i:Nat),(∀e∈es,∃y,e.key=kv y)->((Instr.findAsking k (kv x) es i).run P w=.ok none w/\∀e∈es,e.key≠kv x)\/∃j e,(Instr.findAsking k (kv x) es i).run P w=.ok (some (i+j,e.val)) w/\es[j]? = some e/\e.key=kv x:=by
   intro es
   induction es with
   | nil=>intro i _;exact .inl ⟨by simp[Instr.findAsking],by simp⟩
   | cons e es ih =>
    intro i hes;obtain⟨y,hy⟩:=hes e oB;obtain⟨b,hb,hbe⟩:=eq w x y;cases b with
    | true =>
     have:=hbe.1 rfl
     exact .inr ⟨0,e,by simp[Instr.findAsking,hy,hb],rfl,by rw[hy,this]⟩
    | false =>
     have hne:e.key≠kv x:=by rw[hy];intro h;exact qI (hbe.2 h.symm) oB
     rcases ih (i+1) (λa b => hes a (by simp[b]))with⟨h1,h2⟩|⟨j,e',h1,h2,h3⟩
     .refine .inl ⟨by simp[Instr.findAsking,hy,hb,h1],λe' he'=>?_⟩;rcases oO.1 he' with rfl|he'
      .exact hne
      .exact h2 e' he'
     .exact .inr ⟨j+1,e',by simp[Instr.findAsking,hy,hb,h1];omega,by simpa using h2,h3⟩
  have hfk:(Instr.findKey k (kv x) es).run P w=(Instr.findAsking k (kv x) es).run P w:=by
   obtain⟨cs,hcs⟩:=hagg x;cases es with
   | nil=>simp[Instr.findKey,jY hk,Instr.findNow,Instr.findAsking]
   | cons e es=>simp[Instr.findKey,jY hk,Instr.findNow,Instr.sameNow]
  rw[hfk];rcases key es 0 hes with⟨h1,h2⟩|⟨j,e,h1,h2,h3⟩
  .exact .inl ⟨h1,h2⟩
  .exact .inr ⟨j,e,by simpa using h1,h2,h3⟩
end
section
variable {ν:Type}[DecidableEq κ]
def dZ:List (κ×ν)->κ->Option ν
 | [],_=>none
 | p::m,x=>if p.1=x then some p.2 else dZ m x
def vf:List (κ×ν)->κ->ν->List (κ×ν)
 | [],x,v=>[(x,v)]
 | p::m,x,v=>if p.1=x then (x,v)::m else p::vf m x v
def wF{m:List (κ×ν)}{x:κ}:dZ m x=none↔x∉m.map (·.1):=by
 induction m with
 | nil=>simp[dZ]
 | cons p m ih =>
  by_cases h:p.1=x
  .simp[dZ,h]
  .have : ¬x=p.1:=λe=>h e.symm
   simp only[dZ,h,if_false,ih,jK,oO,this,false_or]
def wZ{m:List (κ×ν)}{x:κ}{v:ν}(h:dZ m x=some v):(x,v)∈m:=by
 induction m with
 | nil=>simp[dZ]at h
 | cons p m ih =>
  by_cases a:p.1=x
  .simp only[dZ,a,if_true,qD]at h;subst h;subst a;simp
  .simp only[dZ,a,if_false]at h;exact oH _ (ih h)
def nD{m:List (κ×ν)}{x:κ}{v:ν}(a:(m.map (·.1)).Nodup)(h:(x,v)∈m):dZ m x=some v:=by
 induction m with
 | nil=>simp at h
 | cons p m ih =>
  simp only[jK,jF]at a;rcases oO.1 h with rfl|h
  .simp[dZ]
  .have b : ¬p.1=x:=by
    rintro rfl;exact a.1 (qT.2 ⟨_,h,rfl⟩)
   simp only[dZ,b,if_false];exact ih a.2 h
def zcr{m:List (κ×ν)}{x:κ}{v:ν}:(vf m x v).map (·.1)=if x∈m.map (·.1)then m.map (·.1)else m.map (·.1)++[x]:=by
 induction m with
 | nil=>simp[vf]
 | cons p m ih =>
  by_cases h:p.1=x
  .simp[vf,h]
  .have a : ¬x=p.1:=λe=>h e.symm;simp only[vf,h,if_false,jK,ih,oO,a,false_or];split<;>simp
def Cz{m:List (κ×ν)}{x:κ}{v:ν}(h:(m.map (·.1)).Nodup):((vf m x v).map (·.1)).Nodup:=by
 rw[zcr];split
 .exact h
 .rename_i e;rw[List.nodup_append];refine⟨h,by simp,λa d b c=>?_⟩;simp at c;subst c;rintro rfl;exact e d
def MX{m:List (κ×ν)}{x y:κ}{v:ν}:dZ (vf m x v) y=if y=x then some v else dZ m y:=by
 induction m with
 | nil =>
  by_cases h:y=x
  .subst h;simp[vf,dZ]
  .have : ¬x=y:=λe=>h e.symm
   simp[vf,dZ,h,this]
 | cons p m ih =>
  by_cases h:p.1=x
  .by_cases b:y=x
   .subst b;simp[vf,dZ,h]
   .have c : ¬x=y:=λe=>b e.symm;have d : ¬p.1=y:=by rw[h];exact c
    simp[vf,dZ,h,b,c]
  .by_cases a:p.1=y
   .have b : ¬y=x:=λe=>h (a.trans e);simp[vf,dZ,h,a,b]
   .simp[vf,dZ,h,a,ih]
def YJ{m:List (κ×ν)}{x:κ}{v c:ν}(a:(m.map (·.1)).Nodup)(h:m[j]? = some (x,c)):vf m x v=m.set j (x,v):=by
 induction m generalizing j with
 | nil=>simp at h
 | cons p m ih =>
  simp only[jK,jF]at a;cases j with
  | zero=>simp at h;subst h;simp[vf]
  | succ j =>
   simp at h;have b : ¬p.1=x:=by
    rintro rfl;exact a.1 (qT.2 ⟨_,mO h,rfl⟩)
   simp[vf,b,ih a.2 h]
end
section
variable {ν:Type}
structure MBs(kv:κ->oF) (vv:ν->oF) (w:oG) (b:Nat) (m:List (κ×ν)) (es:Array MapEntry) (clock:Nat):Prop where
 heap:w.heap[b]? = some (.map es clock)
 keys:es.toList.map (·.key)=m.map λp=>kv p.1
 vals:es.toList.map (·.val)=m.map λp=>vv p.2
 nodup:(m.map (·.1)).Nodup
 born:(es.toList.map (·.born)).Pairwise (· < ·)
 old:∀e∈es.toList,e.born<clock
def MB(kv:κ->oF)(vv:ν->oF)(w:oG)(b:Nat)(m:List (κ×ν)):Prop:=∃a clock,MBs kv vv w b m a clock
variable {kv:κ->oF}{vv:ν->oF}   {m:List (κ×ν)}{es:Array MapEntry}{clock:Nat}
def MBs.len(h:MBs kv vv w b m es clock):es.size=m.length:=by
 have:=qH List.length h.keys
 simpa using this
def MBs.get(h:MBs kv vv w b m es clock){e:MapEntry}(f:es.toList[i]? = some e):∃p,m[i]? = some p/\e.key=kv p.1/\e.val=vv p.2:=by
 have a:=qH (λl=>l[i]?) h.keys;have c:=qH (λl=>l[i]?) h.vals;simp only[qC,f,jP]at a c;cases d:m[i]? with
 | none=>rw[d]at a;simp at a
 | some p =>
  rw[d]at a c;simp at a c;exact⟨p,rfl,a,c⟩
def MBs.keyed(h:MBs kv vv w b m es clock):∀e∈es.toList,∃y,e.key=kv y:=by intro e c;obtain⟨i,d,rfl⟩:=List.getElem_of_mem c;obtain⟨p,_,a,_⟩:=h.get (gE d);exact⟨p.1,a⟩
def MB.lt(h:MB kv vv w b m):b<w.heap.size:=by obtain⟨a,c,h⟩:=h;exact(qM.1 h.heap).1
def MB.kept(h:MB kv vv w b m)(d:S.heap[b]? = w.heap[b]?):MB kv vv S b m:=by obtain⟨a,c,h⟩:=h;exact⟨a,c,d.trans h.heap,h.keys,h.vals,h.nodup,h.born,h.old⟩
def MB.below(h:MB kv vv w b m)(a:Below w.heap.size w S):MB kv vv S b m:=h.kept (a.block b h.lt)
def MB.oth(h:MB kv vv w b m)(c:Oth g w S)(a:b≠g):MB kv vv S b m:=h.kept (c.other b a)
variable  {K:KV}{k:TypeId}
def xa{r:Option oF}(c:P.underlying t=some (.map k e))(b:r=none)(kv:κ->oF)(vv:ν->oF)(h:∀w',MB kv vv w' w.heap.size ([]:List (κ×ν))->Below w.heap.size w w'->w'.heap.size=w.heap.size+1->K (.map (some w.heap.size)) w'):fK P t r K w:=by subst b;unfold fK;refine eJ (w':=w.alloc (.map #[] 0)) (v:=.map (some w.heap.size)) (by simp[Instr.makeMap]) (h _ ⟨#[],0,heap_alloc_new w _,rfl,rfl,by simp,by simp,by simp⟩ (cS (World.grownBy_alloc _ _ none) oA (λk a=>by cases a)) oB)
def zb6{cs:Array Bool}(f:P.underlying t=some (.map k e))(a:MB kv vv w b m)(h:K (.int .i64 (m.length:Int)) w):blt P .len #[t] E cs #[.map (some b)] K w:=by obtain⟨g,c,a⟩:=a;have d:=a.len;refine rD (v:=.int .i64 (m.length:Int)) (w':=w) ?_ h;rw[BigFrame.builtin_len];simp[Builtin.len_,jY f,MapKept.run_getObj_map a.heap,Result.andThen,d,goInt]
def Qo{o:Obj}(a:w.heap[b]? = some (.map es clock)):Oth b w (setBlock w b o) :=
 ⟨rfl,rfl,rfl,by simp[setBlock],λi c=>heap_setBlock_other a o c⟩
end
section
variable {ν:Type}[DecidableEq κ]{kv:κ->oF}{vv:ν->oF}   {m:List (κ×ν)}{es:Array MapEntry}{clock:Nat}
variable  {K:KV}{k:TypeId}
def MBs.find{k:TypeId}(h:MBs kv vv w b m es clock)(K:Hs P k kv)(x:κ):(dZ m x=none/\(Instr.findKey k (kv x) es.toList).run P w=.ok none w/\∀e∈es.toList,e.key≠kv x) \/
  ∃j e v,dZ m x=some v/\(Instr.findKey k (kv x) es.toList).run P w=.ok (some (j,vv v)) w/\es.toList[j]? = some e/\e.key=kv x/\e.val=vv v/\m[j]? = some (x,v):=by
 rcases K.find w x es.toList h.keyed with⟨d,a⟩|⟨j,e,d,a,i⟩
 .refine .inl ⟨wF.2 λf=>?_,d,a⟩;obtain⟨p,c,rfl⟩:=qT.1 f
  have:kv p.1∈es.toList.map (·.key):=by rw[h.keys];exact qT.2 ⟨p,c,rfl⟩
  obtain⟨e,n,o⟩:=qT.1 this;exact a e n o
 .obtain⟨p,c,l,g⟩:=h.get a;have f:p.1=x:=K.inj _ _ (l.symm.trans i);obtain⟨r,q⟩:=p;cases f;exact .inr ⟨j,e,q,nD h.nodup (mO c),by rw[<-g];exact d,a,i,g,c⟩
def Sg{z0:ν}(KK:Hs P k kv)(g:P.underlying t=some (.map k e))(i:∀w,(zeroValue e).run P w=.ok (vv z0) w)(a:MB kv vv w b m){x:κ}(h:K (vv ((dZ m x).getD z0)) w):lkp P t (.map (some b)) (kv x) false K w:=by
 obtain⟨n,c,a⟩:=a;unfold lkp;rcases a.find KK x with⟨d,f,_⟩|⟨j,l,v,d,f,_⟩
 .rw[d]at h;exact eJ (w':=w) (v:=vv z0) (by simp[Instr.lookup,jY g,MapKept.run_getObj_map a.heap,KK.chk,f,i,Result.andThen]) h
 .rw[d]at h;exact eJ (w':=w) (v:=vv v) (by simp[Instr.lookup,jY g,MapKept.run_getObj_map a.heap,KK.chk,f,Result.andThen]) h
def YC{z0:ν}(KK:Hs P k kv)(g:P.underlying t=some (.map k e))(i:∀w,(zeroValue e).run P w=.ok (vv z0) w)(a:MB kv vv w b m){x:κ}(h:K (.tuple #[vv ((dZ m x).getD z0),.bool (dZ m x).isSome]) w):lkp P t (.map (some b)) (kv x) true K w:=by
 obtain⟨n,c,a⟩:=a;unfold lkp;rcases a.find KK x with⟨d,f,_⟩|⟨j,l,v,d,f,_⟩
 .rw[d]at h;exact eJ (w':=w) (by simp[Instr.lookup,jY g,MapKept.run_getObj_map a.heap,KK.chk,f,i,Result.andThen]) h
 .rw[d]at h;exact eJ (w':=w) (by simp[Instr.lookup,jY g,MapKept.run_getObj_map a.heap,KK.chk,f,Result.andThen]) h
def vK(KK:Hs P k kv)(G:P.underlying t=some (.map k e))(d:MB kv vv w b m){x:κ}{v:ν}(h:∀w',MB kv vv w' b (vf m x v)->Oth b w w'->K undef w'):fJ P t (.map (some b)) (kv x) (vv v) K w:=by
 obtain⟨s,c,d⟩:=d;unfold fJ;rcases d.find KK x with⟨B,n,y⟩|⟨j,e0,S,B,n,y,I,O,A⟩
 .refine Uo (u:=()) (w':=setBlock w b (.map (s.push ⟨kv x,vv v,c⟩) (c+1))) (by simp[Instr.mapUpdate,jY G,MapKept.run_getObj_map d.heap,KK.chk,n,MapKept.run_setObj_map _ d.heap,Result.andThen,setBlock]) (h _ ?_ (Qo d.heap));have F:=wF.1 B;have q:vf m x v=m++[(x,v)]:=by
   clear h n y B d
   induction m with
   | nil=>rfl
   | cons p m ih =>
    simp only[jK,oO,not_or]at F;have M : ¬p.1=x:=λe=>F.1 e.symm;simp[vf,M,ih F.2]
  rw[q];refine⟨_,_,heap_setBlock_same d.heap _,by simp[d.keys],by simp[d.vals],?_,?_,?_⟩
  .rw[<-q];exact Cz d.nodup
  .rw[Array.toList_push,jJ,List.pairwise_append];refine⟨d.born,by simp,λa J N z=>?_⟩;obtain⟨r,f,rfl⟩:=qT.1 J;simp at z;subst z;exact d.old r f
  .intro r f;simp only[Array.toList_push,oU,List.mem_singleton]at f;rcases f with f|rfl
   .exact Nat.lt_succ_of_lt (d.old r f)
   .exact Nat.lt_succ_self c
 .have L:s[j]? = some e0:=by rw[<-Array.getElem?_toList];exact y
  have E:=KK.stays w x;refine Uo (u:=()) (w':=setBlock w b (.map (s.modify j λe=>{e with key:=kv x,val:=vv v}) c)) (by simp[Instr.mapUpdate,jY G,MapKept.run_getObj_map d.heap,KK.chk,n,L,I,E,MapKept.run_setObj_map _ d.heap,Result.andThen,setBlock]) (h _ ?_ (Qo d.heap));rw[YJ d.nodup A]
  have o:((s.modify j λe=>{e with key:=kv x,val:=vv v}).toList.map (·.born))=s.toList.map (·.born):=by
   rw[Array.toList_modify];apply List.ext_getElem?;intro i;simp only[qC,List.getElem?_modify];cases R:s.toList[i]? with
   | none=>simp
   | some r=>by_cases g:j=i<;>simp[g]
  refine⟨_,c,heap_setBlock_same d.heap _,?_,?_,?_,by rw[o];exact d.born,?_⟩
  .rw[Array.toList_modify];apply List.ext_getElem?;intro i;have n:=qH (λl=>l[i]?) d.keys;simp only[qC,List.getElem?_modify,List.getElem?_set]at n |-;by_cases g:j=i
   .subst g;rw[y]at n |-
    have:=(gS A).1
    simp[this]
   .simpa[g]using n
  .rw[Array.toList_modify];apply List.ext_getElem?;intro i;have n:=qH (λl=>l[i]?) d.vals;simp only[qC,List.getElem?_modify,List.getElem?_set]at n |-;by_cases g:j=i
   .subst g;rw[y]at n |-
    have:=(gS A).1
    simp[this]
   .simpa[g]using n
  .rw[<-YJ d.nodup A];exact Cz d.nodup
  .intro r f
   have:r.born∈s.toList.map (·.born):=by rw[<-o];exact qT.2 ⟨r,f,rfl⟩
   obtain⟨H,D,C⟩:=qT.1 this;rw[<-C];exact d.old H D
end
def wG{κ:Type}[DecidableEq κ]:∀{l l':List κ},l.Nodup->(∀x∈l,x∈l')->l.length<=l'.length
 | [],_,_,_=>by simp
 | x::l,l',hn,hs=>by
  have b:x∈l':=hs x oB;simp only[jF]at hn
  have:=wG (l:=l) (l':=l'.erase x) hn.2 λy c=>by
   have a:y≠x:=by rintro rfl;exact hn.1 c
   exact(List.mem_erase_of_ne a).2 (hs y (by simp[c]))
  rw[List.length_erase_of_mem b]at this;have d:=List.length_pos_of_mem b;simp only[oZ];omega
section
variable {ν:Type}
variable {kv:κ->oF}{vv:ν->oF}  {r:Nat}{m:List (κ×ν)}{x:κ} 
def IT(kv:κ->oF)(vv:ν->oF)(w:oG)(r b:Nat)(m:List (κ×ν))(done:List κ):Prop :=
 ∃f c a d c0,MBs kv vv w b m f c/\w.heap[r]? = some (.mapIter (some b) a d c0)/\(∀e∈f.toList,e.born<a)/\a<=c0/\a<=c /\
  (∀(i:Nat) (e:MapEntry) (p:κ×ν),f.toList[i]? = some e->m[i]? = some p->(d.contains e.born=true↔p.1∈done))/\done.Nodup/\∀x∈done,x∈m.map (·.1)
variable {done:List κ}
def IT.kept(h:IT kv vv w r b m done)(k:S.heap[b]? = w.heap[b]?)(l:S.heap[r]? = w.heap[r]?):IT kv vv S r b m done:=by obtain⟨i,c,a,f,g,d,j,e⟩:=h;exact⟨i,c,a,f,g,⟨k.trans d.heap,d.keys,d.vals,d.nodup,d.born,d.old⟩,l.trans j,e⟩
def IT.lt(h:IT kv vv w r b m done):r<w.heap.size/\b<w.heap.size:=by obtain⟨i,c,a,d,g,e,f,_⟩:=h;exact⟨(qM.1 f).1,(qM.1 e.heap).1⟩
def IT.below(h:IT kv vv w r b m done)(a:Below w.heap.size w S):IT kv vv S r b m done:=h.kept (a.block b h.lt.2) (a.block r h.lt.1)
def IT.nodup(h:IT kv vv w r b m done):done.Nodup/\(m.map (·.1)).Nodup/\∀x∈done,x∈m.map (·.1):=by obtain⟨j,c,a,d,i,e,_,_,_,_,_,f,g⟩:=h;exact⟨f,e.nodup,g⟩
def EN(kv:κ->oF)(vv:ν->oF)(w:oG)(r b:Nat)(x:κ)(v:ν):Prop :=
 ∃(f:Array MapEntry) (a c:Nat) (d:Array Nat) (e:MapEntry),w.heap[b]? = some (.map f a)/\w.heap[r]? = some (.mapIter (some b) c (d.push e.born) a)/\e∈f.toList/\(f.toList.map (·.born)).Nodup/\e.key=kv x/\e.val=vv v
variable  {K:KV}{k:TypeId}
def OF{x:κ}{v:ν}(h:EN kv vv w r b x v)(f:K (.tuple #[kv x,vv v]) w):ent P (pA r 0) K w:=by obtain⟨i,c,a,d,e,k,n,l,m,g,j⟩:=h;unfold ent;rw[<-g, <-j]at f;exact eJ (run_entry_at (P:=P) w r b a d i c e n k l m) f
def PJ(l:P.underlying t=some (.map k e))(a:MB kv vv w b m)(h:∀S,IT kv vv S w.heap.size b m []->Below w.heap.size w S->S.heap.size=w.heap.size+1->K (pA w.heap.size 0) S):rng P t (.map (some b)) K w:=by
 have d:=a.lt;obtain⟨f,c,a⟩:=a;unfold rng;have g:Below w.heap.size w (w.alloc (.mapIter (some b) c #[] c)):=cS (World.grownBy_alloc _ _ none) oA (λk j=>by cases j)
 refine eJ (run_range_map w t k e b f c l a.heap) (h _ ⟨f,c,c,#[],c,⟨?_,a.keys,a.vals,a.nodup,a.born,a.old⟩,heap_alloc_new w _,a.old,Nat.le_refl _,Nat.le_refl _,λi e p n o=>by simp,by simp,by simp⟩ g oB);rw[g.block b d];exact a.heap
def jm(w:oG)(b r:Nat):Nat :=
 match w.heap[b]?,w.heap[r]? with
 | some (.map es _),some (.mapIter _ _ seen _)=>(leftOf es seen).size
 | _,_=>0
def xg{r:Nat}(a:S.heap[b]? = w.heap[b]?)(c:S.heap[r]? = w.heap[r]?):jm S b r=jm w b r:=by unfold jm;rw[a,c]
def Eo(hi:IT kv vv w r b m done)(a:Below w.heap.size w S):jm S b r=jm w b r:=xg (a.block b hi.lt.2) (a.block r hi.lt.1)
def TT{α:Type}{p q:α->Bool}:∀{l:List α} {e:α},e∈l->p e=true->q e=false->(∀x,q x=true->p x=true)->(l.filter q).length<(l.filter p).length
 | a::l,e,f,hp,hq,hs=>by
  have g:∀l:List α,(l.filter q).length<=(l.filter p).length:=by
   intro l
   induction l with
   | nil=>simp
   | cons x l d =>
    by_cases b:q x=true
    .rw[List.filter_cons_of_pos b,List.filter_cons_of_pos (hs x b)];simpa using d
    .rw[List.filter_cons_of_neg b];by_cases c:p x=true
     .rw[List.filter_cons_of_pos c];simp only[oZ];omega
     .rw[List.filter_cons_of_neg c];exact d
  rcases oO.1 f with rfl|f
  .rw[List.filter_cons_of_neg (by simp[hq]),List.filter_cons_of_pos hp]
   have:=g l
   simp only[oZ];omega
  .have d:=TT f hp hq hs;by_cases b:q a=true
   .rw[List.filter_cons_of_pos b,List.filter_cons_of_pos (hs a b)];simpa using d
   .rw[List.filter_cons_of_neg b];by_cases c:p a=true
    .rw[List.filter_cons_of_pos c];simp only[oZ];omega
    .rw[List.filter_cons_of_neg c];exact d
def Po(hi:IT kv vv w r b m done)(F:r≠b)(h0:(∀x∈m.map (·.1),x∈done)->K (.tuple #[.bool false]) w)(h1:∀(x:κ) (v:ν) (w':oG),(x,v)∈m->x∉done->IT kv vv w' r b m (done++[x])->EN kv vv w' r b x v->Oth r w w'->jm w' b r<jm w b r->K (.tuple #[.bool true,kv x,vv v]) w'):nxt P (pA r 0) false E K w:=by
 obtain⟨g,c,d,f,c0,l,Z,B,ab,O,t,Y,R⟩:=hi;unfold nxt;rcases run_next_at (P:=P) w E r b d c0 f g c Z l.heap B ab with⟨hz,n⟩|⟨U,z,T,u,n⟩
 .refine eJ n (h0 λx I=>?_);obtain⟨p,H,rfl⟩:=qT.1 I;obtain⟨i,hi,rfl⟩:=List.getElem_of_mem H;have ac:=l.len;have X:i<g.toList.length:=by simp;omega
  refine(t i g.toList[i] m[i] (gE X) (gE hi)).1 ?_;have o:leftOf g f=#[]:=Array.eq_empty_of_size_eq_zero hz;unfold leftOf at o;rw[Array.filter_eq_empty_iff]at o
  have:=o g.toList[i] oB
  simpa using this
 .have k:U∈g.toList/\f.contains U.born=false:=by
   unfold leftOf at z;simp at z;exact⟨by simpa using z.1,by simpa using z.2⟩
  obtain⟨i,hi,rfl⟩:=List.getElem_of_mem k.1;obtain⟨p,H,ek,ev⟩:=l.get (gE hi);obtain⟨x,v⟩:=p;have S:x∉done:=λI=>by
   have:=(t i _ _ (gE hi) H).2 I
   rw[this]at k;exact qI k.2 oB
  have G:T.heap[r]? = some (.mapIter (some b) d f c0):=by rcases u with rfl|rfl<;>exact Z
  have A:Oth r T (setBlock T r (.mapIter (some b) d (f.push g.toList[i].born) c)):=by
   refine⟨rfl,rfl,rfl,by simp[setBlock],λj D=>?_⟩;simp only[setBlock];rw[Array.getElem?_setIfInBounds_ne (λh=>D h.symm)]
  rw[ek,ev]at n;refine eJ n (h1 x v _ (mO H) S ⟨g,c,d,f.push g.toList[i].born,c,⟨?_,l.keys,l.vals,l.nodup,l.born,l.old⟩,?_,B,O,O,?_,?_,?_⟩ ⟨g,c,d,f,g.toList[i],?_,?_,List.getElem_mem hi,l.born.imp (λh=>Nat.ne_of_lt h),ek,ev⟩ ?_ ?_)
  .rw[A.other b (λh=>F h.symm)];rcases u with rfl|rfl<;>exact l.heap
  .simp only[setBlock];rw[Array.getElem?_setIfInBounds_self_of_lt (qM.1 G).1]
  .intro j V p2 M N;have D:=(gS M)
   have s:=(gS N)
   have q:=(gS H)
   have L:=List.pairwise_iff_getElem.1 l.born;have hk:=List.pairwise_iff_getElem.1 l.nodup;have C:(V.born=g.toList[i].born↔j=i)/\(p2.1=x↔j=i):=by
    rcases Nat.lt_trichotomy j i with h|h|h
    .have W:=L j i (by simpa using D.1) (by simpa using hi) h;have J:=hk j i (by simpa using s.1) (by simpa using q.1) h;simp only[List.getElem_map,D.2,s.2,q.2]at W J;exact⟨⟨λe=>by omega,λe=>by omega⟩,⟨λe=>qI e J,λe=>by omega⟩⟩
    .subst h;rw[<-D.2]
     have:p2=(x,v):=by rw[<-s.2, <-q.2]
     rw[this];simp
    .have W:=L i j (by simpa using hi) (by simpa using D.1) h;have J:=hk i j (by simpa using q.1) (by simpa using s.1) h;simp only[List.getElem_map,D.2,s.2,q.2]at W J;exact⟨⟨λe=>by omega,λe=>by omega⟩,⟨λe=>qI e.symm J,λe=>by omega⟩⟩
   have aa:=t j V p2 M N;rw[oU,List.mem_singleton,C.2, <-C.1, <-aa];simp only[Array.contains_iff_mem,Array.mem_push]
  .rw[List.nodup_append];refine⟨Y,by simp,λa ha b L=>?_⟩;simp at L;subst L;rintro rfl;exact S ha
  .intro y hy;rcases oU.1 hy with h|h
   .exact R y h
   .simp at h;subst h;exact qT.2 ⟨_,mO H,rfl⟩
  .rw[A.other b (λh=>F h.symm)];rcases u with rfl|rfl<;>exact l.heap
  .simp only[setBlock];rw[Array.getElem?_setIfInBounds_self_of_lt (qM.1 G).1]
  .rcases u with rfl|rfl
   .exact A
   .exact⟨A.os,A.tape,A.output,A.size,A.other⟩
  .have U:(setBlock T r (.mapIter (some b) d (f.push g.toList[i].born) c)).heap[b]? = some (.map g c):=by
    rw[A.other b (λh=>F h.symm)];rcases u with rfl|rfl<;>exact l.heap
   have V:(setBlock T r (.mapIter (some b) d (f.push g.toList[i].born) c)).heap[r]? = some (.mapIter (some b) d (f.push g.toList[i].born) c):=by
    simp only[setBlock];rw[Array.getElem?_setIfInBounds_self_of_lt (qM.1 G).1]
   unfold jm;rw[U,V,l.heap,Z];simp only[leftOf];have hs:∀p:MapEntry->Bool,(g.filter p).size=(g.toList.filter p).length:=λp=>by rw[<-Array.toList_filter,Array.length_toList]
   rw[hs,hs];refine TT k.1 (by simpa using k.2) oB (λx I=>?_);simp only[Array.contains_push,Bool.not_or,oM]at I;exact I.1
end
section
variable {ν:Type}[DecidableEq κ]{kv:κ->oF}{vv:ν->oF}   {m:List (κ×ν)}  {K:KV}{k:TypeId}
def yN{m:List (κ×ν)}{x:κ}(h:dZ m x=none)(v:ν):vf m x v=m++[(x,v)]:=by
 induction m with
 | nil=>rfl
 | cons p m ih =>
  by_cases a:p.1=x
  .simp[dZ,a]at h
  .simp only[dZ,a,if_false]at h;simp[vf,a,ih h]
end
end
abbrev MXA:Int:=1125899906842624
def okA(x:Int):Bool:=decide (0<=x)&&decide (x<=MXA)
def pk(l:List Int):Int×Bool:=match l.all okA with|true=>(l.sum,true)|false=>(0,false)
def nA(A:List Int)(i:Nat):Int:=A.getD i 0
def xd(A:List Int)(k j:Nat):List Int:=nA A (6+k)::(List.range j).map λj=>nA A (18+6*k+j)
def inL(A:List Int)(k j:Nat):List Int:=nA A k::nA A (12+k)::(List.range j).map λj=>nA A (18+6*j+k)
def uc(A:List Int)(k:Nat):Int×Bool:=((pk (inL A k 6)).1-(pk (xd A k 6)).1,(pk (xd A k 6)).2&&(pk (inL A k 6)).2)
def sZ:okA x=true↔0<=x/\x<=MXA:=by simp[okA]
def Nl:∀{l:List Int},l.all okA=true->0<=l.sum/\l.sum<=MXA*l.length
 | [],_=>by simp
 | x::l,h=>by
  rw[List.all_cons,oM]at h;have a:=sZ.1 h.1;have b:=Nl h.2;simp only[List.sum_cons,oZ];simp only[MXA]at *;omega
def gL(A:List Int):List Int:=(List.range 6).map λk=>nA A k
def FM(A:List Int):Bool :=
 (List.range 6).all (λk=>(uc A k).2&&decide (0<=(uc A k).1)&&decide (nA A (12+k)<=nA A (6+k))&&decide (nA A (18+6*k+k)=0))&&((pk (gL A)).2&&decide ((pk (gL A)).1<=MXA))
def kK(A:List Int)(k:Nat):Int:=nA A k-nA A (6+k)+nA A (12+k)+((List.range 6).map λj=>nA A (18+6*j+k)-nA A (18+6*k+j)).sum
def Sv(A:List Int)(i:Nat):Bool:=okA (nA A i)&&okA (nA A (6+i))&&okA (nA A (12+i))&&decide (nA A (12+i)<=nA A (6+i))&&decide (nA A (18+6*i+i)=0)&&(List.range 6).all λj=>okA (nA A (18+6*i+j))
def nu(A:List Int):Bool:=(List.range 6).all (Sv A)&&(List.range 6).all (λk=>decide (0<=kK A k))&&decide ((gL A).sum<=MXA)
def bO(i:Int):Bool:=decide (1<=i)&&decide (i<=6)
structure ND where
 id:Int
 par:Int
 A:List Int
 deriving DecidableEq
def IN(A:List Int)(i x:Int):Int:=if nu A=false\/x<1\/MXA<x then 1 else if bO i=false then 10 else 0
def z54:List Int:=List.replicate 54 0
def CN(A:List Int)(q:Nat)(x:Int):List Int×Int:=if MXA<nA A q+x then (z54,6)else (A.set q (nA A q+x),0)
def vz(A:List Int)(i x:Int):List Int×Int:=if IN A i x≠0 then (z54,IN A i x)else if kK A (i-1).toNat<x then (z54,11)else CN A (6+(i-1).toNat) x
def wU(A:List Int)(i x:Int):List Int×Int:=if IN A i x≠0 then (z54,IN A i x)else if nA A (6+(i-1).toNat)-nA A (12+(i-1).toNat)<x then (z54,12)else (A.set (12+(i-1).toNat) (nA A (12+(i-1).toNat)+x),0)
def xZ(A:List Int)(i j x:Int):List Int×Int :=
 if IN A i x≠0 then (z54,IN A i x)else if bO j=false then (z54,10)else if i=j then (z54,1)else if kK A (i-1).toNat<x then (z54,11)else CN A (18+6*(i-1).toNat+(j-1).toNat) x
structure EV where
 o:Int
 s:Int
 d0:Int
 d1:Int
 d2:Int
 d3:Int
 d4:Int
 d5:Int
 k:Int
 n:Int
 t:Int
 a:Int
 r:Int
 f:Int
 deriving DecidableEq
def EV.V(e:EV):List Int:=[e.d0,e.d1,e.d2,e.d3,e.d4,e.d5]
def FO(e:EV):EV:={e with
 n:=if e.k=1\/e.k=2\/e.k=3\/e.k=5 then e.n else 0
 t:=if e.k=5\/e.k=6 then e.t else 0
 a:=if e.k=1\/e.k=2\/e.k=3\/e.k=5 then e.a else 0
 r:=if e.k=3\/e.k=4 then e.r else 0
 f:=if e.k=4 then e.f else 0}
def smE(e:EV):Bool:=decide (1<=e.a)&&decide (e.a<=1125899906842624)
def otE(e:EV):Bool:=bO e.t&&decide (e.t≠e.o)
def fdE(e:EV):Bool :=
 if e.k=1 then decide (0<=e.a)&&decide (e.a<=1125899906842624)
 else if e.k=2 then smE e
 else if e.k=3 then smE e&&decide (1<=e.r)
 else if e.k=4 then decide (1<=e.r)&&(decide (1<=e.f)&&decide (e.r≠e.f))
 else if e.k=5 then smE e&&otE e
 else if e.k=6 then otE e
 else decide (e.k=7)
def dI(e:EV):Bool:=bO e.o&&(decide (1<=e.s)&&(decide (e.s<1099511627776)&&(decide (e.V.getD (e.o-1).toNat 0=e.s-1)&&((List.range 6).all (λk=>decide (e.V.getD k 0<1099511627776))&&(decide (e=FO e)&&fdE e)))))
def tQ(V:List Int)(e:EV):Bool:=dI e&&decide (e.s<=V.getD (e.o-1).toNat 0)
def fW(V:List Int)(e:EV):Bool:=dI e&&(decide (e.s=V.getD (e.o-1).toNat 0+1)&&(List.range 6).all (λk=>decide (e.V.getD k 0<=V.getD k 0)))
def jb{e:EV}(h:dI e=true):1<=e.o/\e.o<=6/\1<=e.s/\e.s<1099511627776:=by unfold dI at h;simp only[oM,oP,bO]at h;exact⟨h.1.1,h.1.2,h.2.1,h.2.2.1⟩
structure GR where
 o:Int
 q:Int
 n:Int
 a:Int
 b:Int
 deriving DecidableEq
def vJ(L:List α)(i:Nat)(z:α):List α:=L.take i++z::L.drop i
def zec{L:List α}{z:α}:(vJ L i z).length=L.length+1:=by unfold vJ;rw[oT,oZ,qA,qB];omega
def BC{L:List α}{z x:α}:x∈vJ L i z↔x=z\/x∈L:=by
 unfold vJ;rw[oU,oO];constructor
 .rintro(h|h|h)
  .exact .inr (List.mem_of_mem_take h)
  .exact .inl h
  .exact .inr (List.mem_of_mem_drop h)
 .rintro(h|h)
  .exact .inr (.inl h)
  .have:x∈L.take i++L.drop i:=by rw[List.take_append_drop];exact h
   rcases oU.1 this with h|h
   .exact .inl h
   .exact .inr (.inr h)
structure TK(L:List (Int×Int)) (rk:Int->Nat):Prop where
 low:∀x∈L,rk x.1<L.length
 nz:∀x∈L,x.1≠0
 up:∀x∈L,x.2=0\/∃y∈L,y.1=x.2/\rk y.1<rk x.1
def eh(L:List (Int×Int))(id:Int):Bool:=L.any λx=>x.1==id
def ky{L:List (Int×Int)}{id:Int}:eh L id=true↔∃x∈L,x.1=id:=by simp[eh]
def upT(L:List (Int×Int))(rk:Int->Nat)(id:Int):Nat:=match eh L id with|true=>rk id+1|false=>0
def TK.nil:TK [] λ_=>0:=⟨by simp,by simp,by simp⟩
def LS{L:List (Int×Int)}{rk:Int->Nat}(h:TK L rk)(id:Int):upT L rk id<=L.length:=by
 unfold upT;cases a:eh L id with
 | false=>exact qG _
 | true =>
  obtain⟨x,b,rfl⟩:=ky.1 a;exact h.low x b
def Np{L:List (Int×Int)}{rk:Int->Nat}(h:TK L rk){x:Int×Int}(a:x∈L):upT L rk x.2<upT L rk x.1:=by
 have c:eh L x.1=true:=ky.2 ⟨x,a,rfl⟩;unfold upT;rw[c];cases d:eh L x.2 with
 | false=>exact Nat.succ_pos _
 | true =>
  rcases h.up x a with e|⟨y,i,e,g⟩
  .obtain⟨z,f,b⟩:=ky.1 d;exact qI (b.trans e) (h.nz z f)
  .show rk x.2+1<rk x.1+1;rw[<-e];omega
def TK.add{L:List (Int×Int)}{rk:Int->Nat}(h:TK L rk){id par:Int}(j:id≠0)(m:eh L id=false)(d:par=0\/eh L par=true)(i:Nat):TK (vJ L i (id,par)) (λk=>if k=id then L.length else rk k):=by
 have a:∀x∈L,x.1≠id:=λx b e=>by
  have:=ky.2 ⟨x,b,e⟩
  rw[m]at this;cases this
 refine⟨λx b=>?_,λx b=>?_,λx b=>?_⟩
 .rw[zec];rcases BC.1 b with e|e
  .subst e;simp
  .rw[oI (a x e)];have:=h.low x e;omega
 .rcases BC.1 b with e|e
  .subst e;exact j
  .exact h.nz x e
 .rcases BC.1 b with e|e
  .subst e;rcases d with d|d
   .exact .inl d
   .obtain⟨y,c,g⟩:=ky.1 d;refine .inr ⟨y,BC.2 (.inr c),g,?_⟩;rw[oI (a y c)];simp only[if_true];exact h.low y c
  .rcases h.up x e with f|⟨y,c,f,l⟩
   .exact .inl f
   .refine .inr ⟨y,BC.2 (.inr c),f,?_⟩;rw[oI (a y c),oI (a x e)];exact l
def VT(T:List (Int×Int))(id:Int):Nat:=T.findIdx λx=>x.1==id
def fV(T:List (Int×Int))(id:Int):Int:=(T.getD (VT T id) (0,0)).2
def dO(T:List (Int×Int)):Nat->Int->List Int
 | 0,_=>[]
 | f+1,id=>if eh T id=true then id::dO T f (fV T id)else []
def fy(T:List (Int×Int))(id:Int):List Int:=dO T (T.length+1) id
def Vu{α:Type}(f:α->Bool)(L:List α):Nat->Nat
 | 0=>0
 | k+1=>match L[k]? with
  | some x=>if f x=true then Vu f L k else k+1
  | none=>k+1
def nN(T:List (Int×Int))(id par:Int):List (Int×Int)×Int :=
 if id=0 then (T,1)else if eh T id=true then (T,14)else if par≠0/\eh T par=false then (T,9)else if 32<=T.length\/4<=(fy T par).length then (T,6)
 else (vJ T (Vu (λx=>decide (id<x.1)) T T.length) (id,par),0)
def pF(I L:List Bool)(k:Nat):List Int:=((List.range k).filter λk=>I.getD k false && !L.getD k false).map λk=>((k:Nat):Int)+1
structure PL where
 I:List Bool
 L:List Bool
 V:List Int
 N:List ND
 G:List GR
 R:List (List Int)
 deriving DecidableEq
abbrev M40:Int:=1099511627776
abbrev M47:Int:=140737488355328
def EV.q(e:EV):Nat:=(e.o-1).toNat
def idE(e:EV):Int:=e.o*M40+e.s
def tr(N:List ND):List (Int×Int):=N.map λx=>(x.id,x.par)
def dR(N:List ND)(id:Int):Bool:=N.any λx=>x.id==id
def fg(N:List ND)(id:Int):List Int:=fy (tr N) id
def jx(N:List ND)(o:Int):Nat:=(N.filter λx=>decide (x.id / M40=o)).length
def aN(N:List ND)(id:Int):List Int:=match N.find? λx=>x.id==id with|some x=>x.A|none=>z54
def mw(G:List GR)(o q:Int):Option GR:=G.find? λg=>g.o==o&&g.q==q
def po(R:List (List Int))(k:Nat)(r:Int):Bool:=(R.getD k []).contains r
def eQ(x:ND):List ND->List ND
 | []=>[x]
 | y::l=>if x.id<y.id then x::y::l else y::eQ x l
def ltG(x y:GR):Prop:=x.o<y.o\/x.o=y.o/\x.q<y.q
instance (x y:GR):Decidable (ltG x y):=inferInstanceAs (Decidable (_\/_))
def kJ(x:GR):List GR->List GR
 | []=>[x]
 | y::l=>if ltG x y then x::y::l else y::kJ x l
def fe(ids:List Int)(c:Nat)(x:Int)(y:ND):ND:=if ids.contains y.id=true then {y with A:=y.A.set c (nA y.A c+x)} else y
inductive NOp
 | ins (x:ND)
 | bmp (ids:List Int) (c:Nat) (x:Int)
 | non
def NOp.ap:NOp->List ND->List ND
 | .ins x,N=>eQ x N
 | .bmp ids c x,N=>N.map (fe ids c x)
 | .non,N=>N
inductive GOp
 | ins (x:GR)
 | upd (o q b:Int)
 | non
def tM(o q b:Int)(g:GR):GR:=if g.o=o/\g.q=q then {g with b:=b} else g
def GOp.ap:GOp->List GR->List GR
 | .ins x,G=>kJ x G
 | .upd o q b,G=>G.map (tM o q b)
 | .non,G=>G
def gOf(s:PL)(e:EV):GR:=(mw s.G e.o e.f).getD ⟨0,0,0,0,0⟩
def nop(e:EV)(s:PL):NOp :=
 if e.k=1 then .ins ⟨idE e,e.n,z54.set e.q e.a⟩
 else if e.k=2 then .bmp [e.n] e.q e.a
 else if e.k=3 then .bmp (fg s.N e.n) (6+e.q) e.a
 else if e.k=4 then .bmp (fg s.N (gOf s e).n) (12+e.q) (gOf s e).a
 else if e.k=5 then .bmp [e.n] (18+6*e.q+(e.t-1).toNat) e.a
 else .non
def gop(e:EV):GOp :=
 if e.k=3 then .ins ⟨e.o,e.r,e.n,e.a,0⟩
 else if e.k=4 then .upd e.o e.f e.r
 else .non
def wN(e:EV)(I:List Bool):List Bool:=if e.k=6 then I.set (e.t-1).toNat true else I
def wO(e:EV)(L:List Bool):List Bool:=if e.k=7 then L.set e.q true else L
def rF(e:EV)(R:List (List Int)):List (List Int):=if e.k=3\/e.k=4 then R.set e.q (R.getD e.q []++[e.r])else R
def XV(e:EV)(V:List Int):List Int:=V.set e.q (V.getD e.q 0+1)
def eff(e:EV)(s:PL):PL:=⟨wN e s.I,wO e s.L,XV e s.V,(nop e s).ap s.N,(gop e).ap s.G,rF e s.R⟩
structure OK(e:EV) (s:PL):Prop where
 may:dI e=true
 rdy:fW s.V e=true
 inI:s.I.getD e.q false=true
 notL:s.L.getD e.q false=false
 k1:e.k=1->jx s.N e.o<5/\e.a<=M47/\(e.n=0\/dR s.N e.n=true)/\(fg s.N e.n).length<4
 k2:e.k=2->dR s.N e.n=true/\nA (aN s.N e.n) e.q+e.a<=M47
 k3:e.k=3->po s.R e.q e.r=false/\dR s.N e.n=true/\∀id∈fg s.N e.n,e.a<=kK (aN s.N id) e.q/\nA (aN s.N id) (6+e.q)+e.a<=MXA
 k4:e.k=4->po s.R e.q e.r=false/\∃g,mw s.G e.o e.f=some g/\g.b=0/\∀id∈fg s.N g.n,nA (aN s.N id) (12+e.q)+g.a<=nA (aN s.N id) (6+e.q)
 k5:e.k=5->dR s.N e.n=true/\s.I.getD (e.t-1).toNat false=true/\e.a<=kK (aN s.N e.n) e.q/\nA (aN s.N e.n) (18+6*e.q+(e.t-1).toNat)+e.a<=MXA
structure PI(s:PL):Prop where
 i6:s.I.length=6
 l6:s.L.length=6
 v6:s.V.length=6
 r6:s.R.length=6
 vb:∀k,k<6->0<=s.V.getD k 0/\s.V.getD k 0<M40
 A54:∀x∈s.N,x.A.length=54
 may:∀x∈s.N,nu x.A=true/\∀k,k<6->nA x.A k<=M47
 srt:s.N.Pairwise (·.id < ·.id)
 ids:∀x∈s.N,∃o q:Int,1<=o/\o<=6/\1<=q/\q<M40/\x.id=o*M40+q/\q<=s.V.getD (o-1).toNat 0
 own:∀o,jx s.N o<=5
 tk:∃rk,TK (tr s.N) rk
 dep:∀x∈s.N,(fg s.N x.id).length<=4
 gs:s.G.Pairwise ltG
 gk:∀g∈s.G,dR s.N g.n=true/\1<=g.a/\g.a<=MXA/\1<=g.o/\g.o<=6/\1<=g.q/\po s.R (g.o-1).toNat g.q=true
def pl0(n:Nat):PL:=⟨(List.range 6).map λk=>decide (k<n),List.replicate 6 false,List.replicate 6 0,[],[],List.replicate 6 []⟩
def dlt(c:Nat)(x:Int)(j:Nat):Int:=if j=c then x else 0
def jr(h:j≠c):dlt c x j=0:=by unfold dlt;rw[oI h]
def xj:dlt c x c=x:=by unfold dlt;rw[oJ rfl]
def kI(h:0<=x):0<=dlt c x j:=by unfold dlt;split<;>omega
def rI(b:c<A.length)(j:Nat):nA (A.set c (nA A c+x)) j=nA A j+dlt c x j:=by
 unfold nA dlt;by_cases h:j=c
 .subst h;rw[oJ rfl];simp[List.getD,b]
 .have a : ¬c=j:=λe=>h e.symm;rw[oI h];simp[List.getD,a]
def Sh(a:c<A.length)(k:Nat):kK (A.set c (nA A c+x)) k=kK A k+(dlt c x k-dlt c x (6+k)+dlt c x (12+k)
 +((dlt c x (18+6*0+k)-dlt c x (18+6*k+0))+(dlt c x (18+6*1+k)-dlt c x (18+6*k+1))+(dlt c x (18+6*2+k)-dlt c x (18+6*k+2))+(dlt c x (18+6*3+k)-dlt c x (18+6*k+3))+(dlt c x (18+6*4+k)-dlt c x (18+6*k+4))+(dlt c x (18+6*5+k)-dlt c x (18+6*k+5)))):=by simp only[kK,show List.range 6=[0,1,2,3,4,5]from rfl,jK,List.map_nil,List.sum_cons,List.sum_nil,rI a];omega
def Si{k:Nat}(f:c<A.length)(b:0<=x)(d:c≠6+k)(a:∀j,j<6->c≠18+6*k+j):kK A k<=kK (A.set c (nA A c+x)) k:=by
 rw[Sh f];rw[jr (j:=6+k) (λe=>d e.symm),jr (j:=18+6*k+0) (λe=>a 0 oo e.symm),jr (j:=18+6*k+1) (λe=>a 1 oo e.symm),jr (j:=18+6*k+2) (λe=>a 2 oo e.symm),jr (j:=18+6*k+3) (λe=>a 3 oo e.symm),jr (j:=18+6*k+4) (λe=>a 4 oo e.symm),jr (j:=18+6*k+5) (λe=>a 5 oo e.symm)]
 have:=kI (c:=c) (j:=k) b
 have:=kI (c:=c) (j:=12+k) b
 have:=kI (c:=c) (j:=18+6*0+k) b
 have:=kI (c:=c) (j:=18+6*1+k) b
 have:=kI (c:=c) (j:=18+6*2+k) b
 have:=kI (c:=c) (j:=18+6*3+k) b
 have:=kI (c:=c) (j:=18+6*4+k) b
 have:=kI (c:=c) (j:=18+6*5+k) b
 omega
theorem zen {A : List Int} {c : Nat} {x : Int} {k : Nat} (hc : c < A.length) (hx : 0 ≤ x) : kK A k - x ≤ kK (A.set c (nA A c + x)) k := by
  by_cases h6 : c = 6 + k
  · rw [Sh hc]
    rw [jr (j := 18 + 6 * k + 0) (by omega), jr (j := 18 + 6 * k + 1) (by omega), jr (j := 18 + 6 * k + 2) (by omega), jr (j := 18 + 6 * k + 3) (by omega), jr (j := 18 + 6 * k + 4) (by omega), jr (j := 18 + 6 * k + 5) (by omega), show dlt c x (6 + k) = x by rw [h6]; exact xj]
    have := kI (c := c) (j := k) hx
    have := kI (c := c) (j := 12 + k) hx
    have := kI (c := c) (j := 18 + 6 * 0 + k) hx
    have := kI (c := c) (j := 18 + 6 * 1 + k) hx
    have := kI (c := c) (j := 18 + 6 * 2 + k) hx
    have := kI (c := c) (j := 18 + 6 * 3 + k) hx
    have := kI (c := c) (j := 18 + 6 * 4 + k) hx
    have := kI (c := c) (j := 18 + 6 * 5 + k) hx
    omega
  · by_cases h18 : ∃ j, j < 6 ∧ c = 18 + 6 * k + j
    · obtain ⟨j, hj, hcj⟩ := h18
      have hs : dlt c x (18 + 6 * k + 0) + dlt c x (18 + 6 * k + 1) + dlt c x (18 + 6 * k + 2) + dlt c x (18 + 6 * k + 3) + dlt c x (18 + 6 * k + 4) + dlt c x (18 + 6 * k + 5) = x := by
        subst hcj
        match j, hj with
        | 0, _ => rw [xj]; repeat rw [jr (by omega)]
                  omega
        | 1, _ => rw [xj]; repeat rw [jr (by omega)]
                  omega
        | 2, _ => rw [xj]; repeat rw [jr (by omega)]
                  omega
        | 3, _ => rw [xj]; repeat rw [jr (by omega)]
                  omega
        | 4, _ => rw [xj]; repeat rw [jr (by omega)]
                  omega
        | 5, _ => rw [xj]; repeat rw [jr (by omega)]
                  omega
      rw [Sh hc, jr (j := 6 + k) (by omega)]
      have := kI (c := c) (j := k) hx
      have := kI (c := c) (j := 12 + k) hx
      have := kI (c := c) (j := 18 + 6 * 0 + k) hx
      have := kI (c := c) (j := 18 + 6 * 1 + k) hx
      have := kI (c := c) (j := 18 + 6 * 2 + k) hx
      have := kI (c := c) (j := 18 + 6 * 3 + k) hx
      have := kI (c := c) (j := 18 + 6 * 4 + k) hx
      have := kI (c := c) (j := 18 + 6 * 5 + k) hx
      omega
    · have := Si (k := k) hc hx h6 fun j hj e => h18 ⟨j, hj, e⟩
      omega
structure Xu(A:List Int):Prop where
 g:∀i,i<6->0<=nA A i/\nA A i<=MXA
 c:∀i,i<6->0<=nA A (6+i)/\nA A (6+i)<=MXA
 f:∀i,i<6->0<=nA A (12+i)/\nA A (12+i)<=nA A (6+i)
 d:∀i,i<6->nA A (18+6*i+i)=0
 r:∀i j,i<6->j<6->0<=nA A (18+6*i+j)/\nA A (18+6*i+j)<=MXA
 l:∀k,k<6->0<=kK A k
 s:(gL A).sum<=MXA
def DY:nu A=true↔Xu A:=by
 unfold nu;rw[oM,oM,jR,jR,oP];constructor
 .rintro⟨⟨o,p⟩,q⟩;have e:∀i,i<6->Sv A i=true:=λi a=>o i (by simpa using a);have n:∀i,i<6->((((okA (nA A i)=true/\okA (nA A (6+i))=true)/\okA (nA A (12+i))=true)/\nA A (12+i)<=nA A (6+i))/\nA A (18+6*i+i)=0)/\∀j,j<6->okA (nA A (18+6*i+j))=true:=λi a=>by
   have:=e i a
   unfold Sv at this;simp only[oM,oP,jR]at this;exact⟨this.1,λj b=>this.2 j (by simpa using b)⟩
  exact⟨λi a=>sZ.1 (n i a).1.1.1.1.1,λi a=>sZ.1 (n i a).1.1.1.1.2,λi a=>⟨(sZ.1 (n i a).1.1.1.2).1,(n i a).1.1.2⟩,λi a=>(n i a).1.2,λi j a b=>sZ.1 ((n i a).2 j b),λk m=>by simpa using p k (by simpa using m),q⟩
 .intro h;refine⟨⟨λi a=>?_,λk m=>by simpa using h.l k (by simpa using m)⟩,h.s⟩;have a:i<6:=by simpa using a
  unfold Sv;simp only[oM,oP,jR];exact⟨⟨⟨⟨⟨sZ.2 (h.g i a),sZ.2 (h.c i a)⟩,sZ.2 ⟨(h.f i a).1,Int.le_trans (h.f i a).2 (h.c i a).2⟩⟩,(h.f i a).2⟩,h.d i a⟩,λj b=>sZ.2 (h.r i j a (by simpa using b))⟩
def zca(A:List Int):(gL A).sum=nA A 0+nA A 1+nA A 2+nA A 3+nA A 4+nA A 5:=by simp only[gL,show List.range 6=[0,1,2,3,4,5]from rfl,jK,List.map_nil,List.sum_cons,List.sum_nil];omega
def zaj(H:A.length=54)(h:Xu A)(t:0<=x)(I:c<54)(F:nA A c+x<=MXA)(p:∀i,i<6->c=12+i->nA A (12+i)+x<=nA A (6+i))(C:∀i,i<6->c≠18+6*i+i)(E:∀k,k<6->(c=6+k\/∃j,j<6/\c=18+6*k+j)->x<=kK A k)(D:c<6->nA A c+x<=M47/\∀i,i<6->nA A i<=M47):Xu (A.set c (nA A c+x)):=by
 have a:c<A.length:=by omega
 have o:∀j,nA A j<=nA (A.set c (nA A c+x)) j:=λj=>by rw[rI a];have:=kI (c:=c) (j:=j) t;omega
 have u:∀j,nA A j<=MXA->nA (A.set c (nA A c+x)) j<=MXA:=λj n=>by
  rw[rI a];by_cases e:j=c
  .subst e;rw[xj];exact F
  .rw[jr e];omega
 refine⟨λi m=>⟨Int.le_trans (h.g i m).1 (o _),u _ (h.g i m).2⟩,λi m=>⟨Int.le_trans (h.c i m).1 (o _),u _ (h.c i m).2⟩,λi m=>⟨Int.le_trans (h.f i m).1 (o _),?_⟩,λi m=>?_,λi j m n=>⟨Int.le_trans (h.r i j m n).1 (o _),u _ (h.r i j m n).2⟩,λk y=>?_,?_⟩
 .have w:=o (6+i);by_cases e:c=12+i
  .have:=p i m e
   rw[rI a (12+i),show dlt c x (12+i)=x by rw[e];exact xj];omega
  .rw[rI a (12+i),jr (λz => e z.symm)]
   have:=(h.f i m).2;omega
 .rw[rI a,jr (λe=>C i m e.symm),h.d i m];rfl
 .by_cases q:c=6+k\/∃j,j<6/\c=18+6*k+j
  .have:=E k y q
   have:=zen (k:=k) a t
   omega
  .have:=Si (k:=k) a t (λe=>q (.inl e)) (λj n e=>q (.inr ⟨j,n,e⟩))
   have:=h.l k y;omega
 .rw[zca];have G:=h.s;rw[zca]at G;by_cases e:c<6
  .obtain⟨B,w⟩:=D e;have b:∀i,i<6->nA (A.set c (nA A c+x)) i<=M47:=λi m=>by
    rw[rI a];by_cases v:i=c
    .subst v;rw[xj];exact B
    .rw[jr v];have:=w i m;omega
   have:=b 0 oo
   have:=b 1 oo
   have:=b 2 oo
   have:=b 3 oo
   have:=b 4 oo
   have:=b 5 oo
   simp only[M47,MXA]at *;omega
  .rw[rI a 0,rI a 1,rI a 2,rI a 3,rI a 4,rI a 5]
   repeat rw[jr oo]
   omega
section
variable {N:List ND}{id:Int}
def sc:dR N id=true↔∃x∈N,x.id=id:=by simp[dR]
def mR:eh (tr N) id=dR N id:=by unfold eh tr dR;rw[List.any_map];rfl
def se{x y:ND}:∀{N:List ND},y∈eQ x N↔y=x\/y∈N
 | []=>by simp[eQ]
 | z::N=>by
  unfold eQ;split
  .simp
  .rw[oO,se (N:=N),oO];constructor
   .rintro(h|h|h)
    .exact .inr (.inl h)
    .exact .inl h
    .exact .inr (.inr h)
   .rintro(h|h|h)
    .exact .inr (.inl h)
    .exact .inl h
    .exact .inr (.inr h)
def Yw{x:ND}:∀{N:List ND},(eQ x N).length=N.length+1
 | []=>rfl
 | z::N=>by
  unfold eQ;split
  .rfl
  .simp[Yw (N:=N)]
def Wy{x y:ND}(h:x.id≠y.id):∀{N:List ND},eQ x (eQ y N)=eQ y (eQ x N)
 | []=>by
  simp only[eQ];by_cases a:x.id<y.id
  .rw[oJ a,oI oo]
  .rw[oI a,oJ oo]
 | z::N=>by
  by_cases b:x.id<z.id<;>by_cases c:y.id<z.id
  .by_cases a:x.id<y.id
   .simp[eQ,b,c,a,show ¬y.id<x.id by omega]
   .simp[eQ,b,c,a,show y.id<x.id by omega]
  .simp[eQ,b,c,show x.id<y.id\/True from .inr trivial,show ¬y.id<x.id by omega]
  .simp[eQ,b,c,show ¬x.id<y.id by omega]
  .simp[eQ,b,c,Wy h (N:=N)]
def xH{x:ND}:∀{N:List ND},N.Pairwise (·.id < ·.id)->(∀y∈N,y.id≠x.id)->(eQ x N).Pairwise (·.id < ·.id)
 | [],_,_=>by simp[eQ]
 | z::N,h,hn=>by
  rw[List.pairwise_cons]at h;unfold eQ;split
  .rename_i b;rw[List.pairwise_cons,List.pairwise_cons];refine⟨λy a=>?_,h⟩;rcases oO.1 a with rfl|a
   .exact b
   .have:=h.1 y a;omega
  .rename_i b;rw[List.pairwise_cons];refine⟨λy a=>?_,xH h.2 λy a=>hn y (by simp[a])⟩;rcases se.1 a with rfl|a
   .have:=hn z oB;omega
   .exact h.1 y a
def Sd{x:ND}{g:ND->ND}(a:g x=x)(b:∀y,(g y).id=y.id):∀{N:List ND},eQ x (N.map g)=(eQ x N).map g
 | []=>by simp[eQ,a]
 | z::N=>by
  simp only[jK,eQ,b];split
  .simp[a]
  .simp[Sd a b (N:=N)]
def RW{p:ND->Bool}{x:ND}(b:N.Pairwise (·.id < ·.id))(d:x∈N)(c:∀y,p y=true↔y.id=x.id):N.find? p=some x:=by
 induction N with
 | nil=>simp at d
 | cons z N ih =>
  rw[List.pairwise_cons]at b;by_cases e:z=x
  .subst e;rw[List.find?_cons_of_pos ((c z).2 rfl)]
  .have a:x∈N:=by rcases oO.1 d with h|h;exact qI h.symm e;exact h
   have : ¬p z=true:=λh=>by
    have f:=(c z).1 h
    have:=b.1 x a;omega
   rw[List.find?_cons_of_neg this];exact ih b.2 a
def Ej{x:ND}(a:N.Pairwise (·.id < ·.id))(b:x∈N):aN N x.id=x.A:=by unfold aN;rw[RW a b (λy=>by simp)]
def zD(h:dR N id=true):∃x∈N,x.id=id:=sc.1 h
def zhW{x y:ND}(b:N.Pairwise (·.id < ·.id))(d:x∈N)(e:y∈N)(h:x.id=y.id):x=y:=by have c:=RW (p:=λz=>z.id==x.id) b d (λy=>by simp);have a:=RW (p:=λz=>z.id==x.id) b e (λz=>by simp[h]);rw[c]at a;exact Option.some.inj a
def kS{ids:List Int}(y:ND):(fe ids c v y).id=y.id/\(fe ids c v y).par=y.par:=by unfold fe;split<;>exact⟨rfl,rfl⟩
def Hv{ids:List Int}{y:ND}(h:y.id∈ids):fe ids c v y={y with A:=y.A.set c (nA y.A c+v)}:=by unfold fe;rw[oJ (List.contains_iff_mem.2 h)]
def Ds{ids:List Int}{y:ND}(h:y.id∉ids):fe ids c v y=y:=by unfold fe;rw[oI (λa=>h (List.contains_iff_mem.1 a))]
def Z9{y:Int}(h:c≠d):(A.set c (nA A c+x)).set d (nA (A.set c (nA A c+x)) d+y)=(A.set d (nA A d+y)).set c (nA (A.set d (nA A d+y)) c+x):=by
 have a:nA (A.set c (nA A c+x)) d=nA A d:=by unfold nA;simp[List.getD,h]
 have b:nA (A.set d (nA A d+y)) c=nA A c:=by unfold nA;simp[List.getD,show ¬d=c from λe=>h e.symm]
 rw[a,b,List.set_comm _ _ h]
def zbO{ids:List Int}(h:c≠d)(y:ND):fe ids c v (fe X0 d r y)=fe X0 d r (fe ids c v y):=by obtain⟨i,p,A⟩:=y;by_cases a:i∈ids<;>by_cases b:i∈X0<;>simp only[fe,List.contains_iff_mem,a,b,if_true,if_false];rw[Z9 (A:=A) (x:=v) (y:=r) h]
def zdd{g:ND->ND}(a:∀y,(g y).id=y.id/\(g y).par=y.par):tr (N.map g)=tr N:=by unfold tr;rw[jG];refine List.map_congr_left λy _=>?_;show ((g y).id,(g y).par)=_;rw[(a y).1,(a y).2]
def Yt{g:ND->ND}(a:∀y,(g y).id=y.id):dR (N.map g) id=dR N id:=by
 unfold dR;rw[List.any_map]
 congr 1
 funext y;show ((g y).id==id)=_;rw[a]
def MK{x:ND}:dR (eQ x N) id=(decide (x.id=id) || dR N id):=by
 rw[Bool.eq_iff_iff,sc,Bool.or_eq_true,sc,oP];constructor
 .rintro⟨y,a,h⟩;rcases se.1 a with rfl|a
  .exact .inl h
  .exact .inr ⟨y,a,h⟩
 .rintro(h|⟨y,a,h⟩)
  .exact⟨x,se.2 (.inl rfl),h⟩
  .exact⟨y,se.2 (.inr a),h⟩
def N9{g:ND->ND}(a:∀y,(g y).id=y.id){o:Int}:jx (N.map g) o=jx N o:=by
 unfold jx;rw[List.filter_map,oY]
 congr 2
 funext y;show decide ((g y).id / M40=o)=_;rw[a]
def N8{x:ND}{o:Int}:jx (eQ x N) o=jx N o+if x.id / M40=o then 1 else 0:=by
 unfold jx
 induction N with
 | nil=>simp only[eQ];by_cases h:x.id / M40=o<;>simp[h]
 | cons z N ih =>
  unfold eQ;split
  .by_cases h:x.id / M40=o<;>simp[h]
  .by_cases a:z.id / M40=o
   .rw[List.filter_cons_of_pos (by simpa using a),List.filter_cons_of_pos (by simpa using a),oZ,oZ,ih];omega
   .rw[List.filter_cons_of_neg (by simpa using a),List.filter_cons_of_neg (by simpa using a),ih]
def zB{o s:Int}(a:0<=s)(b:s<M40):(o*M40+s) / M40=o:=by
 have:(o*M40+s) / M40=o+s / M40:=by rw[Int.add_comm,Int.add_mul_ediv_right _ _ dc,Int.add_comm]
 rw[this,Int.ediv_eq_zero_of_lt a b];omega
def Vz(h:∀x∈N,∃o q:Int,1<=o/\o<=6/\1<=q/\q<M40/\x.id=o*M40+q):N.length=jx N 1+jx N 2+jx N 3+jx N 4+jx N 5+jx N 6:=by
 induction N with
 | nil=>rfl
 | cons x N d =>
  have d:=d λy g=>h y (by simp[g]);obtain⟨o,q,i,j,k,e,f⟩:=h x oB;have c:x.id / M40=o:=by rw[f];exact zB oo e
  have a:∀p:Int,jx (x::N) p=jx N p+if o=p then 1 else 0:=λp=>by
   unfold jx;by_cases b:o=p
   .rw[List.filter_cons_of_pos (by simp[c,b]),oJ b];rfl
   .rw[List.filter_cons_of_neg (by simp[c,b]),oI b];rfl
  rw[oZ,a,a,a,a,a,a]
  have:o=1\/o=2\/o=3\/o=4\/o=5\/o=6:=by omega
  rcases this with rfl|rfl|rfl|rfl|rfl|rfl<;>simp<;>omega
end
section
variable {T':List (Int×Int)}{rk:Int->Nat}
def zgy{id:Int}(h:eh T id=true):VT T id<T.length/\((T.getD (VT T id) (0,0)).1=id):=by
 obtain⟨x,c,b⟩:=ky.1 h;have a:VT T id<T.length:=List.findIdx_lt_length_of_exists ⟨x,c,by simp[b]⟩;refine⟨a,?_⟩
 have:=List.findIdx_getElem (w:=a) (p:=λx:Int×Int=>x.1==id)
 rw[oN,gE a,Option.getD_some];exact beq_iff_eq.1 this
def qs{id:Int}(h:eh T id=true):(id,fV T id)∈T:=by
 obtain⟨a,b⟩:=zgy h
 have:T.getD (VT T id) (0,0)∈T:=by
  rw[oN,gE a];exact List.getElem_mem _
 have e:T.getD (VT T id) (0,0)=(id,fV T id):=Prod.ext b rfl;rw[<-e];exact this
def LG{id p:Int}(b:∀x∈T,∀y∈T,x.1=y.1->x=y)(h:(id,p)∈T):fV T id=p:=by
 have a:eh T id=true:=ky.2 ⟨_,h,rfl⟩
 have:=b _ (qs a) _ h rfl
 exact qH Prod.snd this
def Ps(b:TK T rk):∀(f g:Nat) (id:Int),upT T rk id<=f->upT T rk id<=g->dO T f id=dO T g id
 | 0,0,_,_,_=>rfl
 | f+1,g,id,h1,h2=>by
  cases a:eh T id with
  | false =>
   cases g with
   | zero=>simp[dO,a]
   | succ g=>simp[dO,a]
  | true =>
   have k:upT T rk id=rk id+1:=by unfold upT;rw[a]
   obtain⟨g,rfl⟩:∃h,g=h+1:=⟨g-1,by omega⟩
   have m:upT T rk (fV T id)<=rk id:=by
    have j:=qs a;unfold upT;cases d:eh T (fV T id)with
    | false=>exact qG _
    | true =>
     rcases b.up _ j with i|⟨y,n,e,c⟩
     .exfalso;obtain⟨z,l,e⟩:=ky.1 d;exact b.nz z l (e.trans i)
     .show rk (fV T id)+1<=rk id;have e:y.1=fV T id:=e;rw[<-e];exact c
   simp only[dO,a,if_true];rw[Ps b f g (fV T id) oo oo]
 | 0,g+1,id,h1,h2=>by
  cases a:eh T id with
  | false=>simp[dO,a]
  | true =>
   have k:upT T rk id=rk id+1:=by unfold upT;rw[a]
   omega
def YT(a:TK T rk)(c:eh T' 0=false)(b:∀id,eh T id=true->eh T' id=true/\fV T' id=fV T id):∀(f:Nat) (id:Int),eh T id=true\/id=0->dO T' f id=dO T f id
 | 0,_,_=>rfl
 | f+1,id,h=>by
  rcases h with h|rfl
  .obtain⟨g,i⟩:=b id h;simp only[dO,h,g,if_true,i];rw[YT a c b f];rcases a.up _ (qs h)with d|⟨y,l,e,_⟩
   .exact .inr d
   .exact .inl (ky.2 ⟨y,l,e⟩)
  .have:eh T 0=false:=by
    cases j:eh T 0 with
    | false=>rfl
    | true =>
     obtain⟨x,k,e⟩:=ky.1 j;exact qI e (a.nz x k)
   simp[dO,c,this]
def YU:∀(f:Nat) (id:Int),∀x∈dO T f id,eh T x=true
 | 0,_,_,h=>by simp[dO]at h
 | f+1,id,x,h=>by
  unfold dO at h;split at h
  .rename_i a;rcases oO.1 h with rfl|h
   .exact a
   .exact YU f _ x h
  .simp at h
end
section
variable {N:List ND}{id:Int}
def sH(h:x∈fg N id):dR N x=true:=by rw[<-mR];exact YU _ _ x h
def Wd(g:N.Pairwise (·.id < ·.id)):∀x∈tr N,∀y∈tr N,x.1=y.1->x=y:=by
 intro x c y d h;unfold tr at c d;obtain⟨a,e,rfl⟩:=qT.1 c;obtain⟨b,f,rfl⟩:=qT.1 d
 have:=zhW g e f h
 rw[this]
def zcC{x:ND}(m:N.Pairwise (·.id < ·.id))(a:∃rk,TK (tr N) rk)(g:dR N x.id=false)(j:x.id≠0)(h:dR N id=true\/id=0):fg (eQ x N) id=fg N id:=by
 obtain⟨rk,a⟩:=a;have k:∀y∈N,y.id≠x.id:=λy c e=>by rw[sc.2 ⟨y,c,e⟩]at g;cases g
 have f:=xH m k;have n:eh (tr (eQ x N)) 0=false:=by
  rw[mR,MK,qE j,Bool.false_or, <-mR];cases l:eh (tr N) 0 with
  | false=>rfl
  | true =>
   obtain⟨y,c,e⟩:=ky.1 l;exact qI e (a.nz y c)
 have b:∀id,eh (tr N) id=true->eh (tr (eQ x N)) id=true/\fV (tr (eQ x N)) id=fV (tr N) id:=by
  intro i d;refine⟨?_,?_⟩
  .rw[mR,MK];rw[mR]at d;rw[d,Bool.or_true]
  .refine LG (Wd f) ?_
   have:=qs d
   unfold tr at this |-;obtain⟨y,c,e⟩:=qT.1 this;exact qT.2 ⟨y,se.2 (.inr c),e⟩
 unfold fg fy;rw[YT a n b _ _ (by rw[mR];exact h)];exact Ps a _ _ _ (by have:=LS a id;unfold tr at *; simp[Yw]at *; omega) (by have:=LS a id;omega)
def zcD{g:ND->ND}(a:∀y,(g y).id=y.id/\(g y).par=y.par):fg (N.map g) id=fg N id:=by unfold fg;rw[zdd a]
end
section
variable {G:List GR}
def zgi{x:GR}:¬ltG x x:=by unfold ltG;omega
def zcm{x y z:GR}(h:ltG x y)(k:ltG y z):ltG x z:=by unfold ltG at *; omega
def BD{x y:GR}:∀{G:List GR},y∈kJ x G↔y=x\/y∈G
 | []=>by simp[kJ]
 | z::G=>by
  unfold kJ;split
  .simp
  .rw[oO,BD (G:=G),oO];constructor
   .rintro(h|h|h)
    .exact .inr (.inl h)
    .exact .inl h
    .exact .inr (.inr h)
   .rintro(h|h|h)
    .exact .inr (.inl h)
    .exact .inl h
    .exact .inr (.inr h)
def Wx{x y:GR}(h:x.o≠y.o):∀{G:List GR},kJ x (kJ y G)=kJ y (kJ x G)
 | []=>by
  simp only[kJ];by_cases a:ltG x y
  .rw[oJ a,oI (by unfold ltG at *; omega)]
  .rw[oI a,oJ (by unfold ltG at *; omega)]
 | z::G=>by
  by_cases b:ltG x z<;>by_cases c:ltG y z
  .by_cases a:ltG x y
   .simp[kJ,b,c,a,show ¬ltG y x by unfold ltG at *; omega]
   .simp[kJ,b,c,a,show ltG y x by unfold ltG at *; omega]
  .simp[kJ,b,c,show ¬ltG y x by unfold ltG at *; omega]
  .simp[kJ,b,c,show ¬ltG x y by unfold ltG at *; omega]
  .simp[kJ,b,c,Wx h (G:=G)]
def Kq{x:GR}:∀{G:List GR},G.Pairwise ltG->(∀y∈G,¬(y.o=x.o/\y.q=x.q))->(kJ x G).Pairwise ltG
 | [],_,_=>by simp[kJ]
 | z::G,h,hn=>by
  rw[List.pairwise_cons]at h;unfold kJ;split
  .rename_i b;rw[List.pairwise_cons,List.pairwise_cons];refine⟨λy a=>?_,h⟩;rcases oO.1 a with rfl|a
   .exact b
   .exact zcm b (h.1 y a)
  .rename_i b;rw[List.pairwise_cons];refine⟨λy a=>?_,Kq h.2 λy a=>hn y (by simp[a])⟩;rcases BD.1 a with rfl|a
   .have:=hn z oB;unfold ltG at *; omega
   .exact h.1 y a
def Sc{x:GR}{g:GR->GR}(b:g x=x)(a:∀y,(g y).o=y.o/\(g y).q=y.q):∀{G:List GR},kJ x (G.map g)=(kJ x G).map g
 | []=>by simp[kJ,b]
 | z::G=>by
  have e:ltG x (g z)↔ltG x z:=by unfold ltG;rw[(a z).1,(a z).2]
  simp only[jK,kJ];by_cases h:ltG x z
  .rw[oJ (e.2 h),oJ h];simp[b]
  .rw[oI (λc=>h (e.1 c)),oI h,jK,Sc b a (G:=G)]
def Yp{x:GR}{o q:Int}(h : ¬(x.o=o/\x.q=q)):∀{G:List GR},mw (kJ x G) o q=mw G o q
 | []=>by
  have:(x.o==o&&x.q==q)=false:=by
   cases a:(x.o==o&&x.q==q)with
   | false=>rfl
   | true=>rw[oM,beq_iff_eq,beq_iff_eq]at a;exact qI a h
  simp[mw,kJ,List.find?,this]
 | z::G=>by
  have a:(x.o==o&&x.q==q)=false:=by
   cases a:(x.o==o&&x.q==q)with
   | false=>rfl
   | true=>rw[oM,beq_iff_eq,beq_iff_eq]at a;exact qI a h
  unfold kJ;split
  .simp[mw,List.find?,a]
  .have b:=Yp h (G:=G);unfold mw at b |-;simp only[List.find?_cons];split
   .rfl
   .exact b
def RY{g:GR->GR}{o q:Int}(b:∀y,(g y).o=y.o/\(g y).q=y.q)(c:∀y,y.o=o->y.q=q->g y=y):∀{G:List GR},mw (G.map g) o q=mw G o q
 | []=>rfl
 | z::G=>by
  have d:=RY b c (G:=G);unfold mw at d |-;simp only[jK,List.find?_cons,(b z).1,(b z).2];cases a:(z.o==o&&z.q==q)with
  | false=>exact d
  | true =>
   rw[oM,beq_iff_eq,beq_iff_eq]at a;show some (g z)=some z;rw[c z a.1 a.2]
def BA{o q:Int}{g:GR}(h:mw G o q=some g):g∈G/\g.o=o/\g.q=q:=by unfold mw at h;have b:=List.mem_of_find?_eq_some h;have a:=List.find?_some h;rw[oM,beq_iff_eq,beq_iff_eq]at a;exact⟨b,a⟩
end
section
variable {S E:Type}(eff:E->S->S)(ok:E->S->Prop)
def je(s:S)(l:List E):S:=l.foldl (λs e=>eff e s) s
def okL:S->List E->Prop
 | _,[]=>True
 | s,e::l=>ok e s/\okL (eff e s) l
variable {eff ok}
def BI{s:S}{l l':List E}:je eff s (l++l')=je eff (je eff s l) l':=by unfold je;rw[List.foldl_append]
def BW{l':List E}:∀{l:List E} {s:S},okL eff ok s (l++l')↔okL eff ok s l/\okL eff ok (je eff s l) l'
 | [],s=>by simp[okL,je]
 | e::l,s=>by
  have:=BW (l':=l') (l:=l) (s:=eff e s)
  simp only[jE,okL,this,and_assoc];rfl
structure Sys(eff:E->S->S) (ok:E->S->Prop) (org:E->Nat) (Inv:S->Prop):Prop where
 inv:∀e s,Inv s->ok e s->Inv (eff e s)
 dia:∀e f s,Inv s->org f≠org e->ok e s->ok f s->ok f (eff e s)/\eff f (eff e s)=eff e (eff f s)
variable {org:E->Nat}{Inv:S->Prop}(H:Sys eff ok org Inv)
include H
def Sys.invs:∀{l:List E} {s:S},Inv s->okL eff ok s l->Inv (je eff s l)
 | [],_,h,_=>h
 | e::_,s,h,k=>Sys.invs (s:=eff e s) (H.inv e s h k.1) k.2
end
section
variable {S E:Type}{eff:E->S->S}{ok:E->S->Prop}{org:E->Nat}{seq:E->Int}{dep:E->Nat->Int}{Inv:S->Prop}{s0:S}
def kn(org:E->Nat)(seq:E->Int)(D:Nat->Int)(e:E):Bool:=decide (seq e<=D (org e))
def zbF(org:E->Nat)(seq:E->Int)(dep:E->Nat->Int)(l:List E)(D:Nat->Int):Prop:=∀f∈l,seq f<=D (org f)->∀k,dep f k<=D k
inductive zaJ (eff:E->S->S) (ok:E->S->Prop) (org:E->Nat) (seq:E->Int) (dep:E->Nat->Int) (s0:S):List E->Prop
 | nil:zaJ eff ok org seq dep s0 []
 | snoc {l:List E} {e:E}:zaJ eff ok org seq dep s0 l->(∀f∈l,org f=org e->seq f<seq e)->dep e (org e)=seq e-1->zbF org seq dep l (dep e)->ok e (je eff s0 (l.filter (kn org seq (dep e))))->zaJ eff ok org seq dep s0 (l++[e])
def stD(eff:E->S->S)(org:E->Nat)(seq:E->Int)(s0:S)(l:List E)(D:Nat->Int):S:=je eff s0 (l.filter (kn org seq D))
def upD(D:Nat->Int)(k:Nat)(x:Int):Nat->Int:=λj=>if j=k then x else D j
end
end Go.Proofs.YtgohpbmmcgenpaaGreatDoor
