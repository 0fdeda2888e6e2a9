import Derived.Test.YtpaghmnnhedccaaGreatDoorQ2
import Derived.Maps.RangeRun
import Derived.MapKept
import Derived.Laws.StructEq
import Derived.Maps.AppendAt
set_option linter.all false
namespace Go.Proofs.YtpaghmnnhedccaaGreatDoor
set_option maxRecDepth 100000
set_option maxHeartbeats 4000000
open Go.Proofs.Tryz
open Go.RowKit
variable {w w' w0 w2 S O:oG}{K:KV}{zf:Nat->oF}{b c o i g m s j f z d c2 D B2 hi:Nat}{a av a2:Option Addr}{x v r:Int}{E t e:TypeId}{A:List Int}{B1 N R:KE}{xs ys vs:oE}{cx cy:Bool}{α κ:Type}{T:List (Int×Int)}{O0:FuncId}{X1 Z1 N2 O2 P2 Q2 R2 T2 U2 V2 X2 N3 O3 P3 Q3 T3 U3 H Z U Y J C:oF}
section
open Go.ChangeMaps Go.MapKept
structure HE(P:Program) (k:TypeId) {κ:Type} (kv:κ->oF):Prop where
 inj:∀x y,kv x=kv y->x=y
 chk:∀w em x,(Instr.checkKey em 10000 k (kv x)).run P w=.ok () w
 find:∀(w:oG) x (es:List MapEntry),(∀e∈es,∃y,e.key=kv y) ->
  ((Instr.findKey k (kv x) es).run P w=.ok none w/\∀e∈es,e.key≠kv x)\/∃j e,(Instr.findKey k (kv x) es).run P w=.ok (some (j,e.val)) w/\es[j]? = some e/\e.key=kv x
 stays:∀(w:oG) x,(Instr.keyThatStays (kv x) (kv x)).run P w=.ok (kv x) w
section
variable {P:Program}{k:TypeId}
def ZF{q:IntKind}(hk:P.underlying k=some (.int q)):HE P k (Value.int q) where
 inj x y h:=by simpa using h
 chk w em x:=by
  show (Instr.checkKey em (9999+1) k _).run P w=_;rw[Instr.checkKey];simp[jZ hk]
 stays w x:=by
  have:Instr.sameBits 10000 (.int q x) (.int q x)=true:=by unfold Instr.sameBits;simp
  unfold Instr.keyThatStays;rw[oJ this,jX]
 find w x es hes:=by
  have key:∀(es:List MapEntry) (i:Nat),(∀e∈es,∃y,e.key=Value.int q y)->(Instr.findNow (.int q) (.int q x) es i=some none/\∀e∈es,e.key≠.int q x)\/∃j e,Instr.findNow (.int q) (.int q x) es i=some (some (i+j,e.val))/\es[j]? = some e/\e.key=.int q x:=by
   intro es
   induction es with
   | nil=>intro i _;exact .inl ⟨rfl,by simp⟩
   | cons e es ih =>
    intro i hes;obtain⟨y,hy⟩:=hes e oB;by_cases hxy:x=y
    .subst hxy;exact .inr ⟨0,e,by simp[Instr.findNow,Instr.sameNow,hy],rfl,hy⟩
    .have hne:e.key≠.int q x:=by rw[hy];simpa using λh=>hxy h.symm
     have hb:(x==y)=false:=by simpa using hxy
     rcases ih (i+1) (λa b => hes a (by simp[b]))with⟨h1,h2⟩|⟨j,e',h1,h2,h3⟩
     .refine .inl ⟨by simp[Instr.findNow,Instr.sameNow,hy,hb,h1],λe' he'=>?_⟩;rcases oO.1 he' with rfl|he'
      .exact hne
      .exact h2 e' he'
     .exact .inr ⟨j+1,e',by simp[Instr.findNow,Instr.sameNow,hy,hb,h1];omega,by simpa using h2,h3⟩
  rcases key es 0 hes with⟨h1,h2⟩|⟨j,e,h1,h2,h3⟩
  .exact .inl ⟨by simp[Instr.findKey,jZ hk,h1],h2⟩
  .exact .inr ⟨j,e,by simp[Instr.findKey,jZ hk,h1],h2,h3⟩
def YE{kv:κ->oF}(fs:Array Field)(hk:P.underlying k=some (.struct fs))(hagg:∀x,∃cs,kv x=.agg cs)(inj:∀x y,kv x=kv y->x=y)(chk:∀w em x,(Instr.checkKey em 10000 k (kv x)).run P w=.ok () w)(eq:∀(w:oG) x y,∃b:Bool,(Op.equal k (kv x) (kv y)).run P w=.ok b w/\(b=true↔kv x=kv y))(same:∀x,Instr.sameBits 10000 (kv x) (kv x)=true):HE P k kv where
 inj:=inj
 chk:=chk
 stays w x:=by unfold Instr.keyThatStays;rw[oJ (same x),jX]
 find w x es hes:=by
  have key:∀(es:List MapEntry) (i:Nat),(∀e∈es,∃y,e.key=kv y)->((Instr.findAsking k (kv x) es i).run P w=.ok none w/\∀e∈es,e.key≠kv x)\/∃j e,(Instr.findAsking k (kv x) es i).run P w=.ok (some (i+j,e.val)) w/\es[j]? = some e/\e.key=kv x:=by
   intro es
   induction es with
   | nil=>intro i _;exact .inl ⟨by simp[Instr.findAsking],by simp⟩
   | cons e es ih =>
    intro i hes;obtain⟨y,hy⟩:=hes e oB;obtain⟨b,hb,hbe⟩:=eq w x y;cases b with
    | true =>
     have:=hbe.1 rfl
     exact .inr ⟨0,e,by simp[Instr.findAsking,hy,hb],rfl,by rw[hy,this]⟩
    | false =>
     have hne:e.key≠kv x:=by rw[hy];intro h;exact qI (hbe.2 h.symm) oB
     rcases ih (i+1) (λa b => hes a (by simp[b]))with⟨h1,h2⟩|⟨j,e',h1,h2,h3⟩
     .refine .inl ⟨by simp[Instr.findAsking,hy,hb,h1],λe' he'=>?_⟩;rcases oO.1 he' with rfl|he'
      .exact hne
      .exact h2 e' he'
     .exact .inr ⟨j+1,e',by simp[Instr.findAsking,hy,hb,h1];omega,by simpa using h2,h3⟩
  have hfk:(Instr.findKey k (kv x) es).run P w=(Instr.findAsking k (kv x) es).run P w:=by
   obtain⟨cs,hcs⟩:=hagg x;cases es with
   | nil=>simp[Instr.findKey,jZ hk,Instr.findNow,Instr.findAsking]
   | cons e es=>simp[Instr.findKey,jZ hk,Instr.findNow,Instr.sameNow]
  rw[hfk];rcases key es 0 hes with⟨h1,h2⟩|⟨j,e,h1,h2,h3⟩
  .exact .inl ⟨h1,h2⟩
  .exact .inr ⟨j,e,by simpa using h1,h2,h3⟩
end
section
variable {ν:Type}[DecidableEq κ]
def dA:List (κ×ν)->κ->Option ν
 | [],_=>none
 | p::m,x=>if p.1=x then some p.2 else dA m x
def vm:List (κ×ν)->κ->ν->List (κ×ν)
 | [],x,v=>[(x,v)]
 | p::m,x,v=>if p.1=x then (x,v)::m else p::vm m x v
def wy{m:List (κ×ν)}{x:κ}:dA m x=none↔x∉m.map (·.1):=by
 induction m with
 | nil=>simp[dA]
 | cons p m ih =>
  by_cases h:p.1=x
  .simp[dA,h]
  .have : ¬x=p.1:=λe=>h e.symm
   simp only[dA,h,if_false,ih,jK,oO,this,false_or]
def wY{m:List (κ×ν)}{x:κ}{v:ν}(h:dA m x=some v):(x,v)∈m:=by
 induction m with
 | nil=>simp[dA]at h
 | cons p m ih =>
  by_cases a:p.1=x
  .simp only[dA,a,if_true,qD]at h;subst h;subst a;simp
  .simp only[dA,a,if_false]at h;exact oH _ (ih h)
def mY{m:List (κ×ν)}{x:κ}{v:ν}(a:(m.map (·.1)).Nodup)(h:(x,v)∈m):dA m x=some v:=by
 induction m with
 | nil=>simp at h
 | cons p m ih =>
  simp only[jK,jG]at a;rcases oO.1 h with rfl|h
  .simp[dA]
  .have b : ¬p.1=x:=by
    rintro rfl;exact a.1 (qU.2 ⟨_,h,rfl⟩)
   simp only[dA,b,if_false];exact ih a.2 h
def zdz{m:List (κ×ν)}{x:κ}{v:ν}:(vm m x v).map (·.1)=if x∈m.map (·.1)then m.map (·.1)else m.map (·.1)++[x]:=by
 induction m with
 | nil=>simp[vm]
 | cons p m ih =>
  by_cases h:p.1=x
  .simp[vm,h]
  .have a : ¬x=p.1:=λe=>h e.symm;simp only[vm,h,if_false,jK,ih,oO,a,false_or];split<;>simp
def CZ{m:List (κ×ν)}{x:κ}{v:ν}(h:(m.map (·.1)).Nodup):((vm m x v).map (·.1)).Nodup:=by
 rw[zdz];split
 .exact h
 .rename_i e;rw[List.nodup_append];refine⟨h,by simp,λa d b c=>?_⟩;simp at c;subst c;rintro rfl;exact e d
def Nw{m:List (κ×ν)}{x y:κ}{v:ν}:dA (vm m x v) y=if y=x then some v else dA m y:=by
 induction m with
 | nil =>
  by_cases h:y=x
  .subst h;simp[vm,dA]
  .have : ¬x=y:=λe=>h e.symm
   simp[vm,dA,h,this]
 | cons p m ih =>
  by_cases h:p.1=x
  .by_cases b:y=x
   .subst b;simp[vm,dA,h]
   .have c : ¬x=y:=λe=>b e.symm;have d : ¬p.1=y:=by rw[h];exact c
    simp[vm,dA,h,b,c]
  .by_cases a:p.1=y
   .have b : ¬y=x:=λe=>h (a.trans e);simp[vm,dA,h,a,b]
   .simp[vm,dA,h,a,ih]
def ZQ{m:List (κ×ν)}{x:κ}{v c:ν}(a:(m.map (·.1)).Nodup)(h:m[j]? = some (x,c)):vm m x v=m.set j (x,v):=by
 induction m generalizing j with
 | nil=>simp at h
 | cons p m ih =>
  simp only[jK,jG]at a;cases j with
  | zero=>simp at h;subst h;simp[vm]
  | succ j =>
   simp at h;have b : ¬p.1=x:=by
    rintro rfl;exact a.1 (qU.2 ⟨_,mO h,rfl⟩)
   simp[vm,b,ih a.2 h]
end
section
variable {ν:Type}
structure MBs(kv:κ->oF) (vv:ν->oF) (w:oG) (b:Nat) (m:List (κ×ν)) (es:Array MapEntry) (clock:Nat):Prop where
 heap:w.heap[b]? = some (.map es clock)
 keys:es.toList.map (·.key)=m.map λp=>kv p.1
 vals:es.toList.map (·.val)=m.map λp=>vv p.2
 nodup:(m.map (·.1)).Nodup
 born:(es.toList.map (·.born)).Pairwise (· < ·)
 old:∀e∈es.toList,e.born<clock
def MB(kv:κ->oF)(vv:ν->oF)(w:oG)(b:Nat)(m:List (κ×ν)):Prop:=∃a clock,MBs kv vv w b m a clock
variable {kv:κ->oF}{vv:ν->oF} {m:List (κ×ν)}{es:Array MapEntry}{clock:Nat}
def MBs.len(h:MBs kv vv w b m es clock):es.size=m.length:=by
 have:=qH List.length h.keys
 simpa using this
def MBs.get(h:MBs kv vv w b m es clock){e:MapEntry}(f:es.toList[i]? = some e):∃p,m[i]? = some p/\e.key=kv p.1/\e.val=vv p.2:=by
 have a:=qH (λl=>l[i]?) h.keys;have c:=qH (λl=>l[i]?) h.vals;simp only[qC,f,jP]at a c;cases d:m[i]? with
 | none=>rw[d]at a;simp at a
 | some p =>
  rw[d]at a c;simp at a c;exact⟨p,rfl,a,c⟩
def MBs.keyed(h:MBs kv vv w b m es clock):∀e∈es.toList,∃y,e.key=kv y:=by intro e c;obtain⟨i,d,rfl⟩:=List.getElem_of_mem c;obtain⟨p,_,a,_⟩:=h.get (gE d);exact⟨p.1,a⟩
def MB.lt(h:MB kv vv w b m):b<w.heap.size:=by obtain⟨es,c,h⟩:=h;exact(qM.1 h.heap).1
def MB.kept(h:MB kv vv w b m)(a:S.heap[b]? = w.heap[b]?):MB kv vv S b m:=by obtain⟨es,c,h⟩:=h;exact⟨es,c,a.trans h.heap,h.keys,h.vals,h.nodup,h.born,h.old⟩
def MB.below(h:MB kv vv w b m)(a:Below w.heap.size w S):MB kv vv S b m:=h.kept (a.block b h.lt)
def MB.oth(h:MB kv vv w b m)(c:Oth g w S)(a:b≠g):MB kv vv S b m:=h.kept (c.other b a)
variable {P:Program} {k:TypeId}
def wZ{r:Option oF}(c:P.underlying t=some (.map k e))(b:r=none)(kv:κ->oF)(vv:ν->oF)(h:∀w',MB kv vv w' w.heap.size ([]:List (κ×ν))->Below w.heap.size w w'->w'.heap.size=w.heap.size+1->K (.map (some w.heap.size)) w'):fl P t r K w:=by subst b;unfold fl;refine dR (w':=w.alloc (.map #[] 0)) (v:=.map (some w.heap.size)) (by simp[Instr.makeMap]) (h _ ⟨#[],0,heap_alloc_new w _,rfl,rfl,by simp,by simp,by simp⟩ (bX (World.grownBy_alloc _ _ none) oA (λk a=>by cases a)) oB)
def zcd{cs:Array Bool}(f:P.underlying t=some (.map k e))(a:MB kv vv w b m)(h:K (ci (m.length:Int)) w):blt P .len #[t] E cs #[.map (some b)] K w:=by obtain⟨es,c,a⟩:=a;have d:=a.len;refine qz (v:=ci (m.length:Int)) (w':=w) ?_ h;rw[BigFrame.builtin_len];simp[Builtin.len_,jZ f,MapKept.run_getObj_map a.heap,Result.andThen,d,goInt]
def QZ{o:Obj}(a:w.heap[b]? = some (.map es clock)):Oth b w (setBlock w b o) :=
 ⟨rfl,rfl,rfl,by simp[setBlock],λi c=>heap_setBlock_other a o c⟩
end
section
variable {ν:Type}[DecidableEq κ]{kv:κ->oF}{vv:ν->oF} {m:List (κ×ν)}{es:Array MapEntry}{clock:Nat}
variable {P:Program} {k:TypeId}
def MBs.find{P:Program}{k:TypeId}(h:MBs kv vv w b m es clock)(K:HE P k kv)(x:κ):(dA m x=none/\(Instr.findKey k (kv x) es.toList).run P w=.ok none w/\∀e∈es.toList,e.key≠kv x) \/
  ∃j e v,dA m x=some v/\(Instr.findKey k (kv x) es.toList).run P w=.ok (some (j,vv v)) w/\es.toList[j]? = some e/\e.key=kv x/\e.val=vv v/\m[j]? = some (x,v):=by
 rcases K.find w x es.toList h.keyed with⟨d,a⟩|⟨j,e,d,a,i⟩
 .refine .inl ⟨wy.2 λf=>?_,d,a⟩;obtain⟨p,c,rfl⟩:=qU.1 f
  have:kv p.1∈es.toList.map (·.key):=by rw[h.keys];exact qU.2 ⟨p,c,rfl⟩
  obtain⟨e,n,o⟩:=qU.1 this;exact a e n o
 .obtain⟨p,c,l,g⟩:=h.get a;have f:p.1=x:=K.inj _ _ (l.symm.trans i);obtain⟨r,q⟩:=p;cases f;exact .inr ⟨j,e,q,mY h.nodup (mO c),by rw[<-g];exact d,a,i,g,c⟩
def Tc{z0:ν}(KK:HE P k kv)(g:P.underlying t=some (.map k e))(i:∀w,(zeroValue e).run P w=.ok (vv z0) w)(a:MB kv vv w b m){x:κ}(h:K (vv ((dA m x).getD z0)) w):lkp P t (.map (some b)) (kv x) false K w:=by
 obtain⟨es,c,a⟩:=a;unfold lkp;rcases a.find KK x with⟨d,f,_⟩|⟨j,l,v,d,f,_⟩
 .rw[d]at h;exact dR (w':=w) (v:=vv z0) (by simp[Instr.lookup,jZ g,MapKept.run_getObj_map a.heap,KK.chk,f,i,Result.andThen]) h
 .rw[d]at h;exact dR (w':=w) (v:=vv v) (by simp[Instr.lookup,jZ g,MapKept.run_getObj_map a.heap,KK.chk,f,Result.andThen]) h
def ZJ{z0:ν}(KK:HE P k kv)(g:P.underlying t=some (.map k e))(i:∀w,(zeroValue e).run P w=.ok (vv z0) w)(a:MB kv vv w b m){x:κ}(h:K (.tuple #[vv ((dA m x).getD z0),.bool (dA m x).isSome]) w):lkp P t (.map (some b)) (kv x) true K w:=by
 obtain⟨es,c,a⟩:=a;unfold lkp;rcases a.find KK x with⟨d,f,_⟩|⟨j,l,v,d,f,_⟩
 .rw[d]at h;exact dR (w':=w) (by simp[Instr.lookup,jZ g,MapKept.run_getObj_map a.heap,KK.chk,f,i,Result.andThen]) h
 .rw[d]at h;exact dR (w':=w) (by simp[Instr.lookup,jZ g,MapKept.run_getObj_map a.heap,KK.chk,f,Result.andThen]) h
def vT(KK:HE P k kv)(F:P.underlying t=some (.map k e))(d:MB kv vv w b m){x:κ}{v:ν}(h:∀w',MB kv vv w' b (vm m x v)->Oth b w w'->K undef w'):fk P t (.map (some b)) (kv x) (vv v) K w:=by
 obtain⟨es,c,d⟩:=d;unfold fk;rcases d.find KK x with⟨A,n,s⟩|⟨j,e0,R,A,n,s,H,N,z⟩
 .refine Vp (u:=()) (w':=setBlock w b (.map (es.push ⟨kv x,vv v,c⟩) (c+1))) (by simp[Instr.mapUpdate,jZ F,MapKept.run_getObj_map d.heap,KK.chk,n,MapKept.run_setObj_map _ d.heap,Result.andThen,setBlock]) (h _ ?_ (QZ d.heap));have E:=wy.1 A;have q:vm m x v=m++[(x,v)]:=by
   clear h n s A d
   induction m with
   | nil=>rfl
   | cons p m ih =>
    simp only[jK,oO,not_or]at E;have L : ¬p.1=x:=λe=>E.1 e.symm;simp[vm,L,ih E.2]
  rw[q];refine⟨_,_,heap_setBlock_same d.heap _,by simp[d.keys],by simp[d.vals],?_,?_,?_⟩
  .rw[<-q];exact CZ d.nodup
  .rw[Array.toList_push,jJ,List.pairwise_append];refine⟨d.born,by simp,λa I M y=>?_⟩;obtain⟨r,f,rfl⟩:=qU.1 I;simp at y;subst y;exact d.old r f
  .intro r f;simp only[Array.toList_push,oU,List.mem_singleton]at f;rcases f with f|rfl
   .exact Nat.lt_succ_of_lt (d.old r f)
   .exact Nat.lt_succ_self c
 .have J:es[j]? = some e0:=by rw[<-Array.getElem?_toList];exact s
  have D:=KK.stays w x;refine Vp (u:=()) (w':=setBlock w b (.map (es.modify j λe=>{e with key:=kv x,val:=vv v}) c)) (by simp[Instr.mapUpdate,jZ F,MapKept.run_getObj_map d.heap,KK.chk,n,J,H,D,MapKept.run_setObj_map _ d.heap,Result.andThen,setBlock]) (h _ ?_ (QZ d.heap));rw[ZQ d.nodup z]
  have o:((es.modify j λe=>{e with key:=kv x,val:=vv v}).toList.map (·.born))=es.toList.map (·.born):=by
   rw[Array.toList_modify];apply List.ext_getElem?;intro i;simp only[qC,List.getElem?_modify];cases O:es.toList[i]? with
   | none=>simp
   | some r=>by_cases g:j=i<;>simp[g]
  refine⟨_,c,heap_setBlock_same d.heap _,?_,?_,?_,by rw[o];exact d.born,?_⟩
  .rw[Array.toList_modify];apply List.ext_getElem?;intro i;have n:=qH (λl=>l[i]?) d.keys;simp only[qC,List.getElem?_modify,List.getElem?_set]at n |-;by_cases g:j=i
   .subst g;rw[s]at n |-
    have:=(gS z).1
    simp[this]
   .simpa[g]using n
  .rw[Array.toList_modify];apply List.ext_getElem?;intro i;have n:=qH (λl=>l[i]?) d.vals;simp only[qC,List.getElem?_modify,List.getElem?_set]at n |-;by_cases g:j=i
   .subst g;rw[s]at n |-
    have:=(gS z).1
    simp[this]
   .simpa[g]using n
  .rw[<-ZQ d.nodup z];exact CZ d.nodup
  .intro r f
   have:r.born∈es.toList.map (·.born):=by rw[<-o];exact qU.2 ⟨r,f,rfl⟩
   obtain⟨G,C,B⟩:=qU.1 this;rw[<-B];exact d.old G C
end
def wA{κ:Type}[DecidableEq κ]:∀{l l':List κ},l.Nodup->(∀x∈l,x∈l')->l.length<=l'.length
 | [],_,_,_=>by simp
 | x::l,l',hn,hs=>by
  have b:x∈l':=hs x oB;simp only[jG]at hn
  have:=wA (l:=l) (l':=l'.erase x) hn.2 λy c=>by
   have a:y≠x:=by rintro rfl;exact hn.1 c
   exact(List.mem_erase_of_ne a).2 (hs y (by simp[c]))
  rw[List.length_erase_of_mem b]at this;have d:=List.length_pos_of_mem b;simp only[oZ];omega
section
variable {ν:Type}
variable {kv:κ->oF}{vv:ν->oF} {r:Nat}{m:List (κ×ν)}{x:κ}
def IT(kv:κ->oF)(vv:ν->oF)(w:oG)(r b:Nat)(m:List (κ×ν))(done:List κ):Prop :=
 ∃f c a d c0,MBs kv vv w b m f c/\w.heap[r]? = some (.mapIter (some b) a d c0)/\(∀e∈f.toList,e.born<a)/\a<=c0/\a<=c /\
  (∀(i:Nat) (e:MapEntry) (p:κ×ν),f.toList[i]? = some e->m[i]? = some p->(d.contains e.born=true↔p.1∈done))/\done.Nodup/\∀x∈done,x∈m.map (·.1)
variable {done:List κ}
def IT.kept(h:IT kv vv w r b m done)(k:S.heap[b]? = w.heap[b]?)(l:S.heap[r]? = w.heap[r]?):IT kv vv S r b m done:=by obtain⟨i,c,a,f,g,d,j,e⟩:=h;exact⟨i,c,a,f,g,⟨k.trans d.heap,d.keys,d.vals,d.nodup,d.born,d.old⟩,l.trans j,e⟩
def IT.lt(h:IT kv vv w r b m done):r<w.heap.size/\b<w.heap.size:=by obtain⟨i,c,a,d,g,e,f,_⟩:=h;exact⟨(qM.1 f).1,(qM.1 e.heap).1⟩
def IT.below(h:IT kv vv w r b m done)(a:Below w.heap.size w S):IT kv vv S r b m done:=h.kept (a.block b h.lt.2) (a.block r h.lt.1)
def IT.nodup(h:IT kv vv w r b m done):done.Nodup/\(m.map (·.1)).Nodup/\∀x∈done,x∈m.map (·.1):=by obtain⟨j,c,a,d,i,e,_,_,_,_,_,f,g⟩:=h;exact⟨f,e.nodup,g⟩
def EN(kv:κ->oF)(vv:ν->oF)(w:oG)(r b:Nat)(x:κ)(v:ν):Prop :=
 ∃(f:Array MapEntry) (a c:Nat) (d:Array Nat) (e:MapEntry),w.heap[b]? = some (.map f a)/\w.heap[r]? = some (.mapIter (some b) c (d.push e.born) a)/\e∈f.toList/\(f.toList.map (·.born)).Nodup/\e.key=kv x/\e.val=vv v
variable {P:Program} {k:TypeId}
def Ph{x:κ}{v:ν}(h:EN kv vv w r b x v)(f:K (.tuple #[kv x,vv v]) w):ent P (pA r 0) K w:=by obtain⟨i,c,a,d,e,k,n,l,m,g,j⟩:=h;unfold ent;rw[<-g, <-j]at f;exact dR (run_entry_at (P:=P) w r b a d i c e n k l m) f
def Ql(l:P.underlying t=some (.map k e))(a:MB kv vv w b m)(h:∀S,IT kv vv S w.heap.size b m []->Below w.heap.size w S->S.heap.size=w.heap.size+1->K (pA w.heap.size 0) S):rng P t (.map (some b)) K w:=by
 have d:=a.lt;obtain⟨f,c,a⟩:=a;unfold rng;have g:Below w.heap.size w (w.alloc (.mapIter (some b) c #[] c)):=bX (World.grownBy_alloc _ _ none) oA (λk j=>by cases j)
 refine dR (run_range_map w t k e b f c l a.heap) (h _ ⟨f,c,c,#[],c,⟨?_,a.keys,a.vals,a.nodup,a.born,a.old⟩,heap_alloc_new w _,a.old,Nat.le_refl _,Nat.le_refl _,λi e p n o=>by simp,by simp,by simp⟩ g oB);rw[g.block b d];exact a.heap
def iV(w:oG)(b r:Nat):Nat :=
 match w.heap[b]?,w.heap[r]? with
 | some (.map es _),some (.mapIter _ _ seen _)=>(leftOf es seen).size
 | _,_=>0
def xd{r:Nat}(a:S.heap[b]? = w.heap[b]?)(c:S.heap[r]? = w.heap[r]?):iV S b r=iV w b r:=by unfold iV;rw[a,c]
def ED(hi:IT kv vv w r b m done)(a:Below w.heap.size w S):iV S b r=iV w b r:=xd (a.block b hi.lt.2) (a.block r hi.lt.1)
def UN{α:Type}{p q:α->Bool}:∀{l:List α} {e:α},e∈l->p e=true->q e=false->(∀x,q x=true->p x=true)->(l.filter q).length<(l.filter p).length
 | a::l,e,f,hp,hq,hs=>by
  have g:∀l:List α,(l.filter q).length<=(l.filter p).length:=by
   intro l
   induction l with
   | nil=>simp
   | cons x l d =>
    by_cases b:q x=true
    .rw[List.filter_cons_of_pos b,List.filter_cons_of_pos (hs x b)];simpa using d
    .rw[List.filter_cons_of_neg b];by_cases c:p x=true
     .rw[List.filter_cons_of_pos c];simp only[oZ];omega
     .rw[List.filter_cons_of_neg c];exact d
  rcases oO.1 f with rfl|f
  .rw[List.filter_cons_of_neg (by simp[hq]),List.filter_cons_of_pos hp]
   have:=g l
   simp only[oZ];omega
  .have d:=UN f hp hq hs;by_cases b:q a=true
   .rw[List.filter_cons_of_pos b,List.filter_cons_of_pos (hs a b)];simpa using d
   .rw[List.filter_cons_of_neg b];by_cases c:p a=true
    .rw[List.filter_cons_of_pos c];simp only[oZ];omega
    .rw[List.filter_cons_of_neg c];exact d
def PW(hi:IT kv vv w r b m done)(F:r≠b)(h0:(∀x∈m.map (·.1),x∈done)->K (.tuple #[.bool false]) w)(h1:∀(x:κ) (v:ν) (w':oG),(x,v)∈m->x∉done->IT kv vv w' r b m (done++[x])->EN kv vv w' r b x v->Oth r w w'->iV w' b r<iV w b r->K (.tuple #[.bool true,kv x,vv v]) w'):nxt P (pA r 0) false E K w:=by
 obtain⟨g,c,d,f,c0,l,Z,B,ab,O,t,Y,R⟩:=hi;unfold nxt;rcases run_next_at (P:=P) w E r b d c0 f g c Z l.heap B ab with⟨hz,n⟩|⟨U,z,T,u,n⟩
 .refine dR n (h0 λx I=>?_);obtain⟨p,H,rfl⟩:=qU.1 I;obtain⟨i,hi,rfl⟩:=List.getElem_of_mem H;have ac:=l.len;have X:i<g.toList.length:=by simp;omega
  refine(t i g.toList[i] m[i] (gE X) (gE hi)).1 ?_;have o:leftOf g f=#[]:=Array.eq_empty_of_size_eq_zero hz;unfold leftOf at o;rw[Array.filter_eq_empty_iff]at o
  have:=o g.toList[i] oB
  simpa using this
 .have k:U∈g.toList/\f.contains U.born=false:=by
   unfold leftOf at z;simp at z;exact⟨by simpa using z.1,by simpa using z.2⟩
  obtain⟨i,hi,rfl⟩:=List.getElem_of_mem k.1;obtain⟨p,H,ek,ev⟩:=l.get (gE hi);obtain⟨x,v⟩:=p;have S:x∉done:=λI=>by
   have:=(t i _ _ (gE hi) H).2 I
   rw[this]at k;exact qI k.2 oB
  have G:T.heap[r]? = some (.mapIter (some b) d f c0):=by rcases u with rfl|rfl<;>exact Z
  have A:Oth r T (setBlock T r (.mapIter (some b) d (f.push g.toList[i].born) c)):=by
   refine⟨rfl,rfl,rfl,by simp[setBlock],λj D=>?_⟩;simp only[setBlock];rw[Array.getElem?_setIfInBounds_ne (λh=>D h.symm)]
  rw[ek,ev]at n;refine dR n (h1 x v _ (mO H) S ⟨g,c,d,f.push g.toList[i].born,c,⟨?_,l.keys,l.vals,l.nodup,l.born,l.old⟩,?_,B,O,O,?_,?_,?_⟩ ⟨g,c,d,f,g.toList[i],?_,?_,List.getElem_mem hi,l.born.imp (λh=>Nat.ne_of_lt h),ek,ev⟩ ?_ ?_)
  .rw[A.other b (λh=>F h.symm)];rcases u with rfl|rfl<;>exact l.heap
  .simp only[setBlock];rw[Array.getElem?_setIfInBounds_self_of_lt (qM.1 G).1]
  .intro j V p2 M N;have D:=(gS M)
   have s:=(gS N)
   have q:=(gS H)
   have L:=List.pairwise_iff_getElem.1 l.born;have hk:=List.pairwise_iff_getElem.1 l.nodup;have C:(V.born=g.toList[i].born↔j=i)/\(p2.1=x↔j=i):=by
    rcases Nat.lt_trichotomy j i with h|h|h
    .have W:=L j i (by simpa using D.1) (by simpa using hi) h;have J:=hk j i (by simpa using s.1) (by simpa using q.1) h;simp only[List.getElem_map,D.2,s.2,q.2]at W J;exact⟨⟨λe=>by omega,λe=>by omega⟩,⟨λe=>qI e J,λe=>by omega⟩⟩
    .subst h;rw[<-D.2]
     have:p2=(x,v):=by rw[<-s.2, <-q.2]
     rw[this];simp
    .have W:=L i j (by simpa using hi) (by simpa using D.1) h;have J:=hk i j (by simpa using q.1) (by simpa using s.1) h;simp only[List.getElem_map,D.2,s.2,q.2]at W J;exact⟨⟨λe=>by omega,λe=>by omega⟩,⟨λe=>qI e.symm J,λe=>by omega⟩⟩
   have aa:=t j V p2 M N;rw[oU,List.mem_singleton,C.2, <-C.1, <-aa];simp only[Array.contains_iff_mem,Array.mem_push]
  .rw[List.nodup_append];refine⟨Y,by simp,λa ha b L=>?_⟩;simp at L;subst L;rintro rfl;exact S ha
  .intro y hy;rcases oU.1 hy with h|h
   .exact R y h
   .simp at h;subst h;exact qU.2 ⟨_,mO H,rfl⟩
  .rw[A.other b (λh=>F h.symm)];rcases u with rfl|rfl<;>exact l.heap
  .simp only[setBlock];rw[Array.getElem?_setIfInBounds_self_of_lt (qM.1 G).1]
  .rcases u with rfl|rfl
   .exact A
   .exact⟨A.os,A.tape,A.output,A.size,A.other⟩
  .have U:(setBlock T r (.mapIter (some b) d (f.push g.toList[i].born) c)).heap[b]? = some (.map g c):=by
    rw[A.other b (λh=>F h.symm)];rcases u with rfl|rfl<;>exact l.heap
   have V:(setBlock T r (.mapIter (some b) d (f.push g.toList[i].born) c)).heap[r]? = some (.mapIter (some b) d (f.push g.toList[i].born) c):=by
    simp only[setBlock];rw[Array.getElem?_setIfInBounds_self_of_lt (qM.1 G).1]
   unfold iV;rw[U,V,l.heap,Z];simp only[leftOf];have hs:∀p:MapEntry->Bool,(g.filter p).size=(g.toList.filter p).length:=λp=>by rw[<-Array.toList_filter,Array.length_toList]
   rw[hs,hs];refine UN k.1 (by simpa using k.2) oB (λx I=>?_);simp only[Array.contains_push,Bool.not_or,oM]at I;exact I.1
end
section
variable {ν:Type}[DecidableEq κ]{kv:κ->oF}{vv:ν->oF} {m:List (κ×ν)}{P:Program} {k:TypeId}
def yY{m:List (κ×ν)}{x:κ}(h:dA m x=none)(v:ν):vm m x v=m++[(x,v)]:=by
 induction m with
 | nil=>rfl
 | cons p m ih =>
  by_cases a:p.1=x
  .simp[dA,a]at h
  .simp only[dA,a,if_false]at h;simp[vm,a,ih h]
end
end
abbrev HM:=List ((Int×Int)×EV)
def nY(e:EV):Int×Int:=(e.o,e.s)
section
variable {ν:Type}[DecidableEq κ]{m:List (κ×ν)}{x y:κ}{v:ν}
def ud(m:List (κ×ν))(x:κ):List (κ×ν):=m.filter λp=>decide (p.1≠x)
def zK{p:κ×ν}:p∈ud m x↔p∈m/\p.1≠x:=by unfold ud;rw[qV];simp
def PV(h:x∉m.map (·.1)):ud m x=m:=by unfold ud;rw[List.filter_eq_self];intro p a;exact qF λe=>h (qU.2 ⟨p,a,e⟩)
def Vc(h:(m.map (·.1)).Nodup):((ud m x).map (·.1)).Nodup:=List.Nodup.sublist (List.Sublist.map _ List.filter_sublist) h
def Nv(a:(m.map (·.1)).Nodup)(h:m[j]? = some (x,v)):m.eraseIdx j=ud m x:=by
 induction m generalizing j with
 | nil=>simp at h
 | cons p m ih =>
  rw[jK,jG]at a;cases j with
  | zero =>
   simp only[qL,qD]at h;subst h;rw[List.eraseIdx_cons_zero]
   have:=PV (m:=m) (x:=x) a.1
   unfold ud at this |-;rw[List.filter_cons_of_neg oB,this]
  | succ j =>
   rw[qK]at h;have b:p.1≠x:=λe=>a.1 (qU.2 ⟨_,mO h,e.symm⟩);rw[List.eraseIdx_cons_succ,ih a.2 h];unfold ud;rw[List.filter_cons_of_pos (by simpa using b)]
def zfn(c:(m.map (·.1)).Nodup)(h:dA m x=some v):(ud m x).length+1=m.length:=by obtain⟨j,a⟩:=List.getElem?_of_mem (wY h);rw[<-Nv c a];obtain⟨b,_⟩:=gS a;rw[List.length_eraseIdx_of_lt b];omega
end
def dJ(V:List Int)(W:HM):Nat->Option EV
 | 0=>none
 | k+1=>match dA W (((5-k:Nat):Int)+1,V.getD (5-k) 0+1)with
  | some e=>if fS V e=true then some e else dJ V W k
  | none=>dJ V W k
structure HW(E:List EV) (V:List Int) (W:HM):Prop where
 key:∀p∈W,p.1=nY p.2
 mem:∀p∈W,p.2∈E
 nd:(W.map (·.1)).Nodup
 new:∀p∈W,V.getD p.2.q 0<p.2.s
structure RHL(n:Nat) (E:List EV) (l:PL) (W:HM) (c:Nat):Prop where
 hist:HistL n E
 lk:LK n E l
 hw:HW E l.V W
 cnt:∃Kn:List EV,Kn.Nodup/\(∀f,f∈Kn↔f∈E/\f.s<=l.V.getD f.q 0)/\Kn.length=c
section
variable {n:Nat}{E:List EV}{l:PL}{W:HM} {e:EV}
def GX:∀{k:Nat},k<=6->dJ l.V W k=some e->fS l.V e=true/\∃i:Nat,i<6/\dA W ((i:Int)+1,l.V.getD i 0+1)=some e
 | 0,_,h=>by cases h
 | k+1,hk,h=>by
  unfold dJ at h;cases a:dA W (((5-k:Nat):Int)+1,l.V.getD (5-k) 0+1)with
  | none=>rw[a]at h;exact GX oo h
  | some f =>
   rw[a]at h;simp only at h;split at h
   .rename_i b;cases h;exact⟨b,5-k,by omega,a⟩
   .exact GX oo h
def zdo(h:co e=true):nY e=((e.q:Int)+1,e.s):=by
 have:=fZ h
 unfold nY EV.q;rw[show (((e.o-1).toNat:Nat):Int)+1=e.o by omega]
def Qb(V:List Int)(W:HM)(e:EV):HM:=if co e=true/\vC V e=false/\dA W (nY e)=none/\W.length<64 then W++[(nY e,e)]else W
def Ke(a:co e=true){V:List Int}:vC V e=true↔e.s<=V.getD e.q 0:=by unfold vC EV.q;rw[a,qZ,oP]
end
section
open Go.ChangeMaps
section
variable {ν:Type}[DecidableEq κ]{kv:κ->oF}{vv:ν->oF} {m:List (κ×ν)}{es:Array MapEntry}{clock:Nat}
variable {P:Program} {k:TypeId}
def Fd{α β:Type}{f:α->β}:∀{l:List α} {j:Nat},(l.eraseIdx j).map f=(l.map f).eraseIdx j
 | [],_=>rfl
 | _::_,0=>rfl
 | _::_,_+1=>qH (List.cons _) Fd
def zd0{ty:TypeId}{cs:Array Bool}(KK:HE P k kv)(o:P.underlying t=some (.map k e))(a:MB kv vv w b m){x:κ}(h:∀w',MB kv vv w' b (ud m x)->Oth b w w'->K (.tuple #[]) w'):blt P .delete #[t,E] ty cs #[.map (some b),kv x] K w:=by
 obtain⟨es,c,a⟩:=a;rcases a.find KK x with⟨i,g,l⟩|⟨j,q,y,i,g,l,r,s,n⟩
 .refine qz (v:=.tuple #[]) (w':=setBlock w b (.map es c)) ?_ (h _ ?_ (QZ a.heap))
  .rw[BigFrame.builtin_delete];simp[Builtin.delete_,jZ o,MapKept.run_getObj_map a.heap,KK.chk,g,MapKept.run_setObj_map _ a.heap,Result.andThen,setBlock]
  .rw[PV (wy.1 i)];exact⟨es,c,heap_setBlock_same a.heap _,a.keys,a.vals,a.nodup,a.born,a.old⟩
 .have u:j<es.size:=by
   have:=(gS l).1
   simpa using this
  refine qz (v:=.tuple #[]) (w':=setBlock w b (.map (es.eraseIdxIfInBounds j) c)) ?_ (h _ ?_ (QZ a.heap))
  .rw[BigFrame.builtin_delete];simp[Builtin.delete_,jZ o,MapKept.run_getObj_map a.heap,KK.chk,g,MapKept.run_setObj_map _ a.heap,Result.andThen,setBlock]
  .have f:(es.eraseIdxIfInBounds j).toList=es.toList.eraseIdx j:=by
    rw[Array.toList_eraseIdxIfInBounds]
   rw[<-Nv a.nodup n];refine⟨_,c,heap_setBlock_same a.heap _,?_,?_,?_,?_,?_⟩
   .rw[f,Fd,Fd,a.keys]
   .rw[f,Fd,Fd,a.vals]
   .rw[Nv a.nodup n];exact Vc a.nodup
   .rw[f];exact List.Pairwise.sublist (List.Sublist.map _ (List.eraseIdx_sublist _ _)) a.born
   .intro p d;rw[f]at d;exact a.old p ((List.eraseIdx_sublist _ _).mem d)
end
end
inductive DR (l:PL) (W:HM):PL->HM->List EV->Prop
 | nil:DR l W l W []
 | snoc {l':PL} {W':HM} {F:List EV} {e:EV}:DR l W l' W' F->dJ l'.V W' 6=some e->DR l W (eff e l') (ud W' (nY e)) (F++[e])
section
def iv(x:Int):oF:=ci x
open Go.RowKit
section
variable {P:Program}
def cn{B:Nat}{v:oF}{n:Nat}(h:w.ownsRow B E s v n xs)(i:∀k,v.ownBlock=some k->w'.heap[k]? = w.heap[k]?):w'.ownsRow B E s v n xs:=by
 refine⟨h.1,?_⟩;rcases h.2 with d|⟨g,a,b,c,e,f,r⟩
 .exact .inl d
 .refine .inr ⟨g,a,b,c,e,?_,r⟩;rw[i g (by rw[c];rfl)];exact f
def zdG{B n:Nat}(c:blk w g E xs)(a:xs.length=n*s)(b:B<=g)(d:n<=maxLen):w.ownsRow B E s (.slice (some ⟨g,0,none⟩) n n) n xs:=by refine⟨a,.inr ⟨g,n,xs.toArray,rfl,b,c,Nat.le_refl _,d,by simpa using a,?_⟩⟩;rw[<-a];simp
def zil{cs:Array Bool}{base:Nat}{i:TypeInfo}{z:oF}(J:P.underlying t=some (.slice e))(hi:P.info? e=some i)(M:i.zero=some z)(k:i.size=s)(p:i.bytes=b)(y:z.cells.size=s)(r:0<s){n:Nat}(l:w.ownsRow base e s (.slice av n c) n xs)(L:blk w g e ys)(x:ys.length=m*s)(C:∀u∈ys,u.oneCell'=true)(a:(n+m)*b<=140737488355328)(G:n+m<=9223372036854775807)(f:base<=w.heap.size)(h:∀d c' S,S.ownsRow base e s (.slice d (n+m) c') (n+m) (xs++ys)->w.grownBy S (Value.slice av n c).ownBlock->((Value.slice d (n+m) c').ownBlock=(Value.slice av n c).ownBlock\/(Value.slice d (n+m) c').ownBlock=some w.heap.size)->K (.slice d (n+m) c') S):blt P .append #[t,t] E cs #[.slice av n c,.slice (some ⟨g,0,none⟩) m c2] K w:=by
  have q:∀j u,ys[j]? = some u->w.cell? ((⟨g,0,none⟩:Addr).add j)=some u:=by
    intro j u H;rw[show ((⟨g,0,none⟩:Addr).add j)=⟨g,0+j,none⟩from by unfold Addr.add;split<;>simp_all,L.cell,oK];exact H
  obtain⟨N,S,I,A,D,_,F⟩:=run_append_own_at (P:=P) w base t E e i z s b J hi M k p y r _ n xs l ⟨g,0,none⟩ m c2 ys x q C (by simp only[maxLen];omega) a f;obtain⟨d,c',rfl⟩:∃d c',N=.slice d (n+m) c':=by
    rcases A.2 with⟨v,q⟩|⟨g,o,B,v,_⟩
    · exact⟨none,0,by rw[v,q]⟩
    · exact⟨_,o,v⟩
  exact qz (by rw[BigFrame.builtin_append];simp only[jY,I,jW,jX]) (h d c' S A D F)
end
end
section
def u6(x:Int):oF:=.int .u64 x
def uC(x:Int):oE:=[u6 x]
def zi4(l:List Int):l.flatMap uC=l.map u6:=by induction l<;>simp_all [uC]
open Go.RowKit Go.ChangeMaps
def fR{p B:Nat}(a:Below B O w)(h:Oth p w S)(c:B<=p):Below B O S:=⟨h.os.trans a.os,h.tape.trans a.tape,h.output.trans a.output,by rw[h.size];exact a.size,λk b=>by rw[h.other k oo];exact a.block k b⟩
def Ht{α:Type}{enc:α->oE}{s:Nat}(a:∀x,(enc x).length=s):∀(L:List α) (i:Nat) (x:α) (j:Nat),L[i]? = some x->j<s->(L.flatMap enc)[i*s+j]? = (enc x)[j]?
 | [],i,x,j,h,_=>by simp at h
 | y::L,0,x,j,h,hj=>by
  simp at h;subst h;rw[jI,Nat.zero_mul,oK,qO (by rw[a];exact hj)]
 | y::L,i+1,x,j,h,hj=>by
  rw[jI,qP (by rw[a,Nat.succ_mul];omega),a,show (i+1)*s+j-s=i*s+j by rw[Nat.succ_mul];omega];exact Ht a L i x j (by simpa using h) hj
section
variable {P:Program} {enc:α->oE}{L:List α}{B n:Nat} {k:IntKind}{x:α}
def zj3(D:P.underlying t=some (.slice e))(f:∀w,(sizeOf e).run P w=.ok s w)(C:∀x,(enc x).length=s)(A:w.ownsRow B e s (.slice a n c) n (L.flatMap enc))(z:L.length=n)(p:L[i]? = some x)(h:∀g b,a=some ⟨g,0,none⟩->blk w g e b->(∀j,j<s->b[i*s+j]? = (enc x)[j]?)->K (pA g (i*s)) w):aW P t (.slice a n c) (.int k (i:Nat)) K w:=by
 have v:i<n:=by rw[<-z];exact(gS p).1
 rcases A.2 with⟨_,G⟩|⟨g,q,b,o,E,u,F,r,m,l⟩
 .omega
 simp only[Value.slice.injEq]at o;obtain⟨rfl,_,rfl⟩:=o;refine fQ (s:=s) D f oo oo ?_;rw[oQ,oK];refine h g b.toList rfl u (λj y=>?_);have d:i*s+j<n*s:=by
  have:(i+1)*s<=n*s:=Nat.mul_le_mul_right _ v
  rw[Nat.succ_mul]at this;omega
 rw[<-Ht C L i x j p y, <-l,jN d]
def rd3{f':Nat}{v:oF}{K3:oF->oF->oF->oG->Prop}(A:P.underlying t=some (.slice e))(m:∀w,(sizeOf e).run P w=.ok s w)(z:∀x,(enc x).length=s)(l:∀w,(isAgg E).run P w=.ok false w)(r:Wl P e f=some f')(j:f'<s)(y:w.ownsRow B e s (.slice a n c) n (L.flatMap enc))(u:L.length=n)(D:L[i]? = some x)(C:(enc x)[f']? = some v)(h:∀b d,K3 b d v w):aW P t (.slice a n c) (.int k (i:Nat)) (λb w=>ao P e b f (λd w=>ld P E d (λF w=>K3 b d F w) w) w) w:=by refine zj3 A m z y u D ?_;intro g o G p q;refine aJ r <|ld1 l p (by rw[q _ j];exact C) ?_;exact h _ _
end
section
variable {P:Program} {B n:Nat} {v:oF} {enc:α->oE}{L:List α}
def zcO{cs:Array Bool}{base:Nat}{i:TypeInfo}{z:oF}(J:P.underlying t=some (.slice e))(hi:P.info? e=some i)(M:i.zero=some z)(k:i.size=s)(p:i.bytes=b)(y:z.cells.size=s)(r:0<s){n:Nat}(l:w.ownsRow base e s (.slice av n c) n xs)(L:blk w g e ys)(x:ys.length=m*s)(C:∀u∈ys,u.oneCell'=true)(a:(n+m)*b<=140737488355328)(G:n+m<=9223372036854775807)(f:base<=w.heap.size)(h:∀d c' S,S.ownsRow base e s (.slice d (n+m) c') (n+m) (xs++ys)->w.grownBy S (Value.slice av n c).ownBlock->((Value.slice d (n+m) c').ownBlock=(Value.slice av n c).ownBlock\/(Value.slice d (n+m) c').ownBlock=some w.heap.size)->K (.slice d (n+m) c') S):blt P .append #[t,t] E cs #[.slice av n c,.slice (some ⟨g,0,none⟩) m c2] K w:=by
  have q:∀j u,ys[j]? = some u->w.cell? ((⟨g,0,none⟩:Addr).add j)=some u:=by
    intro j u H;rw[zw,L.cell,oK];exact H
  obtain⟨N,S,I,A,D,_,F⟩:=run_append_own_at (P:=P) w base t E e i z s b J hi M k p y r _ n xs l ⟨g,0,none⟩ m c2 ys x q C (by simp only[maxLen];omega) a f;obtain⟨d,c',rfl⟩:∃d c',N=.slice d (n+m) c':=by
    rcases A.2 with⟨v,q⟩|⟨g,o,B,v,_⟩
    · exact⟨none,0,by rw[v,q]⟩
    · exact⟨_,o,v⟩
  exact qz (by rw[BigFrame.builtin_append];simp only[jY,I,jW,jX]) (h d c' S A D F)
structure Opn(w:oG) (B:Nat) (e:TypeId) (s n c g:Nat) (cur:oE) (xs:oE):Prop where
 blk:blk w g e cur
 lo:B<=g
 nc:n<=c
 cm:c<=maxLen
 len:cur.length=c*s
 take:cur.take (n*s)=xs
 xl:xs.length=n*s
def gy(i:w.ownsRow B e s (.slice a n c) n xs)(p:0<n):∃g b,a=some ⟨g,0,none⟩/\Opn w B e s n c g b xs:=by
 rcases i.2 with⟨_,q⟩|⟨g,k,b,j,l,m,o,f,d,h⟩
 .omega
 simp only[Value.slice.injEq]at j;obtain⟨rfl,_,rfl⟩:=j;exact⟨g,b.toList,rfl,m,l,o,f,by simpa using d,h,i.1⟩
def Opn.own(h:Opn w B e s n c g ys xs):w.ownsRow B e s (.slice (some ⟨g,0,none⟩) n c) n xs :=
 ⟨h.xl,.inr ⟨g,c,ys.toArray,rfl,h.lo,h.blk,h.nc,h.cm,by simpa using h.len,by simpa using h.take⟩⟩
def qa(a:∀x,(enc x).length=s):∀L:List α,(L.flatMap enc).length=L.length*s
 | []=>by simp
 | x::L=>by rw[jI,oT,a,qa a L,oZ,Nat.succ_mul];omega
def Zo(a:∀x,(enc x).length=s):∀(L:List α) (i:Nat) (x:α),i<L.length->(L.flatMap enc).take (i*s)++enc x++(L.flatMap enc).drop (i*s+s)=(L.set i x).flatMap enc
 | [],i,x,h=>by simp at h
 | y::L,0,x,_=>by
  simp only[Nat.zero_mul,qY,oV,oK,List.set_cons_zero,jI];rw[List.drop_append_of_le_length (by rw[a];exact Nat.le_refl _),oS (by rw[a];exact Nat.le_refl _),oV]
 | y::L,i+1,x,h=>by
  have d:=Zo a L i x (by simpa using h);simp only[List.set_cons_succ,jI];rw[<-d,Nat.succ_mul];have b:i*s+s=(enc y).length+i*s:=by rw[a];omega
  have c:i*s+s+s=(enc y).length+(i*s+s):=by rw[a];omega
  rw[c,List.drop_length_add_append,b,List.take_length_add_append];simp[jE]
def Opn.set{x:α}(a:∀x,(enc x).length=s)(h:Opn w B e s n c g xs (L.flatMap enc))(f:L.length=n)(hi:i<n)(d:Go.Proofs.YtpaghmnnhedccaaGreatDoor.blk S g e (xs.take (i*s)++enc x++xs.drop (i*s+s))):Opn S B e s n c g (xs.take (i*s)++enc x++xs.drop (i*s+s)) ((L.set i x).flatMap enc):=by
 have b:(i+1)*s<=n*s:=Nat.mul_le_mul_right _ hi;have k:n*s<=c*s:=Nat.mul_le_mul_right _ h.nc;rw[Nat.succ_mul]at b;have j:=h.len;refine⟨d,h.lo,h.nc,h.cm,?_,?_,?_⟩
 .simp only[oT,qA,qB,a];omega
 .rw[<-Zo a L i x oo, <-h.take];rw[qT,qT];simp only[oT,qA,a];rw[List.take_take,tL (l:=enc x) (by rw[a];omega)];rw[List.take_take,show min (n*s) (i*s)=i*s by omega,show min (i*s) (n*s)=i*s by omega,List.drop_take]
  congr 2
  omega
 .rw[qa a,qN,f]
def Opn.elem{x:α}(b:∀x,(enc x).length=s)(h:Opn w B e s n c g xs (L.flatMap enc))(l:L.length=n)(d:L[i]? = some x):(xs.drop (i*s)).take s=enc x:=by
 have k:i<n:=by rw[<-l];exact(gS d).1
 have f:(i+1)*s<=n*s:=Nat.mul_le_mul_right _ k;rw[Nat.succ_mul]at f;have e:(xs.drop (i*s)).take s=((xs.take (n*s)).drop (i*s)).take s:=by
  rw[List.drop_take,List.take_take];congr 1;omega
 rw[e,h.take];apply List.ext_getElem?;intro j;by_cases a:j<s
 .rw[jN a,jM,Ht b L i x j d a]
 .rw[jD (by simp;omega),jD (by rw[b];omega)]
def wg{k:Nat}(h:w.ownsRow B e s v n xs)(c:v.ownBlock=some k):(∃a,blk w k e a)/\B<=k/\k<w.heap.size:=by
 rcases h.2 with⟨rfl,_⟩|⟨g,d,a,rfl,f,b,_⟩
 .cases c
 .cases c;exact⟨⟨a.toList,b⟩,f,blk.lt (w:=w) (E:=e) (cs:=a.toList) b⟩
def mG{k:Nat}{cs:oE}(h:blk w k E cs)(a:blk w k t xs):E=t:=by unfold blk at h a;rw[h]at a;simp only[qD,Obj.cells.injEq]at a;exact a.2.1
def Opn.cell{x:α}(d:∀x,(enc x).length=s)(h:Opn w B e s n c g xs (L.flatMap enc))(b:L.length=n)(f:L[i]? = some x)(a:j<s):xs[i*s+j]? = (enc x)[j]? := by
 rw[<-h.elem d b f,jN a,jM]
def Opn.set1{x x':α}{v:oF}(d:∀x,(enc x).length=s)(h:Opn w B e s n c g xs (L.flatMap enc))(b:L.length=n)(l:L[i]? = some x)(r:j<s)(t:(enc x).set j v=enc x')(f:Go.Proofs.YtpaghmnnhedccaaGreatDoor.blk S g e (xs.set (i*s+j) v)):Opn S B e s n c g (xs.set (i*s+j) v) ((L.set i x').flatMap enc):=by
 have k:i<n:=by rw[<-b];exact(gS l).1
 have p:(i+1)*s<=n*s:=Nat.mul_le_mul_right _ k;have u:n*s<=c*s:=Nat.mul_le_mul_right _ h.nc;rw[Nat.succ_mul]at p;have q:=h.len;have m:xs=xs.take (i*s)++(enc x++xs.drop (i*s+s)):=by
  rw[<-h.elem d b l]
  have:xs.drop (i*s+s)=(xs.drop (i*s)).drop s:=by rw[List.drop_drop]
  rw[this,List.take_append_drop,List.take_append_drop]
 have o:xs.set (i*s+j) v=xs.take (i*s)++enc x'++xs.drop (i*s+s):=by
  have a:(xs.take (i*s)).length=i*s:=by rw[qA];omega
  conv=>lhs;rw[m]
  rw[List.set_append_right _ _ (by rw[a];omega),a,show i*s+j-i*s=j by omega,List.set_append_left _ _ (by rw[d];exact r),t,jE]
 rw[o]at f |-;exact h.set d b k f
def zf0{k:IntKind}(d:a=some ⟨g,0,none⟩)(f:P.underlying t=some (.slice e))(b:∀w,(sizeOf e).run P w=.ok s w)(hi:i<n)(h:K (pA g (i*s)) w):aW P t (.slice a n c) (.int k (i:Nat)) K w:=by subst d;refine fQ (s:=s) f b oo oo ?_;rw[oQ,oK];exact h
def BE{K2:oF->KV}{x:α}{k:IntKind}{d:TypeDesc}(v:P.underlying t=some (.slice e))(b:∀w,(sizeOf e).run P w=.ok s w)(y:P.underlying e=some d)(p:d.isRow=true)(hi:(P.info? e).map (·.size)=some s)(l:∀x,(enc x).length=s)(r:w.ownsRow B e s (.slice a n c) n (L.flatMap enc))(f:L.length=n)(m:L[i]? = some x)(h:∀u,K2 u (.agg (enc x).toArray) w):aW P t (.slice a n c) (.int k (i:Nat)) (λu w=>ld P e u (K2 u) w) w:=by
 have q:i<n:=by rw[<-f];exact(gS m).1
 obtain⟨g,o,rfl,j⟩:=gy r oo;refine fQ (s:=s) v b oo oo ?_;rw[oQ,oK];refine ldA (n:=s) (vs:=enc x) y p hi j.blk (j.elem l f m) (l x) (h _)
def Eo{p B n:Nat}{v:oF}{cs:oE}(h:w.ownsRow B E s v n xs)(b:Go.Proofs.YtpaghmnnhedccaaGreatDoor.blk w p t cs)(j:t≠E)(l:Oth p w S):S.ownsRow B E s v n xs :=
 cn h λk a=>l.other k (by
  rintro rfl;rcases h.2 with⟨c,_⟩|⟨g,e,f,c,_,d,_⟩
  .rw[c]at a;cases a
  .have i:g=k:=by rw[c]at a;simpa[Value.ownBlock]using a
   rw[i]at d;unfold Go.Proofs.YtpaghmnnhedccaaGreatDoor.blk at b;rw[d]at b;simp only[qD,Obj.cells.injEq]at b;exact j b.2.1.symm)
def PY{B n:Nat}{v v2:oF}(h:w.ownsRow B E s v n xs)(x:w.ownsRow B2 t b v2 c ys)(y:E≠t)(z:w.grownBy S v2.ownBlock):S.ownsRow B E s v n xs:=by
 refine cn h λk e=>z.block k (jT h k e).2 (λf=>?_);rcases h.2 with⟨i,_⟩|⟨g,o,p,i,_,m,_⟩
 .rw[i]at e;cases e
 .rcases x.2 with⟨d,_⟩|⟨u,j,l,d,_,a,_⟩
  .rw[d]at f;cases f
  .have q:g=k:=by rw[i]at e;simpa[Value.ownBlock]using e
   have r:u=k:=by rw[d]at f;simpa[Value.ownBlock]using f.symm
   rw[q]at m;rw[r,m]at a;simp only[qD,Obj.cells.injEq]at a;exact y a.2.1
def uz{p B n:Nat}{v:oF}{cs:oE}(b:Go.Proofs.YtpaghmnnhedccaaGreatDoor.blk w p t cs)(h:w.ownsRow B E s v n xs)(j:t≠E)(k:w.grownBy S v.ownBlock):Go.Proofs.YtpaghmnnhedccaaGreatDoor.blk S p t cs:=by
 unfold Go.Proofs.YtpaghmnnhedccaaGreatDoor.blk at b |-;rw[k.block p (Go.Proofs.YtpaghmnnhedccaaGreatDoor.blk.lt b) (λa=>?_)]
 .exact b
 .rcases h.2 with⟨d,_⟩|⟨g,e,f,d,_,c,_⟩
  .rw[d]at a;cases a
  .have i:g=p:=by rw[d]at a;simpa[Value.ownBlock]using a.symm
   rw[i,b]at c;simp only[qD,Obj.cells.injEq]at c;exact j c.2.1
def wK{cs:Array Bool}{base:Nat}{i:TypeInfo}{z:oF}{L:List α}{x:α}{n:Nat}(F:P.underlying t=some (.slice e))(hi:P.info? e=some i)(H:i.zero=some z)(j:i.size=s)(p:i.bytes=b)(r:z.cells.size=s)(q:0<s)(D:∀x,(enc x).length=s)(f:w.ownsRow base e s (.slice av n c) n (L.flatMap enc))(G:Go.Proofs.YtpaghmnnhedccaaGreatDoor.blk w g e (enc x))(y:∀u∈enc x,u.oneCell'=true)(d:(n+1)*b<=140737488355328)(o:n+1<=9223372036854775807)(a:base<=w.heap.size)(h:∀l c' S,S.ownsRow base e s (.slice l (n+1) c') (n+1) ((L++[x]).flatMap enc)->w.grownBy S (Value.slice av n c).ownBlock->Below base w S->((Value.slice l (n+1) c').ownBlock=(Value.slice av n c).ownBlock\/(Value.slice l (n+1) c').ownBlock=some w.heap.size)->K (.slice l (n+1) c') S):blt P .append #[t,t] E cs #[.slice av n c,.slice (some ⟨g,0,none⟩) 1 c2] K w:=by refine zcO (m:=1) (ys:=enc x) F hi H j p r q f G (by rw[D];omega) y d o a λl c' S A v B=>?_;refine h l c' S ?_ v (bX v a (λk C=>(jT f k C).1)) B;rw[List.flatMap_append];simpa using A
def zdU{T:TypeId}{N t:Nat}{cs:oE}{v:oF}{d:TypeDesc}(l:P.underlying T=some d)(f:d.isRow=true)(hi:(P.info? T).map (·.size)=some N)(k:Go.Proofs.YtpaghmnnhedccaaGreatDoor.blk w t T xs)(o:xs.length=N)(b:cs.length=N)(c:∀v∈cs,v.oneCell'=true)(h:∀S,Oth t w S->K (.tuple #[.agg cs.toArray,v]) S):sto P T (pA t 0) (.agg cs.toArray) (λ_t w=>aY P [(some T,pA t 0),(none,v)] K w) w:=by
 refine eW (n:=N) (vs:=cs) hi b k oo c λw1 a m=>?_;have a:Go.Proofs.YtpaghmnnhedccaaGreatDoor.blk w1 t T cs:=by
  rw[qY,oV,oS oo,oW]at a;exact a
 have i:=run_loadVar_mid (P:=P) w1 t 0 T cs _ (λj v g=>by rw[a.cell,oK];exact g) l f (by rw[b];exact hi);have e:(pR [(some T,pA t 0),(none,v)]).run P w1=.ok (.tuple #[.agg cs.toArray,v]) w1:=by
  simp[pR,asAddr,jY,i]
 unfold aY;rw[e];exact⟨rfl,h w1 m⟩
end
end
def zaO(h:fl Q 150 none (λa=>bld Q 197 #[(0,a)] λb=>box Q 197 b K) w):Gives Q 55 #[] w K:=au func55 kr (mpK h)
def zcJ(h:bT .lss 3 Z (ci 1) (λm w=>aM m false (λn=>bT .gtr 3 Z (ci 6) (λo=>n [Z,o]) w) (λk=>k [uu,uu] w) λl=>pick m cT (gd l 1) λa w=>aM a false (λd=>bT .lss 36 H (cu 1) (λa=>d [H,a]) w) (λk=>k [uu,uu] w) λb=>pick a cT (gd b 1) λa w=>aM a false (λe=>bT .geq 36 H (cu 1099511627776) (λf=>e [H,f]) w) (λk=>k [uu,uu] w) λc=>pick a cT (gd c 1) λg w=>cond g (K (cu 0) w) (conv Q 3 36 Z (λi=>bT .shl 36 i (cu 40) λj=>bF .or 36 j H K) w)) w):Gives Q 309 #[Z,H] w K:=au func309 kr (mpK h)
def TV(h:bT .eql 148 H (.pointer none) (λc w=>cond c (K cF w) (aU H (λa=>ao Q 197 a 0 λb=>ld Q 150 b λa=>lkp Q 150 a Z true λa=>ext Q a 0 λ_=>ext Q a 1 K) w)) w):Gives Q 169 #[H,Z] w K:=au func169 kr (mpK h)
def VK(h:box Q 148 H (λb=>box Q 36 Z λa=>K (.func (.func 277) #[] #[b,a])) w):Gives Q 272 #[H,Z] w K:=au func272 kr (mpK h)
def vG(Y:YB)(a:Nat)(K:KV):KE:=xh Q Y a (cd f277 [0]) (rk f277 K) (xx xf (rk f277 K) 0) (rk f277 K)
def RT{Y:YB}(h:vG Y b K [Z,U,H,uu,uu,uu,uu,uu,uu,uu,uu,uu,uu,uu,uu,uu,uu,uu] w):Fx Q Y b 277 [Z,U,H] w K:=zen (goK func277) func277 kr (mpK h)
def OP{Y:YB}{t15:oF}(g:Ew Y)(Inv:oG->Prop)(μ:oG->Nat)(e:Inv w)(i:∀(l:oD) (w:oG) (m:Nat),Inv w->m=μ w ->
  ld Q 148 Z1 (λC=>ld Q 36 Z λa=>call Q 169 #[C,a] λH=>xG H true (λk=>k X1) λa=>xG H true (ld Q 36 Z) λc=>xG H true (Uq Q Y b a #[c]) λa=>pick H a cF λU w=>cond U (sL 148 Z1 (λJ=>sN J λa=>sF 197 a 0 λa=>sL 150 a λa=>sL 36 Z λb=>sti (lkp Q 150 a b false) λa=>sto Q 36 Z a λ_ w=>(Inv w)/\((μ w)<m)) w.drew) (K (.tuple #[]) w)) w):vG Y b K [X1,Z1,Z,O2,C,Q2,H,T2,U2,V2,X2,U,J,P3,Q3,t15,T3,U3] w:=by refine Va g (cd f277 [0,0]) (zr [(4,14)]) kr (λd a=>Inv a) (λd a=>μ a) e ?_;intro c j f;have h:=i (gd c) j _ f rfl;exact mpK h
attribute [irreducible] vG
def vF(K:KV)(D:Nat):KE:=ai Q (cd f256 [1,1]) (Cz Q Tryz.f256.results.toList K D) xf (Cz Q Tryz.f256.results.toList K D)
def OL(h:ld Q 187 H (λZ=>sto Q 187 H Z λ_ w=>(dM D w)/\(aY Q [(some 187,H)] K (w.putObj D (Obj.deferred none)))) w):vF K D [X1,Z1,U,J,H,Q2,R2,T2,U2,V2,X2,Y,C,P3,Z] w:=mpK h
noncomputable def uX :Func:={Tryz.f256 with body:=some (zim (cd f256 [1,0,1,0]))}
def Gn(NB:KE)(XB:Nat->KE)(RB:KE):KE:=ai Q (cd uX []) NB XB RB
def OM{XB:Nat->KE}(h:B1 [X1,Z1,Z,Y,C,H,R2,T2,U2,H,X2,U,J,P3,Q3] w):Gn B1 XB N [X1,Z1,Z,Y,C,Q2,R2,T2,U2,H,X2,U,J,P3,Q3] w:=mpK h
noncomputable def uY :Func:={Tryz.f256 with body:=some (ziq (cd f256 [1,0,1,0]))}
def Gp(NB:KE)(XB:Nat->KE)(RB:KE):KE:=ai Q (cd uY []) NB XB RB
def OO{XB:Nat->KE}(h:ld Q 187 Z (λJ=>bM Q 187 1 #[(0,Y)] λH=>blt Q .append #[187,187] 187 #[false,false] #[J,H] λU=>sto Q 187 Z U λ_=>B1 [X1,Z1,C,O2,Z,Y,R2,T2,U2,V2,J,Y,H,U,Q3]) w):Gp B1 XB N [X1,Z1,C,O2,Z,Y,R2,T2,U2,V2,J,N3,H,U,Q3] w:=mpK h
def RR(h:alc Q 187 (λa=>call Q 272 #[H,Z] λb=>rfS Q (cd f256 [1,0,1,0]) (vF K) (λi D e w=>(i=0)/\(vF K D e w)) (Cz Q Tryz.f256.results.toList K) [H,Z,uu,uu,a,uu,H,Z,b,uu,uu,uu,uu,uu,uu]) w):Gives Q 256 #[H,Z] w K:=zd6 func256 kr (Eq.mp kr h)
def iF(d b a c:oF)(zf:oD):=d::b::a::zT zf 3 23 (c::zT zf 27 17 ([]))
def qg(c b a:oF)(zf:oD):=c::b::a::zT zf 3 41 ([])
def fL(K:KV):KE:=kZ f312 [1,1] K
def nK(K:KV):KE:=kY f312 (b1 6655) (fL K) (xx xf (fL K) 0) K
def tK(K:KV):KE:=ai Q (cd f312 (b1 13309)) (nK K) (xx xf (fL K) 0) (rk f312 K)
abbrev Kp(K:KV)(hA0:KE)(t0 id1 parent2:oF)(w:oG):Prop :=
  bT .eql 148 t0 (.pointer none) (λa w=>cond a (K (ci 2) w) (bT .eql 36 id1 (cu 0) (λb w=>cond b (K (ci 1) w) (call Q 169 #[t0,id1] (λc w=>cond c (K (ci 14) w) (bT .neq 36 parent2 (cu 0) (λd w=>aM d true (λa=>call Q 169 #[t0,parent2] (λb=>un Q .not b λc=>a [t0,parent2,b,c]) w) (λk=>k [uu,uu,uu,uu] w) λe=>pick d (gd e 3) cF λf w=>cond f (K (ci 9) w) (aU t0 (λg=>ao Q 197 g 0 λh=>ld Q 150 h λi=>lN 150 i λj=>bT .geq 3 j (ci 32) λk=>hA0 (iF t0 id1 parent2 k (zV (zV zu 6 [ci 0,a,t0,a,b,id1,b,c,t0,id1,c,f,parent2,d,d,gd e 0,gd e 1,gd e 2,gd e 3,f]) 27 [t0,g,h,i,j,k]))) w)) w)) w)) w)) w
def VJ(a:Code)(h:Kp K (ai Q a (ai Q (cd f312 (b1 6655)) (ai Q (cd f312 [1,1]) (rk f312 K) (λ_ _ _=>False) (rk f312 K)) (λi=>@Bool.rec (λ_=>KE) ((λ_ _ _=>False) i) (ai Q (cd f312 [1,1]) (rk f312 K) (λ_ _ _=>False) (rk f312 K)) (Nat.beq i 0)) (rk f312 K)) (λi=>@Bool.rec (λ_=>KE) ((λ_ _ _=>False) i) (ai Q (cd f312 [1,1]) (rk f312 K) (λ_ _ _=>False) (rk f312 K)) (Nat.beq i 0)) (rk f312 K)) Z U H w):ai Q (rep (b1 13309) a (cd f312 [])) (rk f312 K) xf (rk f312 K) (qg Z U H zu) w:=Eq.mp kr h
def TU(h:Kp K (tK K) Z U H w):Gives Q 312 #[Z,U,H] w K:=au func312 kr (Eq.mp (qH (λc=>ai Q c (rk f312 K) xf (rk f312 K) (qg Z U H zu) w) (by kernel_rfl:(rep (b1 13309) (cd f312 (b1 13309)) (cd f312 []))=(cd f312 []))) (VJ (cd f312 (b1 13309)) h))
abbrev Fp(K:KV)(hA0:KE)(X1 Z1 N2 O2:oF)(zf:oD)(w:oG):Prop :=
  cond O2 (hA0 (iF X1 Z1 N2 O2 zf) w) (call Q 256 #[X1,N2] (λa=>lN 187 a λb=>bT .geq 3 b (ci 4) λc=>hA0 (iF X1 Z1 N2 c (zV zf 33 [X1,N2,a,b,c]))) w)
def Qw(a:KE)(b:KE)(h:Fp K a U Y H Z zf w):ai Q (cd f312 (b1 13309)) a (xx xf b 0) (rk f312 K) (iF U Y H Z zf) w:=Eq.mp kr h
def Qx(h:Fp K (nK K) U Y H Z zf w):tK K (iF U Y H Z zf) w:=by delta tK;exact Eq.mp (qH (λc=>ai Q c (nK K) (xx xf (fL K) 0) (rk f312 K) (iF U Y H Z zf) w) (by kernel_rfl:(cd f312 (b1 13309))=(cd f312 (b1 13309)))) (Qw (nK K) (fL K) h)
abbrev Fr(K:KV)(hA0:KE)(X1 Z1 N2 O2:oF)(zf:oD)(w:oG):Prop :=
  cond O2 (K (ci 6) w) (hA0 (qg X1 Z1 N2 (zV zf 26 [O2])) w)
def QA(a:KE)(h:Fr K a U Y H Z zf w):ai Q (cd f312 (b1 6655)) a (xx xf a 0) (rk f312 K) (iF U Y H Z zf) w:=Eq.mp kr h
def Fs(h:Fr K (fL K) U Y H Z zf w):nK K (iF U Y H Z zf) w:=by delta nK;exact Eq.mp (qH (λc=>ai Q c (fL K) (xx xf (fL K) 0) (rk f312 K) (iF U Y H Z zf) w) (by kernel_rfl:(cd f312 (b1 6655))=(cd f312 (b1 6655)))) (QA (fL K) h)
abbrev Fq(K:KV)(X1 Z1 N2:oF)(zf:oD)(w:oG):Prop :=
  aU X1 (λa=>ao Q 197 a 0 λa=>ld Q 150 a λa=>fk Q 150 a Z1 N2 λ_=>K (ci 0)) w
def Qy(h:Fq K Z U H zf w):ai Q (cd f312 [1,1]) (rk f312 K) xf (rk f312 K) (qg Z U H zf) w:=Eq.mp kr h
def Qz(h:Fq K Z U H zf w):fL K (qg Z U H zf) w:=by delta fL;exact Eq.mp (qH (λc=>ai Q c (rk f312 K) xf (rk f312 K) (qg Z U H zf) w) (by kernel_rfl:(cd f312 [1,1])=(cd f312 [1,1]))) (Qy h)
attribute [irreducible] fL nK tK
def Ft(a c b:oF)(zf:oD):=zf 0::a::zf 2::zf 3::c::zT zf 5 7 (b::zT zf 13 14 ([]))
def Fu(a:oF)(zf:oD):=zT zf 0 4 (a::zT zf 5 22 ([]))
def ll(K:KV):KE:=kZ f89 [1,1,1] K
def uZ(K:KV):KE:=ai Q (cd f89 (b1 58)) (ll K) (xx xf (ll K) 0) (rk f89 K)
def QB(h:bT .eql 148 H (.pointer none) (λc w=>cond c (K cN w) (aU H (λd=>ao Q 197 d 0 λa=>ld Q 150 a λb=>rng Q 150 b λZ=>uZ K (Ft U cN Z (zV (zV zu 0 [H]) 6 [H,c,H,d,a,b]))) w)) w):Gives Q 89 #[H,U] w K:=au func89 kr (mpK h)
def NT(Inv:oF->oG->Prop)(μ:oF->oG->Nat)(g:Inv U w)(i:∀(a:oF) (f:oD) (w:oG) (m:Nat),Inv a w->m=μ a w ->
  nxt Q H false 0 (λb=>ext Q b 0 λc w=>cond c (ent Q H (λb=>ext Q b 0 λb=>bA Q Z #[b] λd w=>cond d (bM Q 187 1 #[(0,b)] (λe=>blt Q .append #[187,187] 187 #[false,false] #[a,e] λc w=>(Inv c w)/\((μ c w)<m)) w) ((Inv a w)/\((μ a w)<m))) w) (ll K (Fu a (zV (zV f 1 [Z]) 12 [H,b,c])) w)) w):uZ K (Ft Z U H zf) w:=by refine lV (cd f89 (b1 116)) [(4,2),(13,11)] 4 zf g i ?_;intro j k;exact mpF
def NU(h:call Q 106 #[H] (λ_=>K H) w):ll K (Fu H zf) w:=mpK h
attribute [irreducible] ll uZ
def OJ(h:K cT w):Gives Q 90 #[H] w K:=au func90 kr (mpK h)
def RQ(h:call Q 89 #[H,.func (.func 90) #[] #[]] K w):Gives Q 71 #[H] w K:=au func71 kr (mpK h)
section
open Go.ChangeMaps
structure Ch(F:List Nat) (w w':oG):Prop where
 os:w'.os=w.os
 tape:w'.tape=w.tape
 output:w'.output=w.output
 size:w.heap.size<=w'.heap.size
 block:∀k,k<w.heap.size->k∉F->w'.heap[k]? = w.heap[k]?
section
variable {F G:List Nat}{a b c:oG}
def Ch.refl(F:List Nat)(w:oG):Ch F w w:=⟨rfl,rfl,rfl,Nat.le_refl _,λ_ _ _=>rfl⟩
def Ch.of_below(h:Below w.heap.size w S):Ch F w S:=⟨h.os,h.tape,h.output,h.size,λk a _=>h.block k a⟩
def Ch.of_oth{b:Nat}(h:Oth b w S)(a:b∈F):Ch F w S:=⟨h.os,h.tape,h.output,by rw[h.size];exact Nat.le_refl _,λk _ c=>h.other k (by rintro rfl;exact c a)⟩
def Ch.trans(h:Ch F a b)(k:Ch G b c)(hG:∀x∈G,x∈F\/a.heap.size<=x):Ch F a c :=
 ⟨k.os.trans h.os,k.tape.trans h.tape,k.output.trans h.output,qR h.size k.size,λx e d=>by
  rw[k.block x (qQ e h.size) (λf=>(hG x f).elim d (λh=>by omega)),h.block x e d]⟩
def Ch.mono(h:Ch F w S)(hG:∀x∈F,x∈G):Ch G w S:=⟨h.os,h.tape,h.output,h.size,λk b c=>h.block k b λa=>c (hG k a)⟩
def Ch.below{B:Nat}(h:Ch F w S)(hF:∀x∈F,B<=x)(b:B<=w.heap.size):Below B w S:=⟨h.os,h.tape,h.output,h.size,λk c=>h.block k oo (λa=>by have:=hF k a;omega)⟩
def blk.ch{k:Nat}{cs:oE}(h:blk w k E cs)(b:Ch F w S)(c:k∉F):blk S k E cs:=by have a:=h.lt;unfold Go.Proofs.YtpaghmnnhedccaaGreatDoor.blk at *; rw[b.block k a c];exact h
def MB.ch{kv:κ->oF}{vv:α->oF}{k:Nat}{m:List (κ×α)}(h:MB kv vv w k m)(a:Ch F w S)(b:k∉F):MB kv vv S k m:=h.kept (a.block k h.lt b)
end
end
def aG(a b c d e:oF)(zf:oD):=a::b::c::zT zf 3 4 (d::e::zT zf 9 124 ([]))
def mZ(zf:oD):=zT zf 0 133 ([])
def nh(a c d e f b:oF)(zf:oD):=a::c::d::zT zf 3 4 (e::f::zT zf 9 52 (b::zT zf 62 71 ([])))
def ni(a b c d e f:oF)(zf:oD):=a::b::c::zT zf 3 4 (d::e::f::zT zf 10 123 ([]))
def nj(a c d e f b:oF)(zf:oD):=a::c::d::zT zf 3 4 (e::f::zf 9::b::zT zf 11 122 ([]))
def aO(K:KV):KE:=kZ f134 [1,1,1] K
def fp(K:KV):KE:=ai Q (cd f134 (b1 58)) (aO K) (xx xf (aO K) 0) (rk f134 K)
def aH(K:KV)(B1:KE):KE:=kY f134 (b1 467) B1 (xx xf (aO K) 0) K
def dG(K:KV)(B1:KE):KE:=ai Q (cd f134 (b1 466)) (aH K B1) (xx xf (aO K) 0) (rk f134 K)
def cg(K:KV)(B1:KE):KE:=kY f134 (b1 1865) (aH K B1) (xx (xx xf (aO K) 0) (aH K B1) 1) K
def fx(K:KV)(B1:KE):KE:=ai Q (cd f134 (b1 3728)) (cg K B1) (xx (xx (xx xf (aO K) 0) (aH K B1) 1) (cg K B1) 2) (rk f134 K)
def cM(K:KV)(B1:KE):KE:=ai Q (cd f134 (b1 14927)) (aH K B1) (xx (xx xf (aO K) 0) (aH K B1) 1) (rk f134 K)
def br(K:KV)(B1:KE):KE:=kY f134 (b1 29855) (aH K B1) (xx (xx xf (aO K) 0) (aH K B1) 1) K
def dH(K:KV)(B1:KE):KE:=ai Q (cd f134 (b1 59709)) (br K B1) (xx (xx xf (aO K) 0) (aH K B1) 1) (rk f134 K)
def fy(K:KV)(B1:KE):KE:=ai Q (cd f134 (b1 477674)) (br K B1) (xx (xx (xx xf (aO K) 0) (aH K B1) 1) (br K B1) 4) (rk f134 K)
def fA(K:KV)(B1:KE):KE:=ai Q (cd f134 (b1 477690)) (aH K B1) (xx (xx (xx xf (aO K) 0) (aH K B1) 1) (aH K B1) 6) (rk f134 K)
def vo(h:nC H (λa=>fp K (aG U H Z a (ci 0) (zV (zV zu 6 [cF]) 11 [H,a]))) w):Gives Q 134 #[U,H,Z] w K:=au func134 kr (mpK h)
def ul(Inv:oF->oF->oG->Prop)(μ:oF->oF->oG->Nat)(i:Inv Y J w)(k:∀(d a:oF) (f:oD) (w:oG) (m:Nat),Inv d a w->m=μ d a w ->
  bT .lss 3 a (ci 5) (λb w=>cond b (dG K (λb S=>(Inv (gd b 7) (gd b 8) S)/\((μ (gd b 7) (gd b 8) S)<m)) (aG Z U H d a (zV f 13 [a,b])) w) (aO K (mZ (zV (zV (zV f 0 [Z,U,H]) 7 [d,a]) 13 [a,b])) w)) w):fp K (aG Z U H Y J zf) w:=by refine dC (cd f134 (b1 116)) (zr [(6,5),(13,120)]) kr (vP [7,8] Inv) (vQ [7,8] μ) i ?_;intro e g j;have h:=k _ _ (zM zf (gd e) (zr [(6,5),(13,120)])) g _ j rfl;refine Eq.mp (qH (λc=>ai Q c _ _ _ _ g) (by kernel_rfl:(rep [1,0] (cd f134 (b1 466)) (cd f134 (b1 116)))=(cd f134 (b1 116)))) ?_;revert h;delta dG aH;generalize (cd f134 (b1 466))=xc0;exact mpF
def ui(h:fx K B1 (aG Y J H Z U zf) w):dG K B1 (aG Y J H Z U zf) w:=mpK h
def ut(h:K cF w):aO K (mZ zf) w:=mpK h
def um(Inv:oF->oG->Prop)(μ:oF->oG->Nat)(r:Inv U w)(s:∀(b:oF) (q:oD) (w:oG) (m:Nat),Inv b w->m=μ b w ->
  sti (bF .lss 3 b Z) (λc w=>aM c true (λo=>sI 187 H b (λd=>sL 36 d λe=>sti (bT .sub 3 b (ci 1)) λf=>sI 187 H f λg=>sL 36 g λi=>sti (call Q 135 #[e,i]) λj=>sti (un Q .not j) λp=>o [H,b,d,e,H,b,f,g,i,j,p]) w) (λk=>k [uu,uu,uu,uu,uu,uu,uu,uu,uu,uu,uu] w) λa=>sti (pick c (gd a 10) cF) λl w=>cond l (nC b (λn w=>(Inv n w)/\((μ n w)<m)) w) (cg K B1 (aG H J Z b Y (zV q 17 [b,Z,c,c,gd a 0,gd a 1,gd a 2,gd a 3,gd a 4,gd a 5,gd a 6,gd a 7,gd a 8,gd a 9,gd a 10,l])) w)) w.drew):fx K B1 (aG H J Z U Y zf) w:=by refine lV (cd f134 (b1 7456)) [(7,1),(17,18)] 7 zf r s ?_;intro t u;exact mpF
def lU(h:bF .eql 3 H U (λa w=>cond a (K cT w) (bF .sub 3 U Y (λb=>bT .lss 3 b (ci 50) λc w=>cond c (K cF w) (aF (λS w=>hld (λ_=>True) (bT .sub 3 H (ci 1)) λd=>hld (λ_=>True) (bT .sub 3 H (ci 1)) λe=>hI S 187 Z e λf=>hL S 36 f λg=>hI S 187 Z H λi=>hL S 36 i λj=>hI S 187 Z H λk=>sto Q 36 k g (λ_=>aF λS w=>hI S 187 Z d λl=>sto Q 36 l j (λ_=>cM K B1 (aG Z Y U H J (zV zf 35 [H,U,a,U,Y,b,c,Z,H,Z,H,d,Z,H,e,f,g,Z,H,i,j,k,l]))) w) w) w.drew)) w)) w):cg K B1 (aG Z Y U H J zf) w:=by delta cg;refine rpT [1,1,1] (cd f134 (b1 14927)) (cd f134 (b1 1865)) ?_;revert h;delta cM;generalize (cd f134 (b1 14927))=xc0;exact mpF
def uj(h:bF .sub 3 H Z (λa=>bT .geq 3 a (ci 2) λJ=>dH K B1 (nh C Z U H Y J (zV zf 58 [H,Z,a]))) w):cM K B1 (aG C Z U H Y zf) w:=by delta cM;refine rpT [0,1] (cd f134 (b1 59709)) (cd f134 (b1 14927)) ?_;revert h;delta dH br;generalize (cd f134 (b1 59709))=xc0;exact mpF
def uk(h:cond Z (bT .sub 3 H (ci 1) (λa=>fy K B1 (ni J C U H Y a (zV zf 61 [Z,H,a]))) w) (br K B1 (aG J C U H Y (zV zf 61 [Z])) w)):dH K B1 (nh J C U H Y Z zf) w:=mpK h
def uo(Inv:oF->oG->Prop)(μ:oF->oG->Nat)(v:Inv C w)(x:∀(a:oF) (u:oD) (w:oG) (m:Nat),Inv a w->m=μ a w ->
  bT .geq 3 a (ci 1) (λb w=>cond b (aF (λS w=>hI S 187 H a λd=>hL S 36 d λe=>hld (λ_=>True) (bT .sub 3 a (ci 1)) λf=>hI S 187 H f λg=>hL S 36 g λi=>call Q 135 #[e,i] (λj=>aF λS w=>hld S (un Q .not j) λk=>cond k (br K B1 (aG H J Z U Y (zV (zV (zV u 9 [a]) 64 [a,b]) 68 [H,a,d,e,H,a,f,g,i,j,k])) w) (aF (λS w=>hld (λ_=>True) (bT .sub 3 a (ci 1)) λl=>hld (λ_=>True) (bT .sub 3 a (ci 1)) λn=>hI S 187 H n λo=>hL S 36 o λp=>hI S 187 H a λq=>hL S 36 q λr=>hI S 187 H a λs=>sto Q 36 s p (λ_=>aF λS w=>hI S 187 H l λt=>sto Q 36 t r (λ_=>bT .sub 3 a (ci 1) λc w=>(Inv c w)/\((μ c w)<m)) w) w) w.drew)) w) w.drew) (br K B1 (aG H J Z U Y (zV (zV u 9 [a]) 64 [a,b])) w)) w):fy K B1 (ni H J Z U Y C zf) w:=by refine lV (cd f134 (b1 955348)) [(9,1),(64,31)] 9 zf v x ?_;intro y z;exact mpF
def uw(h:bF .sub 3 Z H (λb=>bT .geq 3 b (ci 2) λc w=>cond c (nC H (λa=>fA K B1 (nj Y J Z H U a (zV zf 95 [Z,H,b,c,H,a]))) w) (aH K B1 (aG Y J Z H U (zV zf 95 [Z,H,b,c])) w)) w):br K B1 (aG Y J Z H U zf) w:=mpK h
def ur(Inv:oF->oG->Prop)(μ:oF->oG->Nat)(v:Inv C w)(x:∀(a:oF) (u:oD) (w:oG) (m:Nat),Inv a w->m=μ a w ->
  lS a Z (λb w=>cond b (aF (λS w=>hI S 187 H a λd=>hL S 36 d λe=>hld (λ_=>True) (bT .sub 3 a (ci 1)) λf=>hI S 187 H f λg=>hL S 36 g λi=>call Q 135 #[e,i] (λj=>aF λS w=>hld S (un Q .not j) λk=>cond k (aH K B1 (aG H J Z U Y (zV (zV (zV u 10 [a]) 101 [a,Z,b]) 106 [H,a,d,e,H,a,f,g,i,j,k])) w) (aF (λS w=>hld (λ_=>True) (bT .sub 3 a (ci 1)) λl=>hld (λ_=>True) (bT .sub 3 a (ci 1)) λn=>hI S 187 H n λo=>hL S 36 o λp=>hI S 187 H a λq=>hL S 36 q λr=>hI S 187 H a λs=>sto Q 36 s p (λ_=>aF λS w=>hI S 187 H l λt=>sto Q 36 t r (λ_=>nC a λc w=>(Inv c w)/\((μ c w)<m)) w) w) w.drew)) w) w.drew) (aH K B1 (aG H J Z U Y (zV (zV u 10 [a]) 101 [a,Z,b])) w)) w):fA K B1 (nj H J Z U Y C zf) w:=by refine lV (cd f134 (b1 955380)) [(10,1),(101,32)] 10 zf v x ?_;intro y z;exact mpF
def ic(h:nC H (λa=>B1 (aG Y J Z U a (zV zf 15 [H,a]))) w):aH K B1 (aG Y J Z U H zf) w:=by delta aH;revert h;exact mpF
attribute [irreducible] aO fp aH dG cg fx cM br dH fy fA
def fi(d f b c a e:oF)(zf:oD):=d::f::zT zf 2 4 (b::c::a::e::zT zf 10 55 ([]))
def qk(e h b d a f c g:oF)(zf:oD):=e::h::zT zf 2 4 (b::d::a::f::c::zT zf 11 32 (g::zT zf 44 21 ([])))
def gM(e g b d a f c:oF)(zf:oD):=e::g::zT zf 2 4 (b::d::a::f::c::zT zf 11 54 ([]))
def gN(K:KV):KE:=ai Q (cd f131 (b1 238)) (rk f131 K) (xx xf (rk f131 K) 0) (rk f131 K)
def cr(K:KV)(B1:KE):KE:=kY f131 (b1 1907) B1 (xx xf (rk f131 K) 0) K
def cw(K:KV)(B1:KE):KE:=kY f131 (b1 15251) (cr K B1) (xx (xx xf (rk f131 K) 0) (cr K B1) 1) K
def fh(K:KV)(B1:KE):KE:=ai Q (cd f131 (b1 30501)) (cw K B1) (xx (xx xf (rk f131 K) 0) (cr K B1) 1) (rk f131 K)
def yu(h:bF .sub 3 Z H (λg=>bT .geq 3 g (ci 8) λh w=>cond h (conv Q 3 246 g (λa=>alc Q 246 λU=>sto Q 246 U a λ_=>call Q 123 #[g] λb=>bT .quo 3 g (ci 4) λc=>bT .mul 3 c (ci 2) λd=>bF .add 3 H d λe=>bT .sub 3 e (ci 1) λf=>gN K (fi Y H g U b f (zV (zV zu 2 [Z]) 11 [Z,H,g,g,h,g,a,g,b,H,g,c,d,e,f]))) w) (K (.tuple #[]) w)) w):Gives Q 131 #[Y,H,Z] w K:=au func131 kr (mpK h)
def xA(Inv:oF->oG->Prop)(μ:oF->oG->Nat)(r:Inv J w)(t:∀(a:oF) (q:oD) (w:oG) (m:Nat),Inv a w->m=μ a w ->
  bT .quo 3 H (ci 4) (λe=>bT .mul 3 e (ci 2) λf=>bF .add 3 U f λg=>nC g λi=>bF .leq 3 a i λj w=>cond j (call Q 124 #[Y] (λk=>bT .sub 147 Z (cu 1) λl=>bF .and 147 k l λn=>conv Q 147 3 n λb=>bF .geq 3 b H λC=>fh K (λd S=>(Inv (gd d 9) S)/\((μ (gd d 9) S)<m)) (qk X1 U H Y Z a b C (zV (zV q 26 [a,U,H,e,f,g,i,j]) 36 [k,Z,l,n,b,b,H]))) w) (K (.tuple #[]) w)) w):gN K (fi X1 U H Y Z J zf) w:=by refine dC (cd f131 (b1 476)) (zr [(9,2),(26,39)]) kr (vP [9] Inv) (vQ [9] μ) r ?_;intro o p s;have h:=t _ (zM zf (gd o) (zr [(9,2),(26,39)])) p _ s rfl;refine Eq.mp (qH (λc=>ai Q c _ _ _ _ p) (by kernel_rfl:(rep (b1 101) (cd f131 (b1 30501)) (cd f131 (b1 476)))=(cd f131 (b1 476)))) ?_;revert h;delta fh cr cw;generalize (cd f131 (b1 30501))=xc0;exact mpF
def xz(h:cond U (bF .sub 3 Z H (λa=>cw K B1 (gM X1 Z1 H Y J C a (zV zf 43 [U,Z,H,a]))) w) (cw K B1 (gM X1 Z1 H Y J C Z (zV zf 43 [U])) w)):fh K B1 (qk X1 Z1 H Y J C Z U zf) w:=by delta fh;revert h;exact mpF
def xC(h:aF (λS w=>hld (λ_=>True) (bF .add 3 Y U) λa=>hld (λ_=>True) (bF .add 3 Y U) λb=>hI S 187 H b λc=>hL S 36 c λd=>hI S 187 H Z λe=>hL S 36 e λf=>hI S 187 H Z λg=>sto Q 36 g d (λ_=>aF λS w=>hI S 187 H a λi=>sto Q 36 i f (λ_=>cr K B1 (fi H Y J C P2 Z (zV (zV zf 10 [U]) 47 [H,Z,H,Y,U,a,H,Y,U,b,c,d,H,Z,e,f,g,i]))) w) w) w.drew):cw K B1 (gM H Y J C P2 Z U zf) w:=by delta cw;revert h;exact mpF
def xB(h:nC H (λa=>B1 (fi J C Z U Y a (zV zf 34 [H,a]))) w):cr K B1 (fi J C Z U Y H zf) w:=mpK h
attribute [irreducible] gN cr cw fh
def Ji(h:conv Q 3 147 H (λa=>call Q 92 #[a] λa=>bin Q .shl 147 true false (cu 1) a K) w):Gives Q 123 #[H] w K:=au func123 kr (mpK h)
def JQ(h:sN H (λa=>sL 246 a λq=>sN H λr=>sL 246 r λs=>sti (bT .shl 246 s (cu 13)) λt=>sti (bF .xor 246 q t) λa=>sN H λb=>sto Q 246 b a λ_ w=>sN H (λa=>sL 246 a λa=>sN H λc=>sL 246 c λd=>sti (bT .shr 246 d (cu 7)) λe=>sti (bF .xor 246 a e) λf=>sN H λg=>sto Q 246 g f λ_ w=>sN H (λi=>sL 246 i λj=>sN H λk=>sL 246 k λl=>sti (bT .shl 246 l (cu 17)) λm=>sti (bF .xor 246 j m) λn=>sN H λo=>sto Q 246 o n λ_=>aU H λp=>ld Q 246 p K) w.drew) w.drew) w.drew):Gives Q 124 #[H] w K:=au func124 kr (mpK h)
def iM(b f a d e c:oF)(zf:oD):=b::zT zf 1 7 (f::a::d::e::c::zT zf 13 44 ([]))
def rL(a b c:oF)(zf:oD):=a::b::c::zT zf 3 54 ([])
def iN(b g a d e c f:oF)(zf:oD):=b::zT zf 1 7 (g::a::d::e::c::zT zf 13 19 (f::zT zf 33 24 ([])))
def iO(b a d e c f:oF)(zf:oD):=b::zT zf 1 8 (a::d::e::c::zT zf 13 21 (f::zT zf 35 22 ([])))
def fI(a b:oF)(zf:oD):=zT zf 0 9 (a::zf 10::b::zT zf 12 45 ([]))
def dS(b a d e c:oF)(zf:oD):=b::zT zf 1 8 (a::d::e::c::zT zf 13 44 ([]))
def iJ(K:KV):KE:=ai Q (cd f132 (b1 127)) (rk f132 K) xf (rk f132 K)
def bJ(K:KV):KE:=kZ f132 (b1 255) K
def iK(K:KV):KE:=ai Q (cd f132 (b1 509)) (bJ K) xf (rk f132 K)
def cC(K:KV):KE:=kY f132 (b1 2037) (bJ K) xf K
def iL(K:KV):KE:=ai Q (cd f132 (b1 4073)) (cC K) xf (rk f132 K)
abbrev sf(K:KV)(hA0:KE)(data0 a1 b2:oF)(w:oG):Prop :=
  bF .sub 3 b2 a1 (λa=>alc Q 3 λb=>bT .quo 3 a (ci 4) λc=>bT .mul 3 c (ci 1) λd=>bF .add 3 a1 d λe=>bT .quo 3 a (ci 4) λf=>bT .mul 3 f (ci 2) λg=>bF .add 3 a1 g λh=>bT .quo 3 a (ci 4) λi=>bT .mul 3 i (ci 3) λj=>bF .add 3 a1 j λk=>hA0 (iM data0 a b e h k (zV (zV (zV zu 1 [a1,b2]) 6 [ci 0,ci 0]) 13 [b2,a1,a,a1,a,c,d,e,a1,a,f,g,h,a1,a,i,j,k]))) w
def AG(a:Code)(h:sf K (ai Q a (rk f132 K) (λ_ _ _=>False) (rk f132 K)) Z U H w):ai Q (rep (b1 127) a (cd f132 [])) (rk f132 K) xf (rk f132 K) (rL Z U H zu) w:=Eq.mp kr h
def zS(h:sf K (iJ K) Z U H w):Gives Q 132 #[Z,U,H] w K:=au func132 kr (Eq.mp (qH (λc=>ai Q c (rk f132 K) xf (rk f132 K) (rL Z U H zu) w) (by kernel_rfl:(rep (b1 127) (cd f132 (b1 127)) (cd f132 []))=(cd f132 []))) (AG (cd f132 (b1 127)) h))
abbrev qm(K:KV)(hA0:KE)(X1 O2 P2 Q2 R2 T2:oF)(zf:oD)(w:oG):Prop :=
  bT .geq 3 O2 (ci 8) (λa=>hA0 (iN X1 O2 P2 Q2 R2 T2 a (zV zf 31 [O2]))) w
def yv(a:Code)(h:qm K (ai Q a (ai Q (cd f132 (b1 255)) (rk f132 K) (λ_ _ _=>False) (rk f132 K)) (λ_ _ _=>False) (rk f132 K)) C H Z U Y J zf w):ai Q (rep [0,1] a (cd f132 (b1 127))) (rk f132 K) xf (rk f132 K) (iM C H Z U Y J zf) w:=Eq.mp kr h
def yw(h:qm K (iK K) C H Z U Y J zf w):iJ K (iM C H Z U Y J zf) w:=by delta iJ;exact Eq.mp (qH (λc=>ai Q c (rk f132 K) xf (rk f132 K) (iM C H Z U Y J zf) w) (by kernel_rfl:(rep [0,1] (cd f132 (b1 509)) (cd f132 (b1 127)))=(cd f132 (b1 127)))) (yv (cd f132 (b1 509)) h)
abbrev qn(K:KV)(hA0 hA1:KE)(X1 O2 P2 Q2 R2 T2 U2:oF)(zf:oD)(w:oG):Prop :=
  cond U2 (bT .geq 3 O2 (ci 50) (λa=>hA0 (iO X1 P2 Q2 R2 T2 a (zV (zV zf 8 [O2]) 32 [U2,O2]))) w) (hA1 (fI P2 R2 (zV (zV (zV (zV (zV zf 0 [X1]) 8 [O2]) 10 [Q2]) 12 [T2]) 32 [U2])) w)
def yx(a:KE)(b:Code)(h:qn K (ai Q b (ai Q (cd f132 (b1 2037)) a (λ_ _ _=>False) (rk f132 K)) (λ_ _ _=>False) (rk f132 K)) a X1 H Z U Y J C zf w):ai Q (rep [0,0,1] b (cd f132 (b1 509))) a xf (rk f132 K) (iN X1 H Z U Y J C zf) w:=Eq.mp kr h
def yy(h:qn K (iL K) (bJ K) X1 H Z U Y J C zf w):iK K (iN X1 H Z U Y J C zf) w:=by delta iK;exact Eq.mp (qH (λc=>ai Q c (bJ K) xf (rk f132 K) (iN X1 H Z U Y J C zf) w) (by kernel_rfl:(rep [0,0,1] (cd f132 (b1 4073)) (cd f132 (b1 509)))=(cd f132 (b1 509)))) (yx (bJ K) (cd f132 (b1 4073)) h)
abbrev qo(K:KV)(hA0:KE)(X1 P2 Q2 R2 T2 V2:oF)(zf:oD)(w:oG):Prop :=
  cond V2 (call Q 141 #[X1,Q2,P2] (λa=>call Q 141 #[X1,R2,P2] λb=>call Q 141 #[X1,T2,P2] λc=>hA0 (dS X1 P2 a b c (zV zf 34 [V2,X1,Q2,a,X1,R2,b,X1,T2,c]))) w) (hA0 (dS X1 P2 Q2 R2 T2 (zV zf 34 [V2])) w)
def yz(a:KE)(h:qo K a C H Z U Y J zf w):ai Q (cd f132 (b1 4073)) a xf (rk f132 K) (iO C H Z U Y J zf) w:=Eq.mp kr h
def yA(h:qo K (cC K) C H Z U Y J zf w):iL K (iO C H Z U Y J zf) w:=by delta iL;exact Eq.mp (qH (λc=>ai Q c (cC K) xf (rk f132 K) (iO C H Z U Y J zf) w) (by kernel_rfl:(cd f132 (b1 4073))=(cd f132 (b1 4073)))) (yz (cC K) h)
abbrev qp(K:KV)(P2 R2:oF)(zf:oD)(w:oG):Prop :=
  ld Q 3 P2 (λa=>bT .eql 3 a (ci 0) λb w=>cond b (K (.tuple #[R2,ci 1]) w) (bT .eql 3 a (ci 12) (λa w=>cond a (K (.tuple #[R2,ci 2]) w) (K (.tuple #[R2,ci 0]) w)) w)) w
def yB(h:qp K H Z zf w):ai Q (cd f132 (b1 255)) (rk f132 K) xf (rk f132 K) (fI H Z zf) w:=Eq.mp kr h
def yC(h:qp K H Z zf w):bJ K (fI H Z zf) w:=by delta bJ;exact Eq.mp (qH (λc=>ai Q c (rk f132 K) xf (rk f132 K) (fI H Z zf) w) (by kernel_rfl:(cd f132 (b1 255))=(cd f132 (b1 255)))) (yB h)
abbrev qq(K:KV)(hA0:KE)(X1 P2 Q2 R2 T2:oF)(zf:oD)(w:oG):Prop :=
  call Q 142 #[X1,Q2,R2,T2,P2] (λa=>hA0 (fI P2 a (zV (zV (zV (zV zf 0 [X1]) 10 [Q2]) 12 [T2]) 44 [X1,Q2,R2,T2,a]))) w
def yD(a:KE)(h:qq K a J H Z U Y zf w):ai Q (cd f132 (b1 2037)) a xf (rk f132 K) (dS J H Z U Y zf) w:=Eq.mp kr h
def yE(h:qq K (bJ K) J H Z U Y zf w):cC K (dS J H Z U Y zf) w:=by delta cC;exact Eq.mp (qH (λc=>ai Q c (bJ K) xf (rk f132 K) (dS J H Z U Y zf) w) (by kernel_rfl:(cd f132 (b1 2037))=(cd f132 (b1 2037)))) (yD (bJ K) h)
attribute [irreducible] iJ bJ iK cC iL
def xQ(h:bT .sub 3 H (ci 1) (λb=>nC H λa=>call Q 142 #[U,b,H,a,Z] K) w):Gives Q 141 #[U,H,Z] w K:=au func141 kr (mpK h)
def Dj(h:call Q 143 #[Z,J,U,H] (λa=>ext Q a 0 λd=>ext Q a 1 λe=>call Q 143 #[Z,e,Y,H] λb=>ext Q b 0 λf=>ext Q b 1 λ_=>call Q 143 #[Z,d,f,H] λc=>ext Q c 0 λ_=>ext Q c 1 K) w):Gives Q 142 #[Z,J,U,Y,H] w K:=au func142 kr (mpK h)
def Dk(h:aF (λS w=>hI S 187 Y H λa=>hL S 36 a λa=>hI S 187 Y Z λb=>hL S 36 b λc=>call Q 135 #[a,c] (λd w=>cond d (aU U (λe=>ld Q 3 e λf=>nC f λg=>aU U λi=>sto Q 3 i g λ_=>K (.tuple #[H,Z])) w) (K (.tuple #[Z,H]) w)) w) w.drew):Gives Q 143 #[Y,Z,H,U] w K:=au func143 kr (mpK h)
section
attribute [local irreducible] bin un conv call bA blt slc ao fld aW idx lkp fk mW eSt rng nxt ent ext alc box bld bM ld sto aU fl mkS ifc pick rdy wts aM sti cond aY Gives ai iy ke cOp
section
open Go.ChangeMaps
abbrev pB(b:Nat):oF:=pA b 0
def u6K:HE Q 36 u6:=ZF underlying36
def u6z:∀w,(zeroValue 36).run Q w=.ok (u6 0) w:=λw=>by kernel_rfl
def pk[DecidableEq κ]{m L:List (κ×α)}(h:m.Perm L)(c:(L.map (·.1)).Nodup)(x:κ):dA m x=dA L x:=by
 have b:(m.map (·.1)).Nodup:=(h.map _).nodup_iff.2 c;cases a:dA L x with
 | none =>
  rw[wy]at a |-;exact λd=>a ((h.map _).mem_iff.1 d)
 | some v=>exact mY b (h.mem_iff.2 (wY a))
structure TreeM(w:oG) (t tp:Nat) (T:List (Int×Int)):Prop where
 bt:blk w t 197 [.map (some tp)]
 mp:∃m,MB u6 u6 w tp m/\m.Perm T
 uq:(T.map (·.1)).Nodup
section
variable {t tp:Nat}
def TreeM.below(h:TreeM w t tp T)(a:Below w.heap.size w S):TreeM S t tp T :=
 ⟨ae a h.bt h.bt.lt,let ⟨m,b,c⟩:=h.mp;⟨m,b.below a,c⟩,h.uq⟩
def TreeM.lt(h:TreeM w t tp T):t<w.heap.size/\tp<w.heap.size:=⟨h.bt.lt,let ⟨_,a,_⟩:=h.mp;a.lt⟩
def TreeM.ne(h:TreeM w t tp T):t≠tp:=by
 obtain⟨m,⟨b,c,a⟩,_⟩:=h.mp;rintro rfl
 have:=h.bt
 unfold blk at this;rw[a.heap]at this;cases this
def TreeM.oth(h:TreeM w t tp T)(a:Oth b w S)(c:t≠b)(d:tp≠b):TreeM S t tp T :=
 ⟨a.blk h.bt c,let ⟨m,e,f⟩:=h.mp;⟨m,e.oth a d,f⟩,h.uq⟩
def LX(b:(T.map (·.1)).Nodup)(id:Int):dA T id=match dB T id with|true=>some (fm T id)|false=>none:=by
 cases a:dB T id with
 | true=>exact mY b (qd a)
 | false =>
  refine wy.2 λd=>?_;obtain⟨p,c,e⟩:=qU.1 d;rw[iA.2 ⟨p,c,e⟩]at a;cases a
end
def Eh:fU Q 197 0 0 b o K w:=aJ kr
section
variable {t tp:Nat} {id:Int}
def We(h:K (.bool false) w):bin Q .eql 148 cx cy (pB b) (.pointer none) K w :=
 dZ (by unfold eqG eqGuard;rfl) kr h
def zeh(h:∀S t tp,TreeM S t tp []->Below w.heap.size w S->w.heap.size<=t->w.heap.size<=tp->K (pB t) S):call Q 55 #[] K w:=by
 refine aj (goK func55) (zaO ?_);refine wZ underlying150 rfl u6 u6 λf e d g=>?_;refine ck (vs:=[.map (some w.heap.size)]) kr ?_;refine bu λc a b i=>?_;have a:=cZ a
 exact h c _ _ ⟨a,⟨[],e.below b,.refl _⟩,by simp⟩ (d.trans (b.mono oo)) oo oA
def VI(h:TreeM w t tp T)(a:K (.bool (dB T id)) w):call Q 169 #[pB t,u6 id] K w:=by
 obtain⟨m,b,c⟩:=h.mp;refine aj (goK func169) (TV (We (aA (aq (Eh (lK (v:=.map (some tp)) h.bt rfl (ZJ (z0:=0) u6K underlying150 u6z b ?_)))))));have e:(dA m id).isSome=dB T id:=by
  rw[pk c h.uq,LX h.uq];cases dB T id<;>rfl
 rw[e];exact bo (bj a)
def zjO(h:TreeM w t tp T)(a:dB T id=true)(b:K (u6 (fm T id)) w):lkp Q 150 (.map (some tp)) (u6 id) false K w:=by obtain⟨m,c,d⟩:=h.mp;refine Tc (z0:=0) u6K underlying150 u6z c ?_;rw[pk d h.uq,LX h.uq,a];exact b
def zi6{rk:Int->Nat}(d:TK T rk)(c:dB T x=true):upT T rk (fm T x)<upT T rk x:=by
 have h:upT T rk x=rk x+1:=by unfold upT;rw[c]
 have g:=qd c;rw[h];unfold upT;cases b:dB T (fm T x)with
 | false=>show 0<rk x+1;omega
 | true =>
  rcases d.up _ g with f|⟨y,j,e,a⟩
  .exfalso;obtain⟨z,i,e⟩:=iA.1 b;exact d.nz z i (e.trans f)
  .have e:y.1=fm T x:=e;rw[<-e]
   have:rk y.1<rk x:=a
   show rk y.1+1<rk x+1;omega
def xGn{v:oF}{s:KV->oG->Prop}(b:asB v≠some cx)(h:K undef w):xG v cx s K w:=⟨λa=>qI a b,λ_=>h⟩
def c0(w:oG)(b:Nat):Int:=match w.cell? ⟨b,0,none⟩with|some v=>intOf v|none=>0
def zkM{Y:YB}{l:Nat}{rk:Int->Nat}(L:Ew Y)(G:TK T rk)(Inv:Nat->oG->Prop)(d:oG->Prop)(I:Inv 0 w)(H:∀j w,Inv j w->TreeM w t tp T/\blk w c 148 [pB t])(hi:∀j w w',Inv j w->Oth o w.drew w'->Inv j w')(k:blk w o 36 [u6 id])(U:∀j x w K,(eA T id)[j]? = some x->Inv j w->blk w o 36 [u6 x]->(∀w',Inv (j+1) w'->blk w' o 36 [u6 x]->K (.bool true) w')->(∀w',d w'->K (.bool false) w')->Y [u6 x] K w)(M:∀w',Inv (eA T id).length w'->K (.tuple #[]) w')(P:∀w',d w'->K (.tuple #[]) w'):Fx Q Y l 277 [.func (.yield l) #[] #[],pB c,pB o] w K:=by
 refine RT (OP L (Inv:=λw=>∃j x f,Inv j w/\blk w o 36 [u6 x]/\(eA T id).drop j=cU T f x/\j<=(eA T id).length/\upT T rk x<=f) (μ:=λw=>upT T rk (c0 w o))
  ⟨0,id,T.length+1,I,k,by rw[oX];rfl,qG _,by have:=Fv G id;omega⟩ ?_)
 rintro X w m ⟨j,x,f,u,k,n,Z,hu⟩ C;obtain⟨R,J⟩:=H j w u;have z:c0 w o=x:=by unfold c0;rw[k.cell];rfl
 refine lK (v:=pB t) J rfl (lK (v:=u6 x) k rfl (VI R ?_));cases r:dB T x with
 | false =>
  refine xGn dc (xGn dc (xGn dc (bZ (aA ?_))));refine M w ?_
  have:cU T f x=[]:=by cases f<;>simp[cU,r]
  rw[this,List.drop_eq_nil_iff]at n
  have:j=(eA T id).length:=by omega
  rw[<-this];exact u
 | true =>
  have E:=zi6 G r;obtain⟨i,rfl⟩:∃i,f=i+1:=⟨f-1,by omega⟩
  have O:cU T (i+1) x=x::cU T i (fm T x):=by simp[cU,r]
  rw[O]at n;have N:j<(eA T id).length:=by
   rcases Nat.lt_or_ge j (eA T id).length with h|h
   .exact h
   .rw[List.drop_eq_nil_of_le h]at n;cases n
  have S:(eA T id)[j]? = some x:=by
   have:=qH List.head? n
   rw[List.head?_drop]at this;exact this
  have B:(eA T id).drop (j+1)=cU T i (fm T x):=by
   have:=qH List.tail n
   rw[List.tail_drop]at this;exact this
  refine Xp rfl (Xp rfl (lK (v:=u6 x) k rfl (Xp rfl (.inl ⟨rfl,U j x w _ S u k (λw' p y => cA (aV ?_)) (λa D => cA (aA (P a D)))⟩))));obtain⟨g,s⟩:=H _ _ p;have q:=y.drew;have e:TreeM w'.drew t tp T:=⟨g.bt,let ⟨m,a,b⟩:=g.mp;⟨m,a.kept rfl,b⟩,g.uq⟩
  refine ah (λ_=>lK (v:=pB t) s.drew rfl) (ah (λ_=>aq) (ah (λ_=>Eh) (ah (λ_=>lK (v:=.map (some tp)) e.bt rfl) (ah (λ_=>lK (v:=u6 x) q rfl) (ah (λ_=>zjO e r) ?_)))));refine cq kf q (by show 0<1;decide) rfl λW F V=>?_;refine⟨⟨j+1,fm T x,i,hi _ _ _ p V,F,B,by omega,by omega⟩,?_⟩;have A:c0 W o=fm T x:=by unfold c0;rw[F.cell];rfl
  rw[C,z,A];exact E
def zkL(h:∀S,blk S w.heap.size 148 [pB t]->blk S (w.heap.size+1) 36 [u6 id]->Below w.heap.size w S->S.heap.size=w.heap.size+2->K (.func (.func 277) #[] #[pB w.heap.size,pB (w.heap.size+1)]) S):call Q 272 #[pB t,u6 id] K w:=by refine aj (goK func272) (VK ?_);refine bu λi d c e=>bu λf b a g=>?_;rw[e]at b |-;exact h f (ae a (by simpa[Value.cells]using d) oo) (by simpa[Value.cells,u6]using b) (c.trans (a.mono oo)) oo
end
end
end
section
open Go.ChangeMaps
def Um{P:Program}{l:Nat}{e:Env}{n:Array Tmp}{a c:Code}:Ew (Yu P l D O0 e n a c):=λ_ _ _ _ b ⟨g,i,j,k,m⟩ =>
 ⟨g,i,j,k,Ey a m (λ_ _ _ ⟨d,f⟩=>⟨d,Ey c f (λ_ _ _ ⟨x,y⟩=>⟨x,b _ _ y⟩) (λ_ _ _ _ ⟨x,y⟩=>⟨x,b _ _ y⟩) (λ_ _ _ ⟨x,y⟩=>⟨x,b _ _ y⟩)⟩) (λ_ _ _ _ h=>h) (λ_ _ _ h=>h)⟩
def oth_put{l:Nat}{o:Obj}:Oth l w (w.putObj l o):=⟨rfl,rfl,rfl,World.putObj_size,λk a=>World.putObj_heap_other (λe=>a (by rw[e]))⟩
def zfD{B n l:Nat}{r:Loop}{o:Obj}(h:w.ownsRow B E s (.slice a n c) n xs)(f:w.heap[l]? = some (.loop r)):(w.putObj l o).ownsRow B E s (.slice a n c) n xs :=
 cn h λk d=>by
  rcases h.2 with⟨b,_⟩|⟨g,i,j,b,p,m,_⟩
  .cases b;cases d
  .cases b
   have e:k=g:=by simpa[Value.ownBlock]using d.symm
   subst e
   refine World.putObj_heap_other λe=>?_
   subst e;rw[m]at f;cases f
def Tw{T:List (Int×Int)}:∀(f:Nat) (id:Int),(cU T f id).length<=f
 | 0,_=>Nat.le_refl _
 | f+1,id=>by
  unfold cU;split
  .have:=Tw (T:=T) f (fm T id);simp;omega
  .simp
def uT{P:Program}{b:Addr}{v:oF}(f:∀K':KV,K' v w->ld P t (.pointer (some b)) K' w)(h:K v w):aY P [(some t,.pointer (some b))] K w:=by
 have e:(loadVar t b).run P w=.ok v w:=by
  have:=f (λc d => c=v/\d=w) ⟨rfl,rfl⟩
  unfold ld okV at this;unfold Instr.loadAt at this;simp only[Instr.sureAddr,jY,jX,jW]at this;split at this
  .rename_i c d a;rw[a,this.1,this.2]
  .exact this.elim
 unfold aY
 have:(pR [(some t,.pointer (some b))]).run P w=.ok v w:=by simp[pR,asAddr,jY,e]
 rw[this];exact⟨rfl,h⟩
def TreeM.drew{t:Nat}(h:TreeM w t c T):TreeM w.drew t c T:=⟨h.bt,let ⟨m,a,b⟩:=h.mp;⟨m,a.kept rfl,b⟩,h.uq⟩
def PF{B n k:Nat}{v:oF}{o:Obj}(h:w.ownsRow B e s v n xs)(g:w.grownBy S v.ownBlock)(b:w.heap[k]? = some o)(i:∀cs z,o≠.cells cs e z):S.heap[k]? = some o:=by have c:k<w.heap.size:=(qM.1 b).1;rw[g.block k c λf=>?_];exact b;obtain⟨⟨d,a⟩,_⟩:=wg h f.symm;unfold blk at a;rw[b]at a;exact i _ _ (Option.some.inj a)
def TreeM.grow{t B n:Nat}{v:oF}(d:TreeM w t b T)(h:w.ownsRow B e s v n xs)(f:w.grownBy S v.ownBlock)(i:197≠e):TreeM S t b T :=
 ⟨uz d.bt h i f,let ⟨m,⟨g,c,a⟩,j⟩:=d.mp;⟨m,MB.kept ⟨g,c,a⟩ (by rw[a.heap];exact PF h f a.heap (λ_ _ e=>by cases e)),j⟩,d.uq⟩
attribute [local irreducible] bin un conv call bA blt slc ao fld aW idx lkp fk mW eSt rng nxt ent ext alc box bld bM ld sto aU fl mkS ifc pick rdy wts aM sti cond aY Gives ai iy ke cOp
section
variable {t tp:Nat} {id:Int}
def Rd{rk:Int->Nat}(G:TK T rk)(ht:TreeM w t tp T)(hn:T.length<=1000)(h:∀w' a c,w'.ownsRow w.heap.size 36 1 (.slice a (eA T id).length c) (eA T id).length ((eA T id).map u6)->Below w.heap.size w w'->K (.slice a (eA T id).length c) w'):call Q 256 #[pB t,u6 id] K w:=by
 refine aj (goK func256) (RR (bO (z:=.slice none 0 0) kr λS h1 b1 s1=>zkL λw2 h2 h3 X s2=>?_));have h1:=cZ h1
 refine zdW (g:=.tmp 8) (ps:=#[9]) (a:=cd uX []) (bd:=cd uY []) (gf:=277) (cap:=[pB S.heap.size,pB (S.heap.size+1)]) kr rfl ?_;intro fn W C sW hD hL;have al:=ht.lt;have ah:(eA T id).length<=T.length+1:=Tw _ _;generalize hz:w.heap.size=z at *;rw[s1]at h2 h3 s2 |-;have ez:w2.heap.size=z+3:=by omega
 rw[ez]at C sW hD hL |-;rw[s1]at hL;have tW:TreeM W t tp T:=((ht.below (by rw[hz];exact b1)).below (X.mono oo)).below (C.mono oo);have B0:=b1.trans ((X.mono oo).trans (C.mono oo))
 refine zkM Um G (λj v=>(TreeM v t tp T/\blk v (z+1) 148 [pB t])/\(∃a c,blk v z 187 [.slice a j c]/\v.ownsRow z 36 1 (.slice a j c) j (((eA T id).take j).flatMap uC)/\((Value.slice a j c).ownBlock≠some (z+2))) /\
   v.heap[z+4]? = some (.loop (pD fn _ #[9] (cd uX []) (cd uY []) (z+3) .ready none))/\v.heap[z+3]? = some (.deferred (some []))/\Below z w v/\z+5<=v.heap.size) (λ_=>False)
  ⟨⟨tW,ae C h2 oo⟩,⟨none,0,ae C (ae (X.mono (show z+1<=S.heap.size by omega)) h1 oo) oo,World.ownsRow_nil _ _ _ _,by simp[Value.ownBlock]⟩,hL,hD,B0,by omega⟩ (λj v a=>a.1) ?_ (ae C h3 oo) ?_ ?_ ?_
 .rintro j v v' ⟨⟨U,V⟩,⟨a,c,D,L,E⟩,n,F,M,Z⟩ o;refine⟨⟨U.drew.oth o oo oo,o.blk V.drew oo⟩,⟨a,c,o.blk D.drew oo,cn L λk G=>o.other k (λe=>E (by rw[G,e])),E⟩,(o.other _ oo).trans n,(o.other _ oo).trans F,fR M.drew o oo,by rw[o.size];exact Z⟩
 .rintro j x v K' hx ⟨⟨U,V⟩,⟨a,c,D,L,E⟩,n,F,M,Z⟩ hb kT kF;refine⟨by kernel_rfl,by kernel_rfl,n,rfl,OM ⟨n,OO ?_⟩⟩;generalize d:v.putObj (z+4) _=v1;have f:Oth (z+4) v v1:=d ▸ oth_put;have l1:v1.heap[z+4]? = some (.loop (pD fn _ #[9] (cd uX []) (cd uY []) (z+3) .busy none)):=d ▸ World.putObj_heap_same oo
  have I:v1.ownsRow z 36 1 (.slice a j c) j (((eA T id).take j).flatMap uC):=d ▸ zfD L n;have z1:v1.heap.size=v.heap.size:=f.size;have ag:j<(eA T id).length:=(gS hx).1;refine lK (v:=.slice a j c) (f.blk D oo) rfl ?_
  refine nV (vs:=[u6 x]) underlying187 (s:=1) kr kr oo rfl oB oB oB (by simp[u6,Value.cells]) λJ N u z2=>?_;have N:blk J v1.heap.size 36 (uC x):=by simpa[Value.cells,u6,uC]using N
  obtain⟨ii,ac,af,ad,aa⟩:=info_parts (show (Tryz.prog.info? 36).map (λi=>(i.zero,i.size,i.bytes))=some (some (u6 0),1,8)by kernel_rfl);have r:=cn I λq A=>u.block q (jT I q A).2
  refine wK (base:=z) (enc:=uC) (x:=x) underlying187 ac af ad aa rfl oo (λ_=>rfl) r N (by simp[uC,u6,Value.oneCell']) oo oo (by have:=u.size;omega) λa' c' R P b c3 l=>?_;have m:∀{k o},v1.heap[k]? = some o->J.heap[k]? = some o:=λ{k o} G=>by rw[u.block k (qM.1 G).1];exact G
  have t3:TreeM R t tp T:=((U.oth f oo oo).below u).grow r b dc;have f3:blk R (z+1) 148 [pB t]:=uz (m (f.blk V oo)) r dc b;have s3:blk R z 187 [.slice a j c]:=uz (m (f.blk D oo)) r dc b;have l3:=PF r b (m l1) (λ_ _ e=>by cases e)
  have d3:=PF r b (m ((f.other _ oo).trans F)) (λ_ _ e=>by cases e);have x3:blk R (z+2) 36 [u6 x]:=(b.block (z+2) (by have:=u.size;omega) (λe=>E e.symm)).trans (m (f.blk hb oo));refine cq kf s3 (by show 0<1;decide) rfl λv4 k4 p=>⟨(p.other _ oo).trans l3,kT _ ?_ ?_⟩
  .generalize B:v4.putObj (z+4) _=v5;have H:Oth (z+4) v4 v5:=B ▸ oth_put;have l4:v4.heap[z+4]? = _:=(p.other _ oo).trans l3;have ai:=u.size;have ak:=b.size;have r4:=cn P λq A=>p.other q (λe=>by
    subst e;obtain⟨⟨cc,y⟩,_⟩:=wg P A;exact qI (mG y s3) dc)
   have r5:v5.ownsRow z 36 1 (.slice a' (j+1) c') (j+1) ((((eA T id).take j)++[x]).flatMap uC):=B ▸ zfD r4 l4;have Y:(eA T id).take j++[x]=(eA T id).take (j+1):=by rw[List.take_add_one,hx];rfl
   rw[Y]at r5;refine⟨⟨(t3.oth p oo oo).oth H oo oo,H.blk (p.blk f3 oo) oo⟩,⟨a',c',H.blk k4 oo,r5,λe=>?_⟩,B ▸ World.putObj_heap_same (qM.1 l4).1,(H.other _ oo).trans ((p.other _ oo).trans d3),?_,by rw[H.size,p.size];omega⟩
   .rcases l with l|l
    .exact E (l ▸ e)
    .rw[l]at e
     have:=Option.some.inj e
     omega
   .exact fR (fR ((fR M f oo).trans ((u.mono oo).trans c3)) p oA) H oo
  .exact oth_put.blk (p.blk x3 oo) oo
 .rintro v ⟨_,⟨a,c,D,L,E⟩,n,F,M,Z⟩;refine⟨none,n,OL ?_⟩;have l4:=n;generalize d:v.putObj _ _=v1;have f:Oth (z+4) v v1:=d ▸ oth_put;have I:v1.ownsRow z 36 1 (.slice a (eA T id).length c) (eA T id).length (((eA T id).take (eA T id).length).flatMap uC):=d ▸ zfD L n;rw[List.take_length,zi4]at I;have k1:=f.blk D oo;refine lK (v:=.slice a (eA T id).length c) k1 rfl ?_
  refine cq kf k1 (by show 0<1;decide) rfl λJ N O=>⟨(O.other _ oo).trans ((f.other _ oo).trans F),?_⟩
  have o3:Oth (z+3) J (J.putObj (z+3) (.deferred none)):=oth_put;have ab:J.heap[z+3]? = some (.deferred (some [])):=(O.other _ oo).trans ((f.other _ oo).trans F);have r:=cn I λq A=>O.other q (λe=>by
   subst e;obtain⟨⟨cc,y⟩,_⟩:=wg I A;exact qI (mG y k1) dc)
  have P:=cn r λq A=>o3.other q (λe=>by
   subst e;obtain⟨⟨cc,y⟩,_⟩:=wg r A;unfold blk at y;rw[ab]at y;cases y)
  refine uT (λ_=>lK (v:=.slice a (eA T id).length c) (o3.blk N oo) rfl) (h _ a c P ?_);exact fR (fR (fR M f oo) O oA) o3 oo
 .exact λ_ h=>h.elim
end
end
section
attribute [local irreducible] bin un conv call bA blt slc ao fld aW idx lkp fk mW eSt rng nxt ent ext alc box bld bM ld sto aU fl mkS ifc pick rdy wts aM sti cond aY Gives ai iy ke cOp
section
open Go.ChangeMaps
def insA_perm{L:List α}{z:α}:(vO L i z).Perm (L++[z]):=by unfold vO;refine(List.perm_middle).trans ?_;rw[List.take_append_drop];exact(List.perm_append_singleton z L).symm
section
variable {t tp:Nat} {id par:Int}
def VH{rk:Int->Nat}(U:TK T rk)(g:TreeM w t tp T)(V:T.length<=1000)(h:∀w',TreeM w' t tp (nu T id par).1->Ch [tp] w w'->K (ci (nu T id par).2) w'):call Q 312 #[pB t,u6 id,u6 par] K w:=by
 have B:∀{w':oG} (v:Int),nu T id par=(T,v)->Below w.heap.size w w'->K (ci v) w':=λ{w'} v e b=>by
  have:=h w' (by rw[e];exact g.below b) (Ch.of_below b)
  rw[e]at this;exact this
 have C:=jU w.heap.size w;refine aj (goK func312) (TU (We (aA (aT ?_))));by_cases o:id=0
 .exact ay o (B 1 (by unfold nu;rw[oJ o]) C)
 refine ax o (VI g ?_);cases F:dB T id with
 | true=>exact aV (B 14 (by unfold nu;rw[oI o,oJ F]) C)
 | false =>
 have l:¬dB T id=true:=by rw[F];simp
 refine aA (aZ ?_);have R:∀z:par≠0/\dB T par=false,nu T id par=(T,9):=λz=>by unfold nu;rw[oI o,oI l,oJ z]
 have j : ¬(par≠0/\dB T par=false)->∀{H p d q:oF} {P:oD},H=pB t->p=u6 id->d=u6 par->q=.bool (decide (32<=(T.length:Int)))->tK K ((iF H p d q P)) w:=by
  intro z H p d q P X Y Z q4;subst X Y Z q4;refine Qx ?_;have J:32<=T.length\/4<=(eA T par).length->nu T id par=(T,6):=λr=>by unfold nu;rw[oI o,oI l,oI z,oJ r]
  by_cases k:32<=(T.length:Int)
  .exact ay k (Fs (ay k (B 6 (J (.inl oo)) C)))
  refine ax k (Rd U g V λO a c ho D=>bv underlying187 (bR (Fs ?_)));by_cases L:((eA T par).length:Int)≥4
  .exact ay L (B 6 (J (.inr oo)) D)
  refine ax L (Qz ?_);have n:=g.below D;obtain⟨m,u,f⟩:=n.mp;refine aq (Eh (lK (v:=.map (some tp)) n.bt rfl (vT u6K underlying150 u λw2 y N=>?_)));have I:nu T id par=(vO T (Wt (λx=>decide (id<x.1)) T T.length) (id,par),0):=by unfold nu;rw[oI o,oI l,oI z,oI oo]
  have i:dA m id=none:=by rw[pk f g.uq,LX g.uq,F]
  rw[yY i]at y;have M:(m++[(id,par)]).Perm (nu T id par).1:=by rw[I];exact(f.append_right _).trans insA_perm.symm
  have G:((nu T id par).1.map (·.1)).Nodup:=by
   refine(M.map _).nodup_iff.1 ?_
   have:=CZ (x:=id) (v:=par) ((f.map (·.1)).nodup_iff.2 g.uq)
   rwa[yY i]at this
  have E:=g.ne;have S:Ch [tp] w w2:=(Ch.of_below D:Ch [tp] w O).trans (Ch.of_oth N oB:Ch [tp] O w2) (λx W=>.inl W)
  have:=h w2 ⟨N.blk n.bt E,⟨_,y,M⟩,G⟩ S
  rw[I]at this;exact this
 by_cases s:par≠0
 .refine bU s (VI g (bc (bI s ?_)));cases A:dB T par with
  | false=>exact aV (B 9 (R ⟨s,A⟩) C)
  | true =>
   obtain⟨m,u,f⟩:=g.mp;refine aA (aq (Eh (lK (v:=.map (some tp)) g.bt rfl (zcd underlying150 u (bR ?_)))));exact j (λr=>by rw[A]at r;cases r.2) rfl rfl rfl (by rw[f.length_eq])
 .refine cJ s (bw s (aA ?_));obtain⟨m,u,f⟩:=g.mp;refine aq (Eh (lK (v:=.map (some tp)) g.bt rfl (zcd underlying150 u (bR ?_))));exact j (λr=>s r.1) rfl rfl rfl (by rw[f.length_eq])
end
end
end
end Go.Proofs.YtpaghmnnhedccaaGreatDoor
