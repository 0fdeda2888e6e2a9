import Derived.Test.YtpaghmnnhedccaaGreatDoorRows
import Derived.ProofKit
import Derived.OpenShut
import Derived.ShutString
import Derived.ChangeOld
import Derived.Below
import Derived.JoinedCond
import Derived.Deep.Matrix
import Derived.LaidMore
import Derived.LaidHandle
import Derived.ChangeSame
import Derived.Stop.Joined
import Derived.Deep.Slices
import Derived.Test.YtpaghmnnhedccaaGreatDoorQ16
set_option linter.all false
namespace Go.Proofs.YtpaghmnnhedccaaGreatDoor
set_option maxRecDepth 100000
set_option maxHeartbeats 4000000
open Go.Proofs.Tryz
open Go.RowKit
variable {w w' w0 w2 S O:oG}{K:KV}{zf:Nat->oF}{b c o i g m s j f z d c2 D gc hi:Nat}{a av a2:Option Addr}{x v r:Int}{E t e:TypeId}{A:List Int}{B1 N R:KE}{xs ys vs:oE}{cx:Bool}{α:Type}{T:List (Int×Int)}{X1 Z1 H Z U Y J C:oF}
section
open Go.ChangeShapes Go.WideShapes Go.ChangeAt
def zeo{x:Addr}(a:x.spot=none)(i:Nat):x.add i=rM (some x) i:=by obtain⟨b,o,s⟩:=x;cases a;simp[Addr.add,rM]
section
variable {H:Type}{enc:TypeId×oF->H}{W:oG}{base:Nat}{held:Bool}

end
end
def gbk(w:oG)(g:Nat)(cs:oE):Prop:=∃E fr,w.heap[g]? = some (.cells cs.toArray E fr)
def fnV(f:FuncId):oF:=.func (.func f) #[] #[]
def Sg{P:Program}{base:Nat}{e:Nat->Bool}{a:Nat}{c d:Array TypeId}{v:oF}{q:List MemPlace}{enc:TypeId×oF->List UInt8}(b:P.underlying t=some (.func c d cx))(h:DataW.trod enc P w base e true a t [v]=some (.nil,q)):v=.nilFunc:=by
 cases a with
 | zero=>simp[DataW.trod]at h
 | succ n=>cases v<;>simp[DataW.trod,b]at h;rfl
def fnD(P:Program):DataW (List UInt8)->Option (oE)
 | .nil=>some [.nilFunc]
 | .held (b::r)=>match (List.range P.funcs.size).filter λf=>(P.funcs[f]?).any (·.name.toUTF8.data.toList==b::r)with
  | [f]=>some [fnV f]
  | _=>none
 | _=>none
def n9{P:Program}{base:Nat}{j:Nat->Bool}{b:Nat}{g i:Array TypeId}{x:DataW (List UInt8)}{l v:oE}{q:List MemPlace}(c:P.underlying t=some (.func g i cx))(e:l.length=1)(h:DataW.trod (funcToken P) P w base j true b t l=some (x,q))(a:fnD P x=some v):l=v:=by
 obtain⟨u,rfl⟩:=List.length_eq_one_iff.1 e;unfold fnD at a;split at a
 .rw[Sg c h];exact Option.some.inj a
 .split at a
  .rename_i f d;rw[func_of_trod c d h];exact Option.some.inj a
  .cases a
 .cases a
def N7{α:Type}{k:α->Option (oE)}{F:oE->Option α}{c:Nat}(g:∀l x v,l.length=c->F l=some x->k x=some v->l=v):∀(xs:List α) (cs:oE),cs.length=xs.length*c->(∀i,i<xs.length->F ((cs.drop (i*c)).take c)=xs[i]?)->∀vs,xs.foldr (λd r=>(k d).bind λa=>r.map (a++·)) (some [])=some vs->cs=vs
 | [],cs,hl,_,vs,e=>by simp at hl e;rw[hl,e]
 | x::xs,cs,hl,h,vs,e=>by
  rw[oZ,Nat.succ_mul]at hl;have f:=h 0 oB;rw[Nat.zero_mul,oX]at f;simp only[List.foldr_cons]at e;obtain⟨a,n,e⟩:=Option.bind_eq_some_iff.1 e;obtain⟨b,o,rfl⟩:=Option.map_eq_some_iff.1 e;have j:=g _ _ _ (by rw[qA];omega) f n;have m:=N7 g xs (cs.drop c) (by rw[qB];omega) (λi p=>by
   have:=h (i+1) (by simpa using p)
   rw[Nat.succ_mul,Nat.add_comm, <-List.drop_drop]at this;simpa using this) b o
  rw[<-j, <-m,List.take_append_drop]
theorem tbl {P:Program} {W:World} {j:List (String × DataW Unit)} {C:String} {d:DataW Unit} {ds:List (DataW (List UInt8))} {n:Nat} {k:DataW (List UInt8)→Option (List Value)}
  (h:laidMetH P j W) (N:(C,DataW.iface "func table" d) ∈ j) (A:P.globalNamed C=some g) (R:(P.globals[g]?).map (·.type)=some t) (E:P.underlying t=some (.array n e)) (G:P.cellsOf t=n * c) (I:P.cellsOf e=c) (H:d.funcsOut=.agg ds)
  (L:∀ m l x q v,l.length=c→DataW.trod (funcToken P) P W 0 (fun _=>true) true m e l=some (x,q)→k x=some v→l=v)
  (S:ds.foldr (fun d r=>(k d).bind fun a=>r.map (a++·)) (some [])=some vs):gbk W g vs:=by
 obtain ⟨U,X,D,z,p,u,w,o,B⟩:=h.funcs N;obtain rfl:=Option.some.inj (A.symm.trans u);obtain rfl:=Option.some.inj (R.symm.trans w);rw [H] at B;obtain ⟨T,m,rfl,y,M,O,s⟩:=DataW.trod_array E B;have y:=DataW.agg.inj (Prod.mk.inj y).1;rw [I] at s
 have:=N7 (k:=fun x=>k x.1) (c:=c) (F:=fun l=>DataW.trod (funcToken P) P W 0 (fun _=>true) true m e l) (fun l x v a b=>L m l x.1 x.2 v a b) T D.toList (by rw [M,G,O]) (fun i V=>s i oo) vs (by rw [← S,y,List.foldr_map])
 unfold World.var? at o;rw [A] at o;simp only [Option.bind_some] at o;split at o
 ·rename_i a b f J; cases o; exact ⟨b,f,by rw [J, ← this]⟩
 ·cases o
def ZH:oE:=[.nilFunc,fnV 302,fnV 303,fnV 304,fnV 305,fnV 306,fnV 307,fnV 308]
set_option maxRecDepth 100000 in
theorem zdp {W:World} {a:List (String × DataW Unit)} (h:laidMetH Q a W) (d:("leat/ledger.kinds",Rows.laid_leat_ledger_kinds) ∈ a):gbk W 1 ZH :=
 tbl (t:=229) (n:=8) (c:=1) (e:=228) h d kr kr kr kr kr rfl (fun _ _ _ _ _ b h f=>n9 underlying228 b h f) kr
def ln{P:Program}{base:Nat}{g:Nat->Bool}{c:Nat}{d e:Field}{a b:oF}{x y:DataW (List UInt8)}{q:List MemPlace}{enc:TypeId×oF->List UInt8}(l:P.underlying t=some (.struct #[d,e]))(m:d.offset=0)(c0:P.cellsOf d.type=1)(o:e.offset=1)(k:P.cellsOf e.type=1)(h:DataW.trod enc P w base g true c t [a,b]=some (.agg [x,y],q)):∃n p q1,DataW.trod enc P w base g true n d.type [a]=some (x,p)/\DataW.trod enc P w base g true n e.type [b]=some (y,q1):=by obtain⟨r,s,n,f,_,i,j⟩:=Go.ChangeShapes.trod_struct2 l h;rw[m,c0]at i;rw[o,k]at j;have f:=(Prod.mk.inj f).1;simp only[DataW.agg.injEq,List.cons.injEq,and_true]at f;obtain⟨rfl,rfl⟩:=f;exact⟨n,r.2,s.2,by simpa using i,by simpa using j⟩
def iX{P:Program}{base:Nat}{d:Nat->Bool}{a:Nat}{b:Bool}{v:oF}{q:List MemPlace}{enc:TypeId×oF->List UInt8}(c:P.underlying t=some .bool)(h:DataW.trod enc P w base d true a t [v]=some (.lit (.bool b),q)):v=.bool b:=by
 cases a with
 | zero=>simp[DataW.trod]at h
 | succ n=>cases v<;>simp[DataW.trod,c]at h;rw[h.1]
def W9:oE:=[.nilFunc,.bool false,fnV 171,.bool false,fnV 172,.bool false,fnV 173,.bool true,fnV 174,.bool true,fnV 175,.bool true,fnV 176,.bool true,fnV 177,.bool false,fnV 178,.bool true,fnV 179,.bool false,fnV 180,.bool false,fnV 181,.bool false,fnV 182,.bool false]
def O7(P:Program):DataW (List UInt8)->Option (oE)
 | .agg [x,.lit (.bool b)]=>(fnD P x).map (·++[.bool b])
 | _=>none
def u9{P:Program}{base:Nat}{B:Nat->Bool}{c:Nat}{d e:Field}{s A:Array TypeId}{x:DataW (List UInt8)}{l v:oE}{q:List MemPlace}(m:P.underlying t=some (.struct #[d,e]))(p:d.offset=0)(c0:P.cellsOf d.type=1)(r:e.offset=1)(g:P.cellsOf e.type=1)(j:P.underlying d.type=some (.func s A cx))(i:P.underlying e.type=some .bool)(k:l.length=2)(h:DataW.trod (funcToken P) P w base B true c t l=some (x,q))(f:O7 P x=some v):l=v:=by
 obtain⟨a,b,rfl⟩:∃a b,l=[a,b]:=by
  match l,k with
  | [a,b],_=>exact⟨a,b,rfl⟩
 unfold O7 at f;split at f
 .obtain⟨n,C,D,y,z⟩:=ln m p c0 r g h;obtain⟨u,o,rfl⟩:=Option.map_eq_some_iff.1 f;rw[<-n9 j rfl y o,iX i z];rfl
 .cases f
set_option maxRecDepth 100000 in
theorem zc3 {W:World} {a:List (String × DataW Unit)} (h:laidMetH Q a W) (d:("leat/cluster.doings",Rows.laid_leat_cluster_doings) ∈ a):gbk W 0 W9 :=
 tbl (t:=88) (n:=13) (c:=2) (e:=87) h d kr kr kr kr kr rfl
  (fun _ _ _ _ _ b h f=>u9 underlying87 rfl kr rfl kr underlying85 underlying4 b h f) kr
def zc5:ownKnob Tryz.prog.godebug=none:=by kernel_rfl
def zaC:laidOutB Q=true:=by kernel_rfl
section
open Go.ChangeShapes Go.WideShapes Go.ChangeAt Go.Deep
section
variable {H:Type}{enc:TypeId×oF->H}{W:oG}{base:Nat}{held:Bool}
def zal(h:(Lit.int .u8 x).wf=true):0<=x/\x<=255:=by simpa[Lit.wf,IntKind.min,IntKind.max,IntKind.signed,IntKind.bits]using h
end
def Hu(h:(Lit.int .i64 x).wf=true):FG x:=by simpa[FG,Lit.wf,IntKind.min,IntKind.max,IntKind.signed,IntKind.bits]using h
def Xf(h:(Lit.int .u64 x).wf=true):0<=x/\x<=18446744073709551615:=by simpa[Lit.wf,IntKind.min,IntKind.max,IntKind.signed,IntKind.bits]using h
section
variable {H:Type}{enc:TypeId×oF->H}{W:oG}{base:Nat}{held:Bool}
def zcw{x:Addr}{d:Nat}{g:List Int}(m:c<=d)(n:g.length=d)(a:∀i,i<g.length->w.cell? (x.add i)=some (ci (g.getD i 0))):RIn w (some x) c d (g.take c):=by
 have f:0<c->x.spot=none:=by
  intro j
  have:=World.cell?_spot (a 0 oo)
  simpa[Addr.add]using this
 refine⟨by simp;omega,m,λj=>⟨x.block,x.off,by have:=f j;obtain⟨b,o,s⟩:=x;cases this;rfl⟩,(λk=>by cases k),λi v h=>?_⟩;have l:i<c:=by
  have:=(gS h).1
  simp at this;omega
 rw[<-zeo (f oo),a i oo];have e:i<g.length:=by omega
 rw[qC,jN l,gE e]at h;simp only[jP,qD]at h;rw[<-h];simp[List.getD,e]
def zcx{e:Nat}{cs:oE}{n:Nat}{x:DataW H×List MemPlace}(f:cs=[.slice a n c])(h:DataW.trod enc Q W base (λ_=>true) held e 47 cs=some x):(∃l,RIn W a n c l)/\n<=c/\c<=9223372036854775807:=by
 rcases open_ints underlying47 underlying3 kr h with⟨b,_⟩|⟨x,l,c,m,b,_,g,i,k,_,d,j⟩
 .rw[f]at b;simp only[List.cons.injEq,Value.slice.injEq,and_true]at b;obtain⟨rfl,rfl,rfl⟩:=b;exact⟨⟨[],RV.nil W⟩,by omega,by omega⟩
 .rw[f]at b;simp only[List.cons.injEq,Value.slice.injEq,and_true]at b;obtain⟨rfl,rfl,rfl⟩:=b;exact⟨⟨_,zcw g (by simpa using k) d⟩,g,by simpa[maxLen]using i⟩
def zdE{i:Nat}{cs:oE}{x:DataW H×List MemPlace}(h:DataW.trod enc Q W base (λ_=>true) held i 49 cs=some x):∃s a c,cs=stC s (.slice a s.picks.length c)/\STW s/\STI s/\RIn W a s.picks.length c s.picks/\s.picks.length<=c/\c<=9223372036854775807:=by
 obtain⟨O,n,rfl,rfl,j,u,d⟩:=DataW.trod_struct underlying49 h;have k:cs.length=12:=by rw[j];kernel_rfl
 match cs,k with
 | [c0,c1,c2,c3,c4,c5,c6,c7,c8,c9,c10,c11],_ =>
  have t:O.length=7:=u
  match O,t with
  | [x0,x1,x2,x3,x4,x5,x6],_ =>
   have Y:DataW.trod enc Q W base (λ_=>true) held n 5 [c0]=some x0:=Eq.mp kr (d 0 _ rfl);have Z:DataW.trod enc Q W base (λ_=>true) held n 3 [c1]=some x1:=Eq.mp kr (d 1 _ rfl);have h2:DataW.trod enc Q W base (λ_=>true) held n 46 [c2,c3,c4,c5,c6,c7]=some x2:=Eq.mp kr (d 2 _ rfl)
   have h3:DataW.trod enc Q W base (λ_=>true) held n 3 [c8]=some x3:=Eq.mp kr (d 3 _ rfl);have h4:DataW.trod enc Q W base (λ_=>true) held n 3 [c9]=some x4:=Eq.mp kr (d 4 _ rfl);have h5:DataW.trod enc Q W base (λ_=>true) held n 3 [c10]=some x5:=Eq.mp kr (d 5 _ rfl)
   have M:DataW.trod enc Q W base (λ_=>true) held n 47 [c11]=some x6:=Eq.mp kr (d 6 _ rfl);obtain⟨z0,y,_,w0⟩:=DataW.trod_int underlying5 Y;obtain⟨z1,A,_,w1⟩:=DataW.trod_int underlying3 Z;obtain⟨z3,B,_,w3⟩:=DataW.trod_int underlying3 h3;obtain⟨z4,C,_,w4⟩:=DataW.trod_int underlying3 h4;obtain⟨z5,D,_,w5⟩:=DataW.trod_int underlying3 h5
   obtain⟨P,f,rfl,rfl,p,w,e⟩:=DataW.trod_struct underlying46 h2;have v:P.length=6:=w
   match P,v with
   | [y0,y1,y2,y3,y4,y5],_ =>
    have R:DataW.trod enc Q W base (λ_=>true) held f 5 [c2]=some y0:=Eq.mp kr (e 0 _ rfl);have S:DataW.trod enc Q W base (λ_=>true) held f 36 [c3]=some y1:=Eq.mp kr (e 1 _ rfl);have T:DataW.trod enc Q W base (λ_=>true) held f 3 [c4]=some y2:=Eq.mp kr (e 2 _ rfl)
    have U:DataW.trod enc Q W base (λ_=>true) held f 2 [c5]=some y3:=Eq.mp kr (e 3 _ rfl);have V:DataW.trod enc Q W base (λ_=>true) held f 36 [c6]=some y4:=Eq.mp kr (e 4 _ rfl);have X:DataW.trod enc Q W base (λ_=>true) held f 36 [c7]=some y5:=Eq.mp kr (e 5 _ rfl);obtain⟨v0,E,_,r0⟩:=DataW.trod_int underlying5 R
    obtain⟨v1,F,_,r1⟩:=DataW.trod_int underlying36 S;obtain⟨v2,G,_,r2⟩:=DataW.trod_int underlying3 T;obtain⟨v3,I,_,r3⟩:=DataW.trod_int underlying2 U;obtain⟨v4,J,_,r4⟩:=DataW.trod_int underlying36 V;obtain⟨v5,L,_,r5⟩:=DataW.trod_int underlying36 X;obtain⟨a,m,c,g⟩:∃a m c,c11=.slice a m c:=by
     rcases open_ints underlying47 underlying3 kr M with⟨b,_⟩|⟨x,l,c,zs,b,_⟩
     .simp only[List.cons.injEq,and_true]at b;exact⟨_,_,_,b⟩
     .simp only[List.cons.injEq,and_true]at b;exact⟨_,_,_,b⟩
    obtain⟨⟨l,N⟩,o,r⟩:=zcx (qH (λz=>[z]) g) M;simp only[List.cons.injEq,and_true]at y A B C D E F G I J L;subst y A B C D E F G I J L g;have q:l.length=m:=by simpa using N.len
    subst q;exact⟨⟨z0,z1,v0,v1,v2,v3,v4,v5,z3,z4,z5,l⟩,a,c,rfl,⟨zal w0,zal r0,Xf r1,Xf r4,Xf r5⟩,⟨Hu w1,Hu r2,Hu r3,Hu w3,Hu w4,Hu w5⟩,N,o,r⟩
def zfB{b:Nat}{cs:oE}{x:DataW H×List MemPlace}(h:DataW.trod enc Q W base (λ_=>true) held b 51 cs=some x):∃y:S24,cs=Qn y/\ZV W y:=by
 obtain⟨l,n,rfl,rfl,d,i,f⟩:=DataW.trod_struct underlying51 h;have e:cs.length=14:=by rw[d];kernel_rfl
 match cs,e with
 | [c0,c1,c2,c3,c4,c5,c6,c7,c8,c9,c10,c11,c12,c13],_ =>
  have g:l.length=3:=i
  match l,g with
  | [x0,x1,x2],_ =>
   have q:DataW.trod enc Q W base (λ_=>true) held n 49 [c0,c1,c2,c3,c4,c5,c6,c7,c8,c9,c10,c11]=some x0:=Eq.mp kr (f 0 _ rfl);have r:DataW.trod enc Q W base (λ_=>true) held n 4 [c12]=some x1:=Eq.mp kr (f 1 _ rfl);have t:DataW.trod enc Q W base (λ_=>true) held n 5 [c13]=some x2:=Eq.mp kr (f 2 _ rfl);obtain⟨s,a,c,p,u,v,w,z,A⟩:=zdE q
   obtain⟨m,j,_⟩:=DataW.trod_bool underlying4 r;obtain⟨o,k,_,B⟩:=DataW.trod_int underlying5 t;refine⟨⟨s,m,o,a,c⟩,?_,u,v,w,z,A,zal B⟩;show _=stC s (.slice a s.picks.length c)++[.bool m,.int .u8 o]
   rw[<-p];simp only[List.cons.injEq,and_true]at j k;rw[j,k];rfl
def zaJ{r:Nat}{cs:oE}{n:Nat}{x:DataW H×List MemPlace}(J:cs=[.slice a n c])(U:DataW.trod enc Q W base (λ_=>true) held r 22 cs=some x):(∃L,S24R W a n c L)/\n<=c/\c<=9223372036854775807:=by
 obtain⟨d,p⟩:=x;rcases open_slice underlying22 U with⟨e,_⟩|⟨g,Z,N,m,k,D,Pl,e,T,X,Y,y,A,t⟩
 .rw[J]at e;simp only[List.cons.injEq,Value.slice.injEq,and_true]at e;obtain⟨rfl,rfl,rfl⟩:=e;exact⟨⟨[],rfl,λh=>by omega,λi s h=>by simp at h,λx A=>by cases A⟩,by omega,by omega⟩
 .rw[J]at e;simp only[List.cons.injEq,Value.slice.injEq,and_true]at e;obtain⟨rfl,rfl,rfl⟩:=e;simp only[if_true]at y;subst y;refine⟨?_,X,by simpa[maxLen]using Y⟩;have R:Tryz.prog.cellsOf 51=14:=by kernel_rfl
  have l:∀i,i<n->∃q:S24,ZV W q/\∀j u,(Qn q)[j]? = some u->W.cell? ((g.add (i*14)).add j)=some u:=by
   intro i w;obtain⟨O,v,G⟩:=t i oo;rw[R]at v;obtain⟨_,M,f⟩:=World.cells?_some v;obtain⟨s,rfl,P⟩:=zfB G;refine⟨s,P,λj u z=>?_⟩;have V:j<14:=(gS z).1;rw[f j V];exact z
  haveI:Inhabited S24:=⟨⟨⟨0,0,0,0,0,0,0,0,0,0,0,[]⟩,false,0,none,0⟩⟩
  obtain⟨Q,C⟩:=choose_lt l;have F:0<n->g.spot=none:=by
   intro B;obtain⟨_,I⟩:=C 0 B
   have:=World.cell?_spot (I 0 _ rfl)
   exact this
  refine⟨(List.range n).map Q,by simp,λB=>⟨g.block,g.off,by have:=F B;obtain⟨b,o,s⟩:=g;cases this;rfl⟩,λi s E b o S j u z=>?_,λx A=>?_⟩
  .have w:i<n:=by have:=(gS E).1;simpa using this
   simp only[qC,List.getElem?_range w,jP,qD]at E;subst E;obtain⟨q1,q4⟩:=C i w;cases S
   have:=q4 j u z
   rw[zw,zw]at this;exact this
  .obtain⟨i,w,rfl⟩:=qU.1 A;exact(C i (jQ.1 w)).1
end
end
section
attribute [local irreducible] bin un conv call bA blt slc ao fld aW idx lkp fk mW eSt rng nxt ent ext alc box bld bM ld sto aU fl mkS ifc pick rdy wts aM sti cond aY Gives ai iy ke cOp
section
open Go.ChangeMaps
def zeQ:fU Q 92 2 2 b o K w:=aJ kr
def Zl:fU Q 92 4 4 b o K w:=aJ kr
def ZB:(Tryz.prog.info? 92).map (λi=>(i.zero,i.size,i.bytes))=some (some (.agg (tgC ⟨0,0,0,0,false⟩).toArray),5,40):=by kernel_rfl
theorem Ys {P : Program} {S : World → Prop} {w : World} {K : KV} {α : Type} {enc : α → List Value} {s n c bytes B : Nat} {ts e : TypeId} {z : Value} {a : Option Addr} {L : List α} {x : α} (ht : P.underlying ts = some (.slice e)) (hin : (P.info? e).map (fun i => (i.zero, i.size, i.bytes)) = some (some z, s, bytes)) (hz1 : ((P.info? e).bind (·.zero)).isSome = true) (hzs : z.cells.size = s) (hs0 : 0 < s) (hs16 : 1 * s ≤ 16777216) (hs : ∀ x, (enc x).length = s) (h1 : ∀ u ∈ enc x, u.oneCell' = true)
    (ho : w.ownsRow B e s (.slice a n c) n (L.flatMap enc)) (hb : (n + 1) * bytes ≤ 140737488355328) (hn : n + 1 ≤ 9223372036854775807) (hB : B ≤ w.heap.size) (hS : ∀ w', Below w.heap.size w w' → S w')
    (h : ∀ w1 w' a' c', Below w.heap.size w w1 → w'.ownsRow B e s (.slice a' (n + 1) c') (n + 1) ((L ++ [x]).flatMap enc) → w1.grownBy w' (Value.slice a n c).ownBlock → ((Value.slice a' (n + 1) c').ownBlock = (Value.slice a n c).ownBlock ∨ (Value.slice a' (n + 1) c').ownBlock = some w1.heap.size) → K (.slice a' (n + 1) c') w') :
    bM P ts 1 #[(0, .agg (enc x).toArray)] (fun t => aX S fun _ => blt P Builtin.append #[ts, ts] ts #[false, false] #[.slice a n c, t] K) w := by
  obtain ⟨mi, hmi, hmz, hms, hmb⟩ := info_parts hin
  have hcl : (Value.agg (enc x).toArray).cells.toList = enc x := by simp [Value.cells]
  refine nV [.agg (enc x).toArray] ht (s := s) (by rw [hmi]; exact congrArg some hms) hz1 hs0 rfl (by simp) hs16 rfl (by
    intro v hv
    rw [List.mem_singleton.1 hv]
    have := hs x
    simpa [Value.cells] using this) fun w1 m1 b1 s1 => ?_
  have m1 : blk w1 w.heap.size e (enc x) := by simpa [Value.cells] using m1
  refine aB (hS w1 b1) (wK (enc := enc) (x := x) ht hmi hmz hms hmb hzs hs0 hs (cn ho fun k hk => b1.block k (World.ownsRow.lt ho k hk).2) m1 h1 hb hn (Nat.le_trans hB b1.size) fun a' c' w2 r2 g2 _ ob => ?_)
  exact h w1 w2 a' c' b1 r2 g2 ob
abbrev VF(p b1 b0:Nat)(cs:oE)(m:EV)(y:Int)(a:AK)(x:oG):Prop:=blk x p 34 cs/\blk x b1 56 (anC m y)/\blk x b0 46 (akC a)
section
variable {B:Nat}{t:TLD}{q:TQ}
def zjQ{a:AK}{m:EV}{y:Int}(h:TM w B t q)(hB:B<=w.heap.size)(lN:t.N.length<=500)(lR:t.R.length<=500)(lG:t.G.length<=500)(lF:t.F.length<=500)(l:∀w' q',TM w' B (xP r a m y t) q'->TS w w' q q'->K (.tuple #[]) w'):call Q 11 #[pB q.p,iv r,.agg (akC a).toArray,anV m y] K w:=by
 refine aj (goK func11) (LM (bu λw1 X b1 s1=>bu λw2 Y b2 s2=>?_));have X:=cZ X
 have Y:=cZ Y
 have S:=tB b1 b2;have X:=ae b2 X X.lt;have h2:=h.below S;have stop:xP r a m y t=t->K (.tuple #[]) w2:=λe=>l w2 q (by rw[e];exact h2) (.refl S)
 have bd:=bDr w2;have T:=tB S bd;have D:=h2.below bd;have V:B<=w2.drew.heap.size:=qR hB T.size;have L:∀w',Below w2.drew.heap.size w2.drew w'->VF q.p w1.heap.size w.heap.size (pE t q) m y a w':=λw' hb=>⟨(D.below hb).b,ae hb Y.drew Y.drew.lt,ae hb X.drew X.drew.lt⟩
 have zp:∀{w3 w4:oG} {E:TypeId} {s n c:Nat} {av:Option Addr} {xs:oE},Below w2.drew.heap.size w2.drew w3->w3.ownsRow B E s (.slice av n c) n xs->34≠E->w3.grownBy w4 (Value.slice av n c).ownBlock->blk w4 q.p 34 (pE t q):=λhb ho hE hg=>uz (D.below hb).b ho hE hg;refine DX (lK (v:=ci y) Y rfl (aZ ?_));by_cases z:y≠0/\y≠8
 .exact bU z.1 (DX (lK (v:=ci y) Y rfl (aZ (bI z.1 (ay z.2 (stop (by unfold xP;rw[oJ z])))))))
 rcases(show y=0\/y=8 by omega)with e|e;refine cJ (Lf e) (bw (Lf e) (aA ?_))
 rotate_left
 refine bU (show y≠0 by omega) (DX (lK (v:=ci y) Y rfl (aZ (bI (show y≠0 by omega) (ax (Lf e) ?_)))))
 all_goals
  refine BK (lK (v:=kv8 a.k) X rfl (aT ?_));by_cases O:a.k=1
  .refine ay O (HY (dO (lK (v:=iv m.o) Y rfl (cH ?_))));by_cases ho:(0:Int)<m.o
   .refine ay ho (aw (VF q.p w1.heap.size w.heap.size (pE t q) m y a) (L _ (jU _ _)) (hZ (hW Eg (ac (v:=.slice q.na t.N.length q.nc) (λy d _ l=>lK d.1 rfl l) (hW HY (ac (v:=evV m) (λy d _ l=>ldA (n:=14) (vs:=evC m) underlying54 rfl kr d.2.1 rfl rfl l) ?_))))))
    refine Ys (enc:=evC) (x:=m) underlying30 ZA kr rfl oo oo (λ_=>rfl) (Cf m) D.rn oo oo V L λw3 w4 P U u r4 A ob=>?_;have C:=D.below u;have J:=zp u C.rn dc A;refine aw (λy=>blk y q.p 34 (pE t q)) J (hZ (hW Eg (cq kf J (by unfold pE;simp) rfl λW z5 o5=>?_)))
    obtain⟨I,s5⟩:=C.add (i:=0) (t':={t with N:=t.N++[m]}) (q':={q with na:=P,nc:=U}) oo rfl (by intro j M H;match j,M with|0,_=>exact qI rfl H|1,_=>exact⟨rfl,rfl⟩|2,_=>exact⟨rfl,rfl⟩|3,_=>exact⟨rfl,rfl⟩) (by simp[TLD.rw]) r4 A ob (by simpa[pE]using z5) o5;refine l W _ ?_ ((TS.refl (tB T u)).trans s5);unfold xP;rw[oI z,oJ O,oJ ho];exact I
   .exact ax ho (stop (by unfold xP;rw[oI z,oJ O,oI ho]))
  refine ax O (aT ?_);by_cases Z:a.k=2
  .refine ay Z (aw (VF q.p w1.heap.size w.heap.size (pE t q) m y a) (L _ (jU _ _)) (hZ (hW Ig (ac (v:=.slice q.ra t.R.length q.rc) (λy d _ l=>lK d.1 rfl l) (ac (v:=.agg (akC a).toArray) (λy d _ l=>JT d.2.2 l) ?_)))));refine Ys (enc:=akC) (x:=a) underlying31 Zz kr rfl oo oo QD (VP a) D.rr oo oo V L λw3 w4 P U u r4 A ob=>?_
   have C:=D.below u;have J:=zp u C.rr dc A;refine aw (λy=>blk y q.p 34 (pE t q)) J (hZ (hW Ig (cq kf J (by unfold pE;simp) rfl λW z5 o5=>?_)))
   obtain⟨I,s5⟩:=C.add (i:=1) (t':={t with R:=t.R++[a]}) (q':={q with ra:=P,rc:=U}) oo rfl (by intro j M H;match j,M with|0,_=>exact⟨rfl,rfl⟩|1,_=>exact qI rfl H|2,_=>exact⟨rfl,rfl⟩|3,_=>exact⟨rfl,rfl⟩) (by simp[TLD.rw]) r4 A ob (by simpa[pE]using z5) o5;refine l W _ ?_ ((TS.refl (tB T u)).trans s5);unfold xP;rw[oI z,oI O,oJ Z];exact I
  refine ax Z (aT ?_);by_cases k3:a.k=3
  .refine ay k3 (DX (lK (v:=ci y) Y rfl (aT ?_)));by_cases y0:y=0
   rotate_left
   .exact cJ y0 (bw y0 (ua (aA (stop (by unfold xP;rw[oI z,oI O,oI Z,oJ k3,oI λa=>y0 a.1])))))
   refine bU y0 (wN (lK (v:=u6 a.r) X rfl (zak h2 oo (λH=>aL (bI y0 (ua (ay dc ?_)))) λi x hx hi M=>aL (bI y0 (ua (ax oo (stop ?_)))))))
   .have eS:xP r a m y t={t with G:=t.G++[⟨r,a.r,a.n,a.a,t.F.any (isG r a.r)⟩]}:=by
     unfold xP;rw[oI z,oI O,oI Z,oJ k3,oJ ⟨y0,List.any_eq_false.2 λg a=>by rw[H g a];exact Bool.false_ne_true⟩]
    refine aw (VF q.p w1.heap.size w.heap.size (pE t q) m y a) (L _ (jU _ _)) (hZ (hW vh (ac (v:=.slice q.ga t.G.length q.gc) (λy d _ l=>lK d.1 rfl l) ?_)))
    refine hW wN (ac (v:=u6 a.r) (λy d _ l=>lK d.2.2 rfl l) (hW HZ (ac (v:=u6 a.n) (λy d _ l=>lK d.2.2 rfl l) (hW Ia (ac (v:=iv a.a) (λy d _ l=>lK d.2.2 rfl l) (hW wN (ac (v:=u6 a.r) (λy d _ l=>lK d.2.2 rfl l) ?_)))))))
    refine zfX D oo (aB (L _ (jU _ _)) (ac (v:=.agg (tgC ⟨r,a.r,a.n,a.a,t.F.any (isG r a.r)⟩).toArray) (λy d _ l=>ck (vs:=tgC ⟨r,a.r,a.n,a.a,t.F.any (isG r a.r)⟩) kr l) ?_))
    refine Ys (enc:=tgC) (x:=⟨r,a.r,a.n,a.a,t.F.any (isG r a.r)⟩) underlying32 ZB kr rfl oo oo Rc (zbG _) D.rg oo oo V L λw3 w4 P U u r4 A ob=>?_;have C:=D.below u;have J:=zp u C.rg dc A;refine aw (λy=>blk y q.p 34 (pE t q)) J (hZ (hW vh (cq kf J (by unfold pE;simp) rfl λW z5 o5=>?_)))
    obtain⟨I,s5⟩:=C.add (i:=2) (t':={t with G:=t.G++[⟨r,a.r,a.n,a.a,t.F.any (isG r a.r)⟩]}) (q':={q with ga:=P,gc:=U}) oo rfl (by intro j M H;match j,M with|0,_=>exact⟨rfl,rfl⟩|1,_=>exact⟨rfl,rfl⟩|2,_=>exact qI rfl H|3,_=>exact⟨rfl,rfl⟩) (by simp[TLD.rw]) r4 A ob (by simpa[pE]using z5) o5;refine l W _ ?_ ((TS.refl (tB T u)).trans s5);rw[eS];exact I
   .unfold xP;rw[oI z,oI O,oI Z,oJ k3,oI λa=>by have:=List.any_eq_false.1 a.2 x (mO hx);exact this hi]
  refine ax k3 (aT (JE ?_));by_cases k4:a.k=4
  .refine ay k4 (aw (VF q.p w1.heap.size w.heap.size (pE t q) m y a) (L _ (jU _ _)) (hZ (hW Ih (ac (v:=.slice q.fa t.F.length q.fc) (λy d _ l=>lK d.1 rfl l) (hW MJ (ac (v:=u6 a.f) (λy d _ l=>lK d.2.2 rfl l) (ac (v:=.agg (tgC ⟨r,a.f,0,0,false⟩).toArray) (λy d _ l=>ck (vs:=tgC ⟨r,a.f,0,0,false⟩) kr l) ?_)))))))
   refine Ys (enc:=tgC) (x:=⟨r,a.f,0,0,false⟩) underlying32 ZB kr rfl oo oo Rc (zbG _) D.rf oo oo V L λw3 w4 P U u r4 A ob=>?_;have C:=D.below u;have J:=zp u C.rf dc A;refine aw (λy=>blk y q.p 34 (pE t q)) J (hZ (hW Ih (cq kf J (by unfold pE;simp) rfl λW z5 o5=>?_)))
   obtain⟨I,s5⟩:=C.add (i:=3) (t':={t with F:=t.F++[⟨r,a.f,0,0,false⟩]}) (q':={q with fa:=P,fc:=U}) oo rfl (by intro j M H;match j,M with|0,_=>exact⟨rfl,rfl⟩|1,_=>exact⟨rfl,rfl⟩|2,_=>exact⟨rfl,rfl⟩|3,_=>exact qI rfl H) (by simp[TLD.rw]) r4 A ob (by simpa[pE]using z5) o5;have ad:=tB T u;have ab:TS w W q {q with fa:=P,fc:=U}:=(TS.refl ad).trans s5
   have ah:blk W w.heap.size 46 (akC a):=(L w3 u).2.2.ch s5.ch λhm=>by have:=(h.ty hm).2.1;omega
   have eS:xP r a m y t={t with F:=t.F++[⟨r,a.f,0,0,false⟩],G:=AD r a.f t.G}:=by unfold xP;rw[oI z,oI O,oI Z,oI k3,oJ k4]
   refine MJ (lK (v:=u6 a.f) ah rfl (zak (t:={t with F:=t.F++[⟨r,a.f,0,0,false⟩]}) (q:={q with fa:=P,fc:=U}) I (by show t.G.length<=_;omega) (λH=>bR (ax dc ?_)) λi x hx hi M=>bR (ay oo ?_)))
   .refine l W _ ?_ ab;rw[eS,zbB H];exact I
   .have ag:i<t.G.length:=(gS hx).1;obtain⟨g,af,aa,op⟩:=gy I.rg (by show 0<t.G.length;omega);have lc:af.length=q.gc*5:=op.len;have nc:t.G.length<=q.gc:=op.nc;refine aq (vh (lK (v:=.slice q.ga t.G.length q.gc) I.b rfl (zf0 aa underlying32 (s:=5) kf ag (Zl (cq kf op.blk (by rw[lc];omega) rfl λw6 z6 o6=>?_)))))
    obtain⟨m6,s6⟩:=I.setG aa op hx z6 o6;refine l w6 _ ?_ (ab.trans s6);rw[eS,zbA hi hx M];exact m6
  .exact ax k4 (stop (by unfold xP;rw[oI z,oI O,oI Z,oI k3,oI k4]))
end
def zgK:(if (0:Int)<(if (1125899906842624:Int)<x then 1125899906842624 else x)then (if (1125899906842624:Int)<x then 1125899906842624 else x)else 0)=uA x:=by
 have:MXA=1125899906842624:=rfl
 unfold uA;split<;>split<;>omega
def PU{φ:α->Int}{L:List α}{k:Nat}{x:α}(h:L[k]? = some x):((L.take (k+1)).map φ).sum=((L.take k).map φ).sum+φ x:=by rw[List.take_add_one,h,jJ,List.sum_append];show _+(φ x+0)=_;omega
def Xa{α:Type}{φ:α->Int}:∀{L:List α},(∀x∈L,0<=φ x/\φ x<=1125899906842624)->0<=(L.map φ).sum/\(L.map φ).sum<=L.length*1125899906842624
 | [],_=>⟨Int.le_refl _,by simp⟩
 | x::L,h=>by
  have b:=h x oL;have c:=Xa λy a=>h y (oH _ a);simp only[jK,List.sum_cons,oZ];omega
section
variable {B:Nat}{t:TLD}{q:TQ}
def rdK{f':Nat}{v:oF}{n:Nat}{L:List AK}{x:AK}{K3:oF->oF->oF->oG->Prop}(g:∀w,(isAgg E).run Q w=.ok false w)(j:Wl Q 46 f=some f')(e:f'<6)(l:w.ownsRow B 46 6 (.slice a n c) n (L.flatMap akC))(k:L.length=n)(o:L[i]? = some x)(m:(akC x)[f']? = some v)(h:∀b d,K3 b d v w):aW Q 31 (.slice a n c) (ci (i:Nat)) (λb w=>ao Q 46 b f (λd w=>ld Q E d (λp w=>K3 b d p w) w) w) w :=
 rd3 (enc:=akC) (s:=6) (f':=f') underlying31 kf QD g j e l k o m h
def zfW(h:TM w B t q)(lN:t.N.length<=500)(lR:t.R.length<=500)(lG:t.G.length<=500)(hm:∀e∈t.N,co e=true)(ha:∀e∈t.N,0<=e.a/\e.a<=MXA)(hg:∀g∈t.G,1<=g.am/\g.am<=MXA)(hb:∀e∈t.N,0<=QC t e/\QC t e<=ZI t e)(c:nX w (K cT)):call Q 12 #[pB q.p] K w:=by
 have mx:MXA=1125899906842624:=rfl;refine aj (goK func12) (JB ?_);refine GC (Inv:=λv W=>∃p:Nat,v=ci (p:Nat)/\p<=t.N.length/\Below w.heap.size w W) (μ:=mU t.N.length) ⟨0,rfl,qG _,jU _ _⟩ ?_;rintro _ dd w1 mu ⟨p,rfl,hp,Y⟩ ab;have h1:=h.below Y;refine aq (Eg (lK (v:=.slice q.na t.N.length q.nc) h1.b rfl (bv underlying30 (aL ?_))));by_cases E:p<t.N.length
 rotate_left
 .exact ax oo (GG (c w1 Y))
 have hx:t.N[p]? = some t.N[p]:=gE E;have A:=List.getElem_mem E;generalize t.N[p]=e at hx A;have ea:=ha e A;obtain⟨ah,ai⟩:=hb e A
 refine ay oo (aq (Eg (lK (v:=.slice q.na t.N.length q.nc) h1.b rfl (BE (i:=p) (enc:=evC) (s:=14) (L:=t.N) (x:=e) underlying30 kf underlying54 rfl kr (λ_=>rfl) h1.rn rfl hx λ_=>zgf (hm e A) λw2 b2=>?_))));have H:=tB Y b2;have D:=h.below H
 refine aq (Eg (lK (v:=.slice q.na t.N.length q.nc) D.b rfl (rdE (f':=11) (v:=iv e.a) kf kr oo D.rn rfl hx rfl λ_ _=>Gz ?_)))
 refine GE (Inv:=λu v W=>∃k:Nat,u=iv (e.a+((t.R.take k).map λa=>if a.n=idE e then uA a.a else 0).sum)/\v=ci (k:Nat)/\k<=t.R.length/\w2=W) (μ:=mV t.R.length) ⟨0,by simp,rfl,qG _,rfl⟩ ?_;rintro _ _ af _ ad ⟨k,rfl,rfl,hk,rfl⟩ S;refine aq (Ig (lK (v:=.slice q.ra t.R.length q.rc) D.b rfl (bv underlying31 (aL ?_))))
 have cb:∀a:AK,0<=(if a.n=idE e then uA a.a else 0)/\(if a.n=idE e then uA a.a else 0)<=MXA:=λa=>by
  split
  .unfold uA;omega
  .omega
 by_cases f:k<t.R.length
 .have r:t.R[k]? = some t.R[k]:=gE f;generalize t.R[k]=a at r;have hs:=Xa (φ:=λa:AK=>if a.n=idE e then uA a.a else 0) (L:=t.R.take k) λa _=>cb a;rw[qA,Nat.min_eq_left oo]at hs;have U:=cb a
  have F:∀{u:Int} {X:oD},u=e.a+((t.R.take (k+1)).map λa=>if a.n=idE e then uA a.a else 0).sum->fN K (λo a=>(∃p:Nat,gd o 3=ci (p:Nat)/\p<=t.N.length/\Below w.heap.size w a)/\t.N.length-(intOf (gd o 3)).toNat<mu) (λo a => (∃k:Nat,gd o 5=iv (e.a+((t.R.take k).map λa=>if a.n=idE e then uA a.a else 0).sum)/\gd o 7=ci (k:Nat)/\k<=t.R.length/\w2=a)/\t.R.length-(intOf (gd o 7)).toNat<ad) (eO (pB q.p) (ci (p:Nat)) (u6 (idE e)) (iv u) (ci 0) (ci (k:Nat)) X) w2:=λ{u X} hu =>
   GJ (aR oo oo ⟨⟨k+1,by rw[<-hu];rfl,ivS,f,rfl⟩,mD S⟩)
  refine ay oo (GA (aq (Ig (lK (v:=.slice q.ra t.R.length q.rc) D.b rfl (rdK (f':=1) (v:=u6 a.n) kf kr oo D.rr rfl r rfl λ_ _=>aT ?_)))));by_cases P:a.n=idE e
  .rw[oJ P]at U;refine ay P (aq (Ig (lK (v:=.slice q.ra t.R.length q.rc) D.b rfl (rdK (f':=3) (v:=iv a.a) kf kr oo D.rr rfl r rfl λ_ _=>Vf (QX ?_)))));rw[zgK];refine aR oo oo (F ?_);rw[PU r,oJ P];omega
  .refine ax P (F ?_);rw[PU r,oI P];omega
 obtain rfl:k=t.R.length:=by omega
 rw[List.take_length];have el:e.a+(t.R.map λa=>if a.n=idE e then uA a.a else 0).sum=ZI t e:=rfl;rw[el]
 refine ax oo (GI (GF (Inv:=λu v W=>∃k:Nat,u=iv ((t.G.take k).map (AN t.N (idE e))).sum/\v=ci (k:Nat)/\k<=t.G.length/\Below w.heap.size w W) (μ:=mV t.G.length) ⟨0,rfl,rfl,qG _,H⟩ ?_));rintro _ _ ag w3 ae ⟨k,rfl,rfl,hk,Z⟩ T;have h3:=h.below Z;refine aq (vh (lK (v:=.slice q.ga t.G.length q.gc) h3.b rfl (bv underlying32 (aL ?_))))
 have ub:∀g∈t.G,0<=AN t.N (idE e) g/\AN t.N (idE e) g<=MXA:=λg hh=>by
  have:=hg g hh
  unfold AN;split<;>omega
 by_cases f:k<t.G.length
 .have r:t.G[k]? = some t.G[k]:=gE f;have V:=List.getElem_mem f;generalize t.G[k]=g at r V;have hs:=Xa (φ:=AN t.N (idE e)) (L:=t.G.take k) λg hh=>ub g (List.mem_of_mem_take hh);rw[qA,Nat.min_eq_left oo]at hs;have U:=hg g V
  have F:∀{w':oG} {u:Int} {X:oD},u=((t.G.take (k+1)).map (AN t.N (idE e))).sum->Below w.heap.size w w'->dL K (λo a=>(∃p:Nat,gd o 3=ci (p:Nat)/\p<=t.N.length/\Below w.heap.size w a)/\t.N.length-(intOf (gd o 3)).toNat<mu) (λo a => (∃k:Nat,gd o 6=iv ((t.G.take k).map (AN t.N (idE e))).sum/\gd o 8=ci (k:Nat)/\k<=t.G.length/\Below w.heap.size w a)/\t.G.length-(intOf (gd o 8)).toNat<ae) (eP (pB q.p) (ci (p:Nat)) (u6 (idE e)) (iv (ZI t e)) (iv u) (ci (k:Nat)) X) w':=λ{w' u X} hu aa =>
   GL (aR oo oo ⟨⟨k+1,by rw[<-hu];rfl,ivS,f,aa⟩,mD T⟩)
  have bd:=bDr w3;have z:=tB Z bd;have hd:=h.below z;obtain⟨gb,I,O,op⟩:=gy hd.rg oo;have gc:∀j,j<5->I[k*5+j]? = (tgC g)[j]? := λj hj=>op.cell Rc rfl r hj;refine ay oo (GB (aw (λy=>TM y B t q/\blk y gb 92 I) ⟨hd,op.blk⟩ ?_))
  refine hZ (hW vh (ac (v:=.slice q.ga t.G.length q.gc) (λy d _ c=>lK d.1.b rfl c) (ac (λy d _ c=>zf0 O underlying32 (s:=5) kf f c) (hW Zl (ac (v:=.bool g.back) (λy d _ c=>lK d.2 (by rw[gc 4 oo];rfl) c) (ac (λy d _ c=>bc c) ?_))))));cases J:g.back with
  | true =>
   have l:asB (.bool (!true))≠some true:=by simp[asB]
   refine xN l (xN l (xN l (xN l (xN l (xN l (xN l (xN l (xN l (xN l (xN l (xN l (xN l (zld l (hRT (ac (λy _ _ c=>bZ c) (ye (aA (F ?_ z))))))))))))))))));rw[PU r];unfold AN;rw[oI (by rw[J];simp)];omega
  | false =>
   have m:asB (.bool (!false))=some true:=rfl;refine jh m (λ_ _ _ c=>c) (jh m (λ_ _ _ c=>aq c) (jh m (λ_ _ _ c=>Eg c) (jh (x:=.slice q.na t.N.length q.nc) m (λy d _ c=>lK d.1.b rfl c) ?_)));refine jh m (λ_ _ _ c=>c) (jh m (λ_ _ _ c=>aq c) (jh m (λ_ _ _ c=>vh c) (jh (x:=.slice q.ga t.G.length q.gc) m (λy d _ c=>lK d.1.b rfl c) ?_)))
   refine jh m (λ_ _ _ c=>c) (jh m (λ_ _ _ c=>zf0 O underlying32 (s:=5) kf f c) (jh m (λ_ _ _ c=>zeQ c) (jh (x:=u6 g.node) m (λy d _ c=>lK d.2 (by rw[gc 2 oo];rfl) c) (jh m (λ_ _ _ c=>c) (Xp m ?_)))));refine zgD hd.rn hm oo λw4 b4=>hRT (ac (λy _ _ c=>cA c) (ye ?_));have C:=tB z b4;have h4:=h.below C
   cases M:xM t.N 5 g.node (idE e)with
   | false =>
    refine aA (F ?_ C);rw[PU r];unfold AN;rw[oI (by rw[M];simp)];omega
   | true =>
    refine aV (aq (vh (lK (v:=.slice q.ga t.G.length q.gc) h4.b rfl (rdG (f':=3) (v:=iv g.am) kf kr oo h4.rg rfl r rfl λ_ _=>aR oo oo (F ?_ C)))));rw[PU r]
    have:AN t.N (idE e) g=g.am:=by unfold AN;rw[oJ ⟨J,M⟩]
    rw[this]
 obtain rfl:k=t.G.length:=by omega
 rw[List.take_length];have eu:((t.G.map (AN t.N (idE e))).sum)=QC t e:=rfl;rw[eu];have n0 : ¬QC t e<0:=by omega
 refine ax oo (GK (aL (df n0 (cH (bw n0 (ax oo (GH (aR oo oo ⟨⟨p+1,ivS,E,Z⟩,mD ab⟩))))))))
end
section
variable {B0 n:Nat}{Z:List Nat}{c:CX}{l:PL}
def zih{t:STA}{K2:oF->KV}(c:SO w b l t a gc)(e:PI l)(h:∀S,SO S b l t a gc->blk S w.heap.size 42 (saC t)->Below w.heap.size w S->K2 (pB w.heap.size) undef S):alc Q 42 (λp=>sto Q 42 p (.agg (saC t).toArray) (K2 p)) w:=by
 have d:(saC t).length=20:=rD (by rw[c.eI];exact e.i6) (by rw[c.eL];exact e.l6) (by rw[c.eV];exact e.v6);refine bO (z:=.agg (saC stZ).toArray) kr λm f j o=>?_;have f:=cZ f
 refine eW (n:=20) (vs:=saC t) kr d f dc (Mh (by rw[c.gv];rfl)) λw3 i k=>?_;rw[qY,oV,oS dc,oW]at i;have g:=aD j k oA;exact h w3 (c.fresh g) i g
def zg1{K2:oF->KV}(h:∀S,Below w.heap.size w S->K2 (pB w.heap.size) undef S):alc Q 42 (λp=>sto Q 42 p (.agg (saC stZ).toArray) (K2 p)) w:=by
 refine bO (z:=.agg (saC stZ).toArray) kr λd a b f=>?_;have a:=cZ a
 exact eW (n:=20) (vs:=saC stZ) kr rfl a dc (Mh rfl) λe g c=>h e (aD b c oA)
def zgz(h:CM w B0 n b Z c)(hb:b<=20000)(hK:nX w (K cT)):call Q 13 #[pB c.p] K w:=by
 refine aj (goK func13) (PP ?_);refine Nd (Inv:=λv I=>∃q:Nat,v=ci (q:Nat)/\1<=q/\q<=7/\Below w.heap.size w I) (μ:=λv _=>7-(intOf v).toNat) ⟨1,rfl,by omega,by omega,jU _ _⟩ ?_;rintro _ dd w1 mu ⟨q,rfl,q1,q7,k⟩ ad;refine iG ?_;by_cases hq:(q:Int)<=6
 rotate_left
 .exact ax hq (Nf (hK w1 k))
 have S:∀{x:Nat},x<=7->FG (x:Int):=λhx=>⟨by omega,by omega⟩
 have F:∀{y:oG} {zf:oD},Below w.heap.size w y->iq K (λa b=>(∃q:Nat,gd a 3=ci (q:Nat)/\1<=q/\q<=7/\Below w.heap.size w b)/\7-(intOf (gd a 3)).toNat<mu) (nO (pB c.p) (ci (q:Nat)) zf) y:=λ{y zf} hy =>
  Ng (aR oo oo ⟨⟨q+1,ivS,by omega,by omega,hy⟩,mD ad⟩)
 refine ay hq (MD (h.below k) hb (S q7) (λw2 L _=>bo (bj (zg1 λJ b3=>?_))) λw2 i Y r fu t ga gc hi ei hX T L=>bo (bj ?_))
 ·-- that one is down
  have g:=tB (tB k L) b3;refine CI (Inv:=λv I=>I=J/\v=ci 1) (μ:=λ_ _=>0) ⟨rfl,rfl⟩ ?_;rintro _ aa _ R ⟨rfl,rfl⟩ B;refine aL ?_;by_cases U:(1:Int)<(q:Nat)
  .exact bU U (bI U (aA (F g)))
  .exact cJ U (bw U (aA (F g)))
 have W:=(h.below k).st i hi;rw[show ((c.X i)=.up Y r fu)from hX]at W;have sz:=h.sz i hi;rw[hX]at sz;have sz:r.A.length<=b:=sz;have C:=W.2.d.pi;have hG:=W.2.G;refine zih T C λJ af z3 b3=>?_;have g:=tB (tB k L) b3;have u:=(Mg (t:=t) (by rw[T.eI];exact C.i6) (by rw[T.eL];exact C.l6) (by rw[T.eV];exact C.v6)).2.2;rw[T.eV]at u
 refine CI (Inv:=λv I=>∃p:Nat,v=ci (p:Nat)/\1<=p/\p<=7/\Below J.heap.size J I) (μ:=λv _=>7-(intOf v).toNat) ⟨1,rfl,by omega,by omega,jU _ _⟩ ?_;rintro _ aa w4 R ⟨p,rfl,p1,p7,E⟩ B;have D:=tB g E;refine aL ?_;by_cases s:(p:Int)<(q:Nat)
 rotate_left
 .exact cJ s (bw s (aA (F D)))
 have nx:∀{y:oG},Below w4.heap.size w4 y->nC (ci (p:Nat)) (λv I=>(∃p:Nat,v=ci (p:Nat)/\1<=p/\p<=7/\Below J.heap.size J I)/\7-(intOf v).toNat<R) y:=λhy =>
  aR oo oo ⟨⟨p+1,ivS,by omega,by omega,tB E hy⟩,mD B⟩
 refine bU s (bI s (aV (MD (h.below D) hb (S p7) (λw5 M _=>bo (bj (zg1 λw6 b6=>?_))) λw5 j Y' r' ab t' ag ah hj ej ac o M=>bo (bj ?_))))
 .exact kj (bZ (kj (bZ (aA (nx (tB M b6))))))
 have H:=(h.below D).st j hj;rw[show ((c.X j)=.up Y' r' ab)from ac]at H;have a:=H.2.d.pi;refine zih o a λw6 f z6 b6=>?_;have m:=tB M b6;have z5:=ae (tB E m) z3 z3.lt;have e:=af.fresh (tB E m);have z:=(Mg (t:=t') (by rw[o.eI];exact a.i6) (by rw[o.eL];exact a.l6) (by rw[o.eV];exact a.v6)).2.2;rw[o.eV]at z
 refine kN (Ef (ldA (n:=6) (vs:=vCs r.l.V) underlying38 rfl kr z5 u (by rw[bh];exact C.v6) (Ef (ldA (n:=6) (vs:=vCs r'.l.V) underlying38 rfl kr z6 z (by rw[bh];exact a.v6) ?_))));refine QF 3 oo kr kr (HD C.v6) (HD a.v6) λrr hr=>?_;cases rr with
 | false=>exact cA (kj (bZ (aA (nx m))))
 | true =>
  have P:r.l=r'.l:=W.2.lk.same H.2.lk (zbM.1 (hr.1 rfl));refine cA (kN (zj7 e C z5 (zj7 f a z6 ?_)));have N:=f.gr;have O:=f.gv;rw[<-P]at N O;exact zjH (e.sk C) (f.sk a) (by rw[e.eI,f.eI,P]) (by rw[e.eL,f.eL,P]) (by rw[e.eV,f.eV,P]) (by rw[e.eN,f.eN,P]) e.gv O e.gr N oo λw7 b7=>bc (cA (aA (nx (tB m b7))))
end
def wX:AK:=⟨1,0,0,10,0,0⟩
def wE:EV:=⟨1,1,0,0,0,0,0,0,1,0,0,10,0,0⟩
def Yy:mkP 0 (pl0 2) wX=wE:=by decide
def zgw:gF wE (pl0 2)=0:=by decide
def wS:PL:=eff wE (pl0 2)
def zkO:kJ wE (pl0 2)=wS:=by unfold kJ;rw[oJ zgw];rfl
def zkP:tl [wE] (List.replicate 6 0)=[wE]:=by decide
def wH:HM:=my (pl0 2).V [] [wE]
def zjY:dJ (pl0 2).V wH 6=some wE:=by decide
def zla:ud wH (nY wE)=[]:=by decide
def zlc:dJ wS.V [] 6=none:=by decide
def zlb:wS.N.length=1:=by decide
def dg1{l':PL}{W':HM}{F:List EV}(h:DG (pl0 2) wH l' W' F):(l'=pl0 2/\W'=wH)\/(l'=wS/\W'=[]):=by
 induction h with
 | nil=>exact .inl ⟨rfl,rfl⟩
 | @snoc l' W' F e hd hn ih =>
  rcases ih with⟨rfl,rfl⟩|⟨rfl,rfl⟩
  .rw[zjY]at hn;cases hn;exact .inr ⟨zkO,zla⟩
  .rw[zlc]at hn;cases hn
def zkj{l':PL}{W':HM}{F:List EV}(h:DG (pl0 2) wH l' W' F)(a:dJ l'.V W' 6=none):l'.N.length=1:=by
 rcases dg1 h with⟨rfl,rfl⟩|⟨rfl,rfl⟩
 .rw[zjY]at a;cases a
 .exact zlb
def zjX:co wE=true/\tT wE:=⟨by decide,by rw[<-Yy];exact LY (Dd 2) (by unfold Cv;decide)⟩
def zjZ:(mT wS.I wS.L 6).length-1=1:=by decide
abbrev wT1:STP:=⟨1,1,1,0,0,10,0,0,0,0,0,[]⟩
abbrev wT2:STP:=⟨2,1,0,0,0,0,0,0,0,0,0,[]⟩
abbrev wT3:STP:=⟨4,0,0,0,0,0,0,0,0,0,0,[]⟩
def XO(ah:GD w)(h:nX w (K cT)):call Q 6 #[] K w:=by
 refine aj (goK func6) (PS (zcX (n:=2) (B0:=w.heap.size) ah ah.lt oA oo oo λw1 c h1 b1 eM ec en eT J=>?_));obtain⟨Y0,C,aP,W0⟩:=J 0 oo;obtain⟨Y1,D,a1,W1⟩:=J 1 oo;refine bo (bj (aZ (df dc (DV (bw dc (aA ?_))))));refine ck (vs:=akC wX) kr (ck (vs:=stC wT1 (.slice none 0 0)) kr ?_)
 refine wL (d:=1) (s:=wT1) (R:=λg e z=>AskR 0 wX c g e z) (b':=1) h1 rfl oo oo rfl rfl (λ_=>by decide) (λU _ a=>zcV (i:=0) (s:=wT1) U oo rfl oo (by unfold Cv;decide) (λa O _ _=>by rw[C]at O;cases O) λb g e y c S d => a b g e y c S d) λw2 B e2 y2 hr U s2=>?_;have am:gF (mkP 0 (pl0 2) wX) (pl0 2)=0:=by rw[Yy];exact zgw
 obtain⟨Y2,rfl,rfl,ab,aN,ac,ay,ax,av⟩:∃Y2:DuX,e2=wE/\y2=0/\B.X 0=.up Y2 ⟨wS,[wE],gp0⟩ (-1)/\Y2.X.ws=[]/\B.X 1=c.X 1/\B.p=c.p/\B.cut=c.cut/\B.M=c.M:=by
  cases hr with
  | no hX hn =>
   rw[C]at hX;cases hX;exact qI am (hn.old rfl)
  | yes hX h0 hna hf hw =>
   rw[C]at hX;cases hX;refine⟨_,Yy,rfl,?_,(hw rfl).trans aP,?_,rfl,rfl,rfl⟩
   .rw[hf rfl];show gi c.X 0 _ 0=_;rw[Rf];show SX.up _ ⟨eff (mkP 0 (pl0 2) wX) (pl0 2),[mkP 0 (pl0 2) wX],gp0⟩ (-1)=_;rw[Yy];rfl
   .rfl
  | off hX h0 hna hf =>
   rw[C]at hX;cases hX;exact qI rfl hf
 refine U.alcAn λw3 ba h3 s3 na za=>ck (vs:=stC wT2 (.slice none 0 0)) kr ?_
 rw[<-ay];refine wL (d:=2) (s:=wT2) (R:=λg e z=>TickR 0 B g/\e=evZ/\z=0) (b':=1) h3 rfl oo oo rfl rfl (λ_=>by decide) (λU _ a=>zaZ (i:=0) (s:=wT2) U oo rfl oo (λa O _ _=>by rw[ab]at O;cases O) λb g c S d => a b g _ _ ⟨c,rfl,rfl⟩ S d) λw4 P e4 y4 aK h4 s4=>?_;obtain⟨aM,rfl,rfl⟩:=aK
 obtain⟨x,k1,t1,n0,a0,xL,Z,q,az⟩:∃x:MG,x.k=1/\x.t=1/\x.n=0/\x.a=0/\x.L=[wE]/\P.M.map (·.1)=[x]/\P.X 1=c.X 1/\P.p=B.p:=by
  cases aM with
  | mk hX hT ha hl hm =>
   rename_i Y' aS s' aC T M ra rc;rw[ab]at hX;cases hX;have hl:=hl aN;have hl:T.length<=1:=by rw[<-zjZ];exact hl
   obtain⟨x,hx,hk,ht⟩:=ha dc 1 dc dc;obtain rfl:T=[x]:=by
    match T,hl,hx with
    | [y],_,hx=>rw[mS hx]
   have aJ:=hT x hx;refine⟨x.1,hk,ht,?_⟩;rcases aJ.is with⟨_,n0,a0,v,hv,hL⟩|⟨k2,_⟩
   .refine⟨n0,a0,?_,?_,ac,rfl⟩
    .rw[ht]at hv;have hv:gp0[1]? = some v:=hv;rw[show gp0[1]? = some (List.replicate 6 (0:Int))by decide]at hv;rw[hL, <-Option.some.inj hv];exact zkP
    .show M.map (·.1)=[x.1]
     rw[hm,av,eM,ax,ec];show Qa (List.replicate 36 false) [] x.1=[x.1]
     unfold Qa;rw[oI];rfl;rintro(I|I)
     .rw[oN,jL]at I;split at I<;>cases I
     .exact qI I dc
   .omega
 refine h4.alcAn λw5 bb h5 s5 nb zb=>Nn (ck (vs:=stC wT3 (.slice none 0 0)) kr ?_)
 rw[<-az];obtain⟨xx,u⟩:∃xx,P.M=[xx]:=by
  have:=qH List.length Z
  rw[oY]at this
  match I:P.M,this with
  | [xx],_=>exact⟨xx,rfl⟩
 have ak:xx.1=x:=by rw[u]at Z;exact(List.cons.inj Z).1
 refine wL (d:=4) (s:=wT3) (R:=λg e z=>e=evZ/\z=0/\g.p=P.p/\g.M=[]/\∃Y s fu,g.X 1=.up Y s fu/\s.l.N.length=1) (b':=65) h5 rfl oo oo rfl rfl (λI=>by cases I) (λU _ k2=>zcW (s:=wT3) (b':=65) (R:=λ_ B g e=>e=0/\g.p=B.p/\g.M=B.M/\∃Y s fu,g.X 1=.up Y s fu/\s.l.N.length=1) U (λ{w6 Z6 c6 y Yh r fu K6} hy e6 h6 j m6 ap aY aD=>?_) (λw' hn _ _=>?_) (λw' y hy O _ _=>?_) λa g y e _ G S b => k2 a g _ _ ⟨rfl,G.1,G.2.1,G.2.2.1.trans (by rw[u];rfl),G.2.2.2⟩ S b) λw6 c6 e6 y6 aL h6 s6=>?_
 .have A:y.1=x:=by
   rw[u]at hy
   have:[xx][0]? = some y:=hy
   rw[<-Option.some.inj this];exact ak
  have ht:y.1.t=1:=by rw[A];exact t1
  have aa:c6.X 1=P.X 1:=by rw[e6]
  rw[ht]at j;rw[aa,q,D]at j;cases j;have m:=h6.st 1 oo;rw[aa,q,D]at m;have ag:=m6.f6;have aG:y.1.f≠1:=λe=>m6.ft (e.trans ht.symm);have aF:gp0[y.1.f]? = some gp0[y.1.f]:=gE (by show _<6;exact ag);have eT:tmC y=mgC 1 ((y.1.f:Int)+1) ((1:Nat)+1) y.1.V (.slice y.2.1 y.1.L.length y.2.2) 0 0:=by rw[Qv m6.v6,A,k1,t1,n0,a0]
  have al:y.1.L=[wE]:=by rw[A];exact xL
  have aq:=ap.vr;rw[eT];rw[al]at aq |-;refine zb0 m.1 oo m.2.d.pi m.2.d.hk oB aq (λb o ha=>?_) (λe a=>by rw[mS a];exact zjX) m.2.d.fw oB ag aG m6.v6 m6.vle aF oB (λw' Y' l' F aC _ aU S t' d' aI ep=>?_) λw' l' W' F aH _ _ _ _=>qI rfl aH
  .obtain⟨_,cs,hk⟩:=ap.ev b o ha;exact m.1.rp.ty hk dc
  .have af:=m6.ev;rw[al]at af;obtain⟨h7,s7⟩:=h6.up oo (aa.trans (q.trans D)) LeT.refl (λ_ _=>rfl) S (m.2.hear af d') t' ep (d:=64) (by show ([]++F).length<=_;simp;omega);rw[W1]at d';have d':DG (pl0 2) wH l' Y'.X.W F:=d';refine aD w' _ 0 ?_ h7 s7;refine⟨rfl,rfl,rfl,_,_,_,rfl,?_⟩;exact zkj d' aI
 .rw[u]at hn;exact(hn ⟨Int.le_refl _,by show (0:Int)<((1:Nat):Int);decide⟩).elim
 .have A:y.1=x:=by
   rw[u]at hy
   have:[xx][0]? = some y:=hy
   rw[<-Option.some.inj this];exact ak
  rw[show y.1.t=1 by rw[A];exact t1,q,D]at O;cases O
 obtain⟨rfl,rfl,aB,aw,Y6,r6,aV,j,aE⟩:=aL;refine h6.alcAn λw7 bd h7 s7 nd zd=>?_;rw[<-aB];refine MD h7 oo (by constructor<;>decide) (λw8 b8 hn=>?_) λw8 i8 Y8 r8 aW st ga gc aX e8 ad aO b8=>?_
 .have:=hn 1 oo rfl
  rw[j]at this;cases this
 obtain rfl:i8=1:=by omega
 rw[j]at ad;cases ad;have ai:=h7.st 1 oo;rw[j]at ai;have E:=ai.2.d.pi;refine bo (bj (h7.alcSt b8 aO E λw9 bs h9 s9 H zs=>?_));have aR:=s9.blk oL zd;have ao:=(s6.trans (s7.sub λ_ h=>h)).trans (s9.sub λ_ h=>oH _ h);have aQ:=ao.blk oL zb;have an:=(s4.trans s5).trans (ao.sub λ_ h=>oH _ h)
 have ar:=an.blk oL za;have au:=Et (t:=st) (by rw[H.eI];exact E.i6) (by rw[H.eL];exact E.l6) (by rw[H.eV];exact E.v6);have ae:=b1.trans ((s2.trans (s3.trans (an.sub λ_ h=>by cases h))).bel);refine zfe ar λ_=>aT (bU rfl (HY (nB (lK (v:=u6 1) ar rfl (aT (bI rfl (bU rfl ?_)))))))
 refine zfe aQ λ_=>aT (bI rfl (bU rfl (zfe aR λ_=>aT (bI rfl (bU rfl (bI rfl (kN ?_)))))));refine pZ (lK (v:=.slice st.na st.nodes.length st.nc) zs au (bv underlying39 (aT ?_)));rw[show st.nodes.length=1 by rw[H.eN];exact aE];refine cA (bU rfl (ziI h9 ?_));rw[aw];exact aT (bI rfl (h w9 ae))
def TLD.few(t:TLD)(k:Nat):Prop:=t.N.length<=k/\t.R.length<=k/\t.G.length<=k/\t.F.length<=k
def zab{b a:Int}:∀{G:List TG},(AD b a G).length=G.length
 | []=>rfl
 | g::G=>by
  unfold AD;split
  .rfl
  .rw[oZ,zab,oZ]
def TLD.few.say{t:TLD}{k:Nat}{y:Int}{a:AK}{m:EV}(h:t.few k):(xP x a m y t).few (k+1):=by
 obtain⟨b,c,d,e⟩:=h;unfold xP TLD.few
 repeat' split
 all_goals (refine⟨?_,?_,?_,?_⟩<;>first|omega|(simp only[oT,List.length_singleton,zab];omega))
section
variable {B0 n:Nat}{Z:List Nat}{c:CX}{t:TLD}{q:TQ}
def zez{s:STP}{k:Nat}(h:CM w B0 n b (i::q.F) c)(m:TM w B0 t q)(d:TD c.T t)(hf:t.few k)(N:k<=400)(hb:b<=10000)(zx:blk w i 49 (stC s (.slice a s.picks.length o)))(hw:STW s)(hi:STI s)(hr:RIn w a s.picks.length o s.picks)(nx:i∉q.F)(hB:∀w' c' W q' zf,CM w' B0 n (b+64) q'.F c'->TM w' B0 W q'->TD c'.T W->c'.p=c.p->q'.p=q.p->W.few (k+1)->Below B0 w w'->cS K B1 (cP X1 (pB c.p) (pB q.p) Z1 zf) w'):eY K B1 (kD X1 (pB c.p) (pB q.p) Z1 (pB i) zf) w:=by
 refine EO (KQ zx (zgM h oo hw hi hr λw7 c7 e y Y s7 x=>?_));have H:=d.do_ h x;have O:=Y.tok;have ep:c7.p=c.p:=by
  cases x with
  | sp V _=>exact V.p
  | ask _ _ _ ha=>cases ha<;>rfl
 refine Y.alcAn λw8 ba B s8 n8 R=>?_;have z:=s7.trans s8;have f:=z.blk oL zx;have P:=m.cs z λk N=>oH _ N;have B:CM w8 B0 n (b+64) q.F c7:=B.sub λk N=>oH _ (oH _ N)
 have j:∀{w9:oG} {G:TLD} {D:TQ} {zf:oD},TM w9 B0 G D->TS w8 w9 q D->TD c7.T G->G.few (k+1)->eZ K B1 (cP X1 (pB c.p) (pB q.p) Z1 zf) w9:=λ{w9 G D zf} C E A f9=>by
  have Z:=B.told P C E;have U:=E.p;have S:=E.bel P B.b0;refine EW ?_;rw[<-U];obtain⟨I,J,L,M⟩:=f9;refine zfW C oo oo oo (λe a=>O.hist.may e (A.nd e a).1) (A.na O) (A.am O) (A.bound O) λX r=>bc (aA ?_);rw[U];exact hB X c7 G D _ (Z.below r) (C.below r) A ep U ⟨I,J,L,M⟩ ((z.bel.trans S).trans (r.mono Z.b0))
 have l:∀zf,iI K B1 (sv X1 (pB c.p) (pB q.p) Z1 (pB i) (pB ba) (.bool (decide (s.d=1))) zf) w8:=λzf=>by
  refine EQ ?_;by_cases u:s.d=1
  .rw[oJ u]at H;obtain⟨I,J,L,M⟩:=hf;refine ay u (wQ (lK (v:=iv s.who) f rfl (SM (ldA (n:=6) (vs:=akC s.ak) underlying46 rfl kr f rfl rfl (ldA (n:=15) (vs:=anC e y) underlying56 rfl kr R rfl rfl ?_)))));exact zjQ P B.b0 oo oo oo oo λw9 D C E=>j C E H (TLD.few.say ⟨I,J,L,M⟩)
  .rw[oI u]at H;obtain⟨I,J,L,M⟩:=hf;exact ax u (j P (.refl (jU _ _)) H ⟨by omega,by omega,by omega,by omega⟩)
 refine HY (dO (lK (v:=iv e.o) R rfl (cH ?_)));by_cases g:(0:Int)<e.o
 .rcases x.org with V|⟨y0,u,eo⟩
  .exact qI g V
  refine bU g (DX (lK (v:=ci y) R rfl (aZ ?_)));refine df (Lf y0) (tc (lK (v:=kv8 s.d) f rfl (aZ ?_)));refine bU g (bw (Lf y0) (df (Lf u) (HY (dO (lK (v:=iv e.o) R rfl (wQ (lK (v:=iv s.who) f rfl (aZ ?_))))))));exact bU g (bw (Lf u) (bI g (ax (Lf eo) (tc (lK (v:=kv8 s.d) f rfl (aT (l _)))))))
 .exact cJ g (zdg (cJ g (zdg (cJ g (bw g (aA (tc (lK (v:=kv8 s.d) f rfl (aT (l _))))))))))
def zeA{L:List S24}(h:CM w B0 n 0 q.F c)(an:TM w B0 t q)(d0:TD c.T t)(f0:t.few 0)(hL:S24R w0 a m b L)(hm:m<=100)(b0:Below B0 w0 w)(ad:w0.heap.size<=B0)(hW:∀w' (K':KV),GD w'->Below B0 w0 w'->(∀af,Below w'.heap.size w' af->K' cT af)->call Q 6 #[] K' w')(A:∀w',Below B0 w0 w'->K cT w'):kE K (cP (.slice a m b) (pB c.p) (pB q.p) (ci 0) zf) w:=by
 have hl:=hL.len;refine ER (Inv:=λu a=>∃(p:Nat) (H:CX) (J:TLD) (I:TQ),u=ci (p:Nat)/\p<=m/\CM a B0 n (64*p) I.F H/\TM a B0 J I/\TD H.T J/\H.p=c.p/\I.p=q.p/\J.few p/\Below B0 w0 a) (μ:=λu _=>m-(intOf u).toNat) ⟨0,c,t,q,rfl,qG _,h,an,d0,rfl,rfl,f0,b0⟩ ?_;rintro _ dd X mu ⟨p,c1,t1,q1,rfl,hp,D,m1,d1,ep,eq,f1,Y⟩ ao;refine bv underlying22 (aL ?_);by_cases al:p<m
 rotate_left
 .refine ax oo (ES ?_);rw[<-ep];exact zgz D oo λM P=>kN (hW _ _ (D.kd.below P) (Y.trans (P.mono D.b0)) λa b=>cA (A a ((Y.trans (P.mono D.b0)).trans (b.mono (qR D.b0 P.size)))))
 have hx:L[p]? = some L[p]:=gE oo;have R:L[p]∈L:=List.getElem_mem oo;generalize L[p]=x at hx R;obtain⟨W,l,ha⟩:=hL.some_ oo;subst ha;have rd:∀{y:oG},Below B0 w0 y->∀(j:Nat) u,(Qn x)[j]? = some u->y.cell? ⟨W,l+p*14+j,none⟩=some u:=λhy j u hu=>(hL.bel hy ad).cell p x hx W l rfl j u hu
 have S:∀{y:oG},Below B0 w0 y->ZV y x:=λhy=>(hL.bel hy ad).ok x R;have f:=hL.ok x R;have ag:∀{y:oG} {K:KV},Below B0 w0 y->K (.agg (Qn x).toArray) y->ld Q 51 (pA W (l+p*14)) K y:=λhy A=>ldC (n:=14) (vs:=Qn x) underlying51 rfl kr (rd hy) rfl A
 have ix:∀{y:oG} {K:KV},K (pA W (l+p*14)) y->aW Q 22 (.slice (some ⟨W,l,none⟩) m b) (ci (p:Nat)) K y:=λA=>fQ underlying22 (s:=14) kf oo oo (by rw[oQ];exact A);refine ay oo (ix (SL (wQ ?_)));refine vS (v:=iv x.s.who) kf (rd Y 1 _ rfl) ?_;rw[<-ep, <-eq]
 have go:∀{y:oG} {N:Int} {bx:Nat} {zf:oD},Below X.heap.size X y->0<=N/\N<=18446744073709551615->X.heap.size<=bx->blk y bx 49 (stC {x.s with node:=N} (.slice x.pa x.s.picks.length x.pc)) ->
   eY K (λa M=>(∃(p:Nat) (H:CX) (J:TLD) (I:TQ),gd a 9=ci (p:Nat)/\p<=m/\CM M B0 n (64*p) I.F H/\TM M B0 J I/\TD H.T J/\H.p=c1.p/\I.p=q1.p/\J.few p/\Below B0 w0 M)/\m-(intOf (gd a 9)).toNat<mu) (kD (.slice (some ⟨W,l,none⟩) m b) (pB c1.p) (pB q1.p) (ci (p:Nat)) (pB bx) zf) y:=λ{y N bx zf} hb B aq zx=>by
  have V:=Y.trans (hb.mono D.b0);have ak:∀k∈q1.F,k<X.heap.size:=λk hk=>(m1.ty hk).2.1
  refine zez (s:={x.s with node:=N}) (k:=p) (D.newL hb λk a=>(oO.1 a).elim (λe=>.inr ⟨by omega,e ▸ zx.lt⟩) .inl) (m1.below hb) d1 f1 oo oo zx ⟨f.wd.d,f.wd.kind,B,f.wd.req,f.wd.of_⟩ ⟨f.i.who,f.i.to,f.i.am,f.i.k,f.i.j,f.i.n⟩ (S V).r (λa=>by have:=ak _ a;omega) λw' H J I au h' m' d' ah ai f' b' => EU (aR oo oo ⟨⟨p+1,H,J,I,qH ci (by push_cast;rfl),al,h'.le oo,m',d',ah,ai,f',V.trans b'⟩,?_⟩)
  rw[ao];show m-((p:Int)+1).toNat<m-(p:Int).toNat;omega
 refine zcZ D oo f.i.who λM st v sb P=>bo (bj ?_);have O:(saC st).length=20:=rD sb.i.1 sb.i.2.1 sb.i.2.2;refine bO (z:=.agg (saC stZ).toArray) kr λw3 z3 b3 s3=>?_;have z3:=cZ z3
 refine eW (n:=20) (vs:=saC st) kr O z3 dc (Mh sb.gv) λw4 z4 o4=>?_;rw[qY,oV,oS dc,oW]at z4;have Z:Below M.heap.size M w4.drew:=(aD b3 o4 oA).drew;have E:Below X.heap.size X w4.drew:=P.trans (Z.mono P.size);have V:Below B0 w0 w4.drew:=Y.trans (E.mono D.b0)
 have o:=sb.bel Z;have U:=z4.drew;have g:=E.size;have aj:=D.b0;refine aw (λy=>Below B0 w0 y/\blk y M.heap.size 42 (saC st)) ⟨V,U⟩ (ac (λy d _ A=>ix A) (ac (λy d _ A=>ag d.1 A) (ac (λy d _ A=>ldA (n:=20) (vs:=saC st) underlying42 rfl kr d.2 (by rw[oX,tL oo]) O A) ?_)))
 refine⟨zem (S V) o.i o.nr o.few o.id o.gv λw5 N B G=>aw (λ_=>True) trivial (zii λw6 z6 b6=>?_),?_⟩
 .exact go (E.trans ((G.trans (b6.mono G.size)).mono g)) B (by have:=G.size;omega) z6
 .refine bO (z:=.agg (stC NO (.slice none 0 0)).toArray) kr λw5 z5 G s5=>?_;have z5:=cZ z5
  have ab:=V.trans (G.mono (qR aj g));have C:=o.bel G;refine aB ⟨ab,ae G U U.lt⟩ (zem (S ab) C.i C.nr C.few C.id C.gv λar N B aa => aw (λ_=>True) trivial ?_);have ap:=ae aa z5 z5.lt;refine eW (n:=12) (vs:=stC {x.s with node:=N} (.slice x.pa x.s.picks.length x.pc)) kr rfl ap dc Rb λw6 z6 o6=>?_
  exact go (E.trans ((aD (G.trans (aa.mono G.size)) o6 oA).mono g)) B g z6
def zcR{n:Int}{L:List S24}(e:GD w)(D:0<=n/\n<=255)(hL:S24R w a m b L)(v:nX w (K cT)):call Q 3 #[.int .u8 n,.slice a m b] K w:=by
 refine aj (goK func3) (Gy (zko hL (bc (aV (XO e v))) λg=>bc (aA (dE underlying5 underlying3 ?_))));rw[fM oo oo];refine za5 D.1 oo (aR oo oo ?_);obtain⟨k,f⟩:∃k:Nat,(1+n%6)=(k:Nat):=⟨(1+n%6).toNat,by omega⟩
 rw[f];refine zcX (n:=k) (B0:=w.heap.size) e e.lt oA oo oo λr c l z G H I A x=>bo (bj ?_);refine aZ (df dc (DV (bw dc (aA ?_))));refine ck (vs:=[.slice none 0 0,.slice none 0 0,.slice none 0 0,.slice none 0 0]) kr (bu λy h u J=>EM ?_)
 have h:=cZ h
 have d:∀{E:TypeId} {s:Nat},y.ownsRow w.heap.size E s (.slice none 0 0) 0 []:=⟨by simp,.inl ⟨rfl,rfl⟩⟩
 refine zeA (q:=⟨r.heap.size,none,0,none,0,none,0,none,0⟩) (t:=⟨[],[],[],[]⟩) (l.newL u λt F=>.inr ?_) ⟨h,λi p=>by match i,p with|0,_=>exact d|1,_=>exact d|2,_=>exact d|3,_=>exact d,λi j p _ _ k f=>by match i,p with|0,_=>(cases f)|1,_=>(cases f)|2,_=>(cases f)|3,_=>(cases f),l.b0⟩ (by rw[A];exact TD.zero) ⟨Nat.le_refl _,Nat.le_refl _,Nat.le_refl _,Nat.le_refl _⟩ hL g (z.trans (u.mono l.b0)) oA (λS a C B o => XO C o) v
 have:t=r.heap.size:=mS F
 rw[this];exact⟨Nat.le_refl _,h.lt⟩
end
end
def rlG(g:Nat):Option (Nat×oE):=match Nat.beq g 1 with|true=>some (0,ZH)|false=>match Nat.beq g 0 with|true=>some (0,W9)|false=>none
def Sk{W:oG}(n:Int)(d:0<=n/\n<=255)(a:Option Addr)(m c:Nat)(L:List S24)(hL:S24R W a m c L)(_:m<=c)(_:c<=9223372036854775807)(b:∀g e cs,rlG g=some (e,cs)->gbk W g cs)(h:nX W (K (.bool true))):call Q 3 #[.int .u8 n,.slice a m c] K W :=
 zcR ⟨b 1 0 ZH rfl,b 0 0 W9 rfl⟩ d hL h
end
end Go.Proofs.YtpaghmnnhedccaaGreatDoor
