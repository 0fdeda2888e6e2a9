import Derived.Test.YtpaghmnnhedccaaGreatDoorSh
import Derived.OrdersIn
import Derived.TacticsIn
import Derived.RangeFuncIn
import Derived.RangeFuncRecord
import Derived.RangeFuncCalls
import Derived.RangeFuncOwn
import Derived.RangeFuncLeaves
import Derived.Test.YtpaghmnnhedccaaGreatDoorChecked
import Derived.Lib.Hide
import Derived.Lib.SlBytesConst
set_option linter.all false
namespace Go.Proofs.YtpaghmnnhedccaaGreatDoor
set_option maxRecDepth 100000
open Go.Proofs.Tryz
open Go.RowKit
variable {w w' w2 S O:oG}{K:KV}{zf:Nat->oF}{b c o i g m s j f z d c2 D B' B2 hi:Nat}{a av a2:Option Addr}{x v r:Int}{E t e:TypeId}{A:List Int}{B1 N R:KE}{xs ys vs:oE}{cx cy:Bool}{α:Type}{T:List (Int×Int)}{k' Q0:IntKind}{O0:FuncId}{X1 Z1 N2 O2 P2 Q2 R2 T2 U2 H Z U Y J C:oF}
def ndO(o:Oper):Bool:=match o.op with | .defer _=>false|_=>true
def BW:Code->Bool
 | .region _ ops _=>ops.toList.all ndO
 | .seq a b=>match BW a with|true=>BW b|false=>false
 | .cond _ a b=>match BW a with|true=>BW b|false=>false
 | .block _ c=>BW c
 | .loop c=>BW c
 | _=>true
section
variable {P:Program}{Q:Exit->Act->oG->Prop}{l n:Nat}{ops:Array Oper}{ds:List Deferred}
def zjg{o:Oper}(h:ndO o=true):∀c,o.op≠.defer c:=by intro c a;unfold ndO at h;rw[a]at h;cases h
def zgo{o:Oper}{a:Act}{K:Act->oG->Prop}(i:ndO o=true)(h:o.wp P a w K Q):o.wpIn (Fence.wide.inRound l) n P a w K Q:=by
 unfold Oper.wp at h;unfold Oper.wpIn;refine⟨λ_ _=>trivial,?_⟩;rw[Oper.semAt_eq _ _ _ (zjg i)];generalize (execOp a.eval o).run P w=r at *;cases r with
 | ok x S =>
  cases x<;>simp only[Oper.upon]at h<;>simp only[Oper.uponIn]
  case value=>exact h
  case skip=>exact h
  case enter f args=>exact⟨λb=>(by cases b),CallsIn.inRound l (callsIn_wide.2 h)⟩
  case defer=>exact h
  case row row args =>
   refine⟨λb=>(by cases b),?_⟩;intro c d _;obtain⟨v,j,e,g⟩:=h c d;exact⟨v,j,e,stepsIn_wide.2 g⟩
 | halt x S => cases x<;>simp only[Oper.upon]at h<;>simp only[Oper.uponIn]<;>exact h
def zjs(f : ¬LetsOut Q)(c:ops.toList.all ndO=true){a:Act}{K:Act->oG->Prop}(h:wpOp P ops Q i K a w):wpOpIn (Fence.wide.inRound l) n P ops Q i K a w:=by
 unfold wpOp at h;unfold wpOpIn;split at h
 .rename_i b;rw[b];exact h
 .rename_i o b;rw[b];have g:o∈ops.toList:=by have:=Array.mem_of_getElem? b;simpa using this
  have d:=jS.1 c o g;dsimp only;split at h
  .rename_i e;rw[oJ e];rcases h with h|h
   .exact zgo d h
   .exact qI h.2 f
  .rename_i e;rw[oI e];exact⟨λ_ _=>trivial,h⟩
def zik(f : ¬LetsOut Q)(d:ops.toList.all ndO=true){e:Region.Mode}:∀(c:Nat) (b:Array Bool) (a:Act) (w:oG),wpAny P e ops Q c b a w->wpAnyIn (Fence.wide.inRound l) n P e ops Q c b a w:=by
 intro c
 induction c with
 | zero=>intro b a w h;exact h
 | succ c ih =>
  intro b a w h;exact⟨h.1,λi g=>wpOpIn_mono (λa w h=>ih _ _ _ h) (zjs f d (h.2 i g))⟩
def zhj(d : ¬LetsOut Q):∀(L:List Oper) (a:Act) (w:oG),L.all ndO=true->wpList P ops Q L a w->wpListIn (Fence.wide.inRound l) n P ops Q L a w:=by
 intro L
 induction L with
 | nil=>intro a w _ h;exact h
 | cons o L ih =>
  intro a w b h;rw[List.all_cons,oM]at b;unfold wpList at h;unfold wpListIn;split at h
  .rename_i c;rw[oJ c];rcases h with h|h
   .exact Oper.wpIn_mono (λa w h=>ih a w b.2 h) (zgo b.1 h)
   .exact qI h.2 d
  .rename_i c;rw[oI c];exact⟨λ_ _=>trivial,ih _ _ b.2 h⟩
def zcK{X:Nat->KE}:¬LetsOut (QQ ds N X R):=λ⟨_,_,h⟩=>h
def zcu{id:Nat}{X:Nat->KE}{e:Env}(h:ai P (.region id ops true) N X R e w):P.follows .mixedOrders=true/\wpAny P .any ops (QQ ds N X R) ops.size (Array.replicate ops.size false) ⟨e.toArray,ds⟩ w.drew:=by
 simp only[ai]at h;cases m:(P.follows .mixedOrders&&QS P ops)
 case true =>
  rw[m]at h;obtain⟨S,L,h⟩:=h;simp only[oM]at m;exact⟨m.1,Ho _ _ _ _ _ (US (λe w J=>⟨e,rfl,J⟩) (λc a w O=>O) (UT m.2) _ _ _ _ _ _ L (RZ ops _) h)⟩
 case false =>
 rw[m]at h;dsimp only at h;cases p:(P.follows .mixedOrders&&Nat.ble (ju ops) ops.size)
 case false=>rw[p]at h;exact h.elim
 case true =>
  rw[p]at h;have h:Es _ _ _ _ _ _:=h;simp only[oM]at p;refine⟨p.1,?_⟩;obtain⟨A,B⟩:=wU (ops.toList.take (ju ops));obtain⟨G,I⟩:=wU (ops.toList.drop (ju ops));have i:∀e,iy P ops.toList (grp (ops.toList.drop (ju ops))) N e w.drew->wpList P ops.toList.toArray (QQ ds N X R) (ops.toList.drop (ju ops)) ⟨e.toArray,ds⟩ w.drew:=by
   intro e o
   have:=Gr (P:=P) (ops:=ops.toList) (Q:=QQ ds N X R) (K:=N) (λe w h=>⟨e,rfl,h⟩) (grp (ops.toList.drop (ju ops))) e w.drew I o
   rwa[G]at this
  rcases UA ops p.2 with⟨l,y⟩|⟨l,y⟩
  .have f:=Hl (P:=P) (ops:=ops.toList) (Q:=λa=>QQ ds N X R .normal a w.drew) (w:=w.drew) (λe o=>by
    have:=i e o
    rw[y,oS oB]at this;exact this) _ e B h
   rw[A,y,tL oB]at f;simp only[Region.lexB,oM]at l;have f:wpStill P ops w.drew (λa=>QQ ds N X R .normal a w.drew) ops.toList ⟨e.toArray,ds⟩:=by simpa using f
   refine wpAny_of_still (Q:=λa=>QQ ds N X R .normal a w.drew) (λ_ h=>h) _ _ _ ?_
   have:=wpAnyS_lex (md:=.any) l.1 ops.toList 0 (Array.replicate ops.size false) ⟨e.toArray,ds⟩ oB (by simpa using l.2) f
   simpa using this
  .have f:=Hl (P:=P) (ops:=ops.toList) (Q:=λa=>wpList P ops.toList.toArray (QQ ds N X R) (ops.toList.drop (ju ops)) a w.drew) (w:=w.drew) (λe o=>i e o) _ e B h;rw[A]at f;simp only[Region.lexTailB,oM,oP]at l;obtain⟨⟨⟨⟨s,r⟩,z⟩,M⟩,q⟩:=l;generalize V:ju ops=k at *;have x:k<ops.toList.length:=by simpa using r
   have b:(ops.toList.take k).length=k:=by simp only[qA];omega
   have n:(ops.toList.drop k).length=ops.size-k:=by simp
   have U:ops.toList.toArray=ops:=by simp
   rw[U]at f;have u:HeadInv .any ops k (Array.replicate ops.size false) :=
    ⟨by simp,λj W _ E=>(by rw[getD_replicate_false]at E;cases E),λt _ T=>getD_in (by simpa using T) (getD_replicate_false _ _)⟩
   have H:=wpAnyL_lex (md:=.any) (g:=ops.size-k) s z M r (ops.toList.take k) 0 _ ⟨e.toArray,ds⟩ (λj D=>by
    have v:j<k:=by rw[b]at D;exact D
    simp[v]) (by simpa using b) u (by rw[b];exact q) f
   have:=wpAny_of_head (Q':=QQ ds N X R) (g:=ops.size-k) (λd F C=>by
    have:=wpAny_of_seq (md:=.any) (Q':=QQ ds N X R) (ops.toList.drop k) k d F w.drew (λj=>by simp[jM]) (by rw[n];exact C.1) C.2
    rwa[n]at this) _ _ _ H
   rw[b,show k+(ops.size-k)=ops.size by simp at x;omega]at this;exact this
def NY:∀(c:Code) (N:KE) (X:Nat->KE) (R:KE) (e:Env) (w:oG),BW c=true->ai P c N X R e w->c.wpIn (Fence.wide.inRound l) n P (QQ ds N X R) ⟨e.toArray,ds⟩ w:=by
 intro c
 induction c with
 | skip=>intro N X R e w _ h;exact wpIn_skip ⟨e,rfl,h⟩
 | region id ops draw =>
  intro N X R e w d h;cases draw with
  | true =>
   obtain⟨g,j⟩:=zcu (ds:=ds) h;exact wpIn_region_any g (zik zcK d _ _ _ _ j)
  | false =>
   refine wpIn_region_list (zhj zcK _ _ _ d ?_);obtain⟨g,j⟩:=wU ops.toList
   have:=Gr (P:=P) (ops:=ops.toList) (Q:=QQ ds N X R) (K:=N) (λe w h=>⟨e,rfl,h⟩) (grp ops.toList) e w j h
   rw[g]at this;simpa using this
 | seq a b iha ihb =>
  intro N X R e w d h;obtain⟨p,q⟩:BW a=true/\BW b=true:=by
   unfold BW at d;split at d
   .rename_i o;exact⟨o,d⟩
   .cases d
  refine wpIn_seq (wpIn_mono (iha _ _ _ _ _ p h) ?_);intro x a w f;cases x with
  | normal=>obtain⟨e,rfl,h⟩:=f;exact ihb _ _ _ _ _ q h
  | _=>exact f
 | cond c x y ihx ihy =>
  intro N X R e w d h;obtain⟨p,q⟩:BW x=true/\BW y=true:=by
   unfold BW at d;split at d
   .rename_i o;exact⟨o,d⟩
   .cases d
  obtain⟨b,k,g,j⟩:=h;cases b with
  | true=>exact wpIn_cond (t:=true) (by rw[vg];exact k) (ihx _ _ _ _ _ p (g rfl))
  | false=>exact wpIn_cond (t:=false) (by rw[vg];exact k) (ihy _ _ _ _ _ q (j rfl))
 | block id c ih =>
  intro N X R e w d h;refine wpIn_block (wpIn_mono (ih _ _ _ _ _ d h) ?_);intro x a w f;cases x with
  | exit i =>
   obtain⟨e,rfl,h⟩:=f;simp only[Exit.inBlock];by_cases m:i=id
   .rw[oJ m]
    have:Nat.beq i id=true:=by rw[m];exact Nat.beq_refl id
    rw[this]at h;exact⟨e,rfl,h⟩
   .rw[oI m]
    have:Nat.beq i id=false:=by
     cases k:Nat.beq i id with
     | false=>rfl
     | true=>exact qI (Nat.eq_of_beq_eq_true k) m
    rw[this]at h;exact⟨e,rfl,h⟩
  | _=>exact f
 | loop c ih =>
  intro N X R e w d h;obtain⟨I,B,u,z⟩:=h;refine wpIn_loop (λa w=>∃e:Env,a=⟨e.toArray,ds⟩/\I e w) (λa w=>B a.tmps.toList w) ⟨e,rfl,u⟩ ?_;rintro _ A ⟨r,rfl,v⟩;refine wpIn_mono (ih _ _ _ _ _ d (z r A v)) ?_;intro x a w f;cases x with
  | normal=>obtain⟨s,rfl,g,j⟩:=f;exact⟨⟨s,rfl,g⟩,by simpa using j⟩
  | _=>exact f
 | exit i=>intro N X R e w _ h;exact wpIn_exit ⟨e,rfl,h⟩
 | ret=>intro N X R e w _ h;exact wpIn_ret ⟨e,rfl,h⟩
 | _=>intro N X R e w _ h;exact h.elim
end
abbrev YB:=oE->KV->oG->Prop
section
variable (P:Program)(Y:YB)(l:Nat)
def Uq(b:oF)(a:Array oF)(K:KV)(w:oG):Prop:=(b=.func (.yield l) #[] #[]/\Y a.toList K w)\/bA P b a K w
def yOp(r:Operand->oF)(o:Oper)(K:KV)(w:oG):Prop :=
 match o.op with
 | .call c =>
  match c.callee with
  | .value (.tmp t)=>Uq P Y l (r (.tmp t)) (c.args.toList.map r).toArray K w
  | _=>cOp P r o K w
 | _=>cOp P r o K w
def Dn(ops:List Oper):List Oper->KE->KE
 | [],K=>K
 | o::r,K=>λe w =>
  match o.guard with
  | none=>yOp P Y l (ev e) o (λv a => Dn ops r K (pt e o.dst v) a) w
  | some (j,want)=>xG (tY ops e j) want (λk w=>yOp P Y l (ev e) o k w) (λv a => Dn ops r K (pt e o.dst v) a) w
def xh:Code->KE->(Nat->KE)->KE->KE
 | .skip,N,_,_=>N
 | .region _ ops false,N,_,_=>Dn P Y l ops.toList ops.toList N
 | .region i ops true,N,X,R=>ai P (.region i ops true) N X R
 | .seq a b,N,X,R=>xh a (xh b N X R) X R
 | .cond c x y,N,X,R=>λe w=>cond (ev e c) (xh x N X R e w) (xh y N X R e w)
 | .block id c,N,X,R=>xh c N (λi=>@Bool.rec (λ_=>KE) (X i) N (Nat.beq i id)) R
 | .loop c,_,X,R=>zgk λN' => xh c N' X R
 | .exit i,_,X,_=>X i
 | .ret,_,_,R=>R
 | _,_,_,_=>λ_ _=>False
end
structure YOK(P:Program) (l:Nat) (Y:YB):Prop where
 yld:∀{vs K w},Y vs K w->∃r:Loop,w.heap[l]? = some (.loop r)/\r.state=.ready/\vs.length=r.params.size /\
  RoundIn Fence.wide 0 P l r.fn ((r.params.zip vs.toArray).foldl (λt (p,a)=>t.setIfInBounds p a) r.tmps) r.assign r.body w (λx a => ∃v,x=.returned v/\K v a)
section sound
variable {P:Program}{Y:YB}{l:Nat}
def zfA{n:Nat}{o:Oper}{a:Act}{K:Act->oG->Prop}{Q:Exit->Act->oG->Prop}(h:o.wp P a w K Q):o.wpIn Fence.wide n P a w K Q:=by
 unfold Oper.wp at h;unfold Oper.wpIn;refine⟨λ_ _=>trivial,?_⟩;rw[show Fence.wide.round=none from rfl,Oper.semAt_none];generalize (execOp a.eval o).run P w=r at *;cases r with
 | ok x S =>
  cases x<;>simp only[Oper.upon]at h<;>simp only[Oper.uponIn]
  case value=>exact h
  case skip=>exact h
  case enter f args=>exact⟨λb=>(by cases b),callsIn_wide.2 h⟩
  case defer=>exact h
  case row row args =>
   refine⟨λb=>(by cases b),?_⟩;intro c d _;obtain⟨v,i,e,g⟩:=h c d;exact⟨v,i,e,stepsIn_wide.2 g⟩
 | halt x S => cases x<;>simp only[Oper.upon]at h<;>simp only[Oper.uponIn]<;>exact h
def XQ(L:YOK P l Y){o:Oper}{e:Env}{next:Act->oG->Prop}{Q:Exit->Act->oG->Prop}(h:yOp P Y l (ev e) o K w)(z:∀v w',K v w'->next ⟨(pt e o.dst v).toArray,[]⟩ w'):o.wpIn Fence.wide 1 P ⟨e.toArray,[]⟩ w next Q:=by
 have b:cOp P (ev e) o K w->o.wpIn Fence.wide 1 P ⟨e.toArray,[]⟩ w next Q:=λh=>zfA (EG h z)
 unfold yOp at h;split at h
 .rename_i c n;split at h
  .rename_i t s;rcases h with⟨M,R⟩|h
   .obtain⟨r,H,y,I,J⟩:=L.yld R;have q:Act.eval ⟨e.toArray,[]⟩=ev e:=funext (vg e []);have d:(execOp (Act.eval ⟨e.toArray,[]⟩) o).run P w=.ok (.round l r.fn ((r.params.zip (c.args.toList.map (ev e)).toArray).foldl (λt (p,a)=>t.setIfInBounds p a) r.tmps) r.assign r.body) w:=by
     obtain⟨F,U,W,S,k,m⟩:=o;simp only at n;subst n;obtain⟨E,j,D⟩:=c;simp only at s;subst s;rw[q];simp only[execOp,resolve,Deferred.ofValue,invoke,jY,jX,jW,M];have G : #[]++Array.map (ev e) j=(j.toList.map (ev e)).toArray:=by apply Array.ext';simp
     rw[G];obtain⟨V,A,T,B,i,f,u,g⟩:=r;simp only at y;subst y;exact run_yield (P:=P) (w:=w) (l:=l) (args:=(j.toList.map (ev e)).toArray) H (by simpa using I)
    unfold Oper.wpIn;refine⟨λ_ _=>trivial,?_⟩;rw[show Fence.wide.round=none from rfl,Oper.semAt_none,d,Oper.uponIn_round];refine⟨λN=>(by cases N),J.mono ?_⟩;rintro x C ⟨v,rfl,O⟩;show next (Act.put ⟨e.toArray,[]⟩ o.dst v) C
    rw[zO];exact z v C O
   .refine b ?_;unfold cOp;rw[n];dsimp only;rw[s];exact h
  .exact b h
 .exact b h
def Sj(f:YOK P l Y){ops:Array Oper}{Q:Exit->Act->oG->Prop}:∀(L:List Oper) {K:KE} {e:Env} {w:oG},Dn P Y l ops.toList L K e w->(∀e w,K e w->Q .normal ⟨e.toArray,[]⟩ w)->wpListIn Fence.wide 1 P ops Q L ⟨e.toArray,[]⟩ w
 | [],K,e,w,h,hK=>hK e w h
 | o::L,K,e,w,h,hK=>by
  refine wpListIn_step λKK d=>?_;dsimp only;unfold Dn at h;have i:∀v S,Dn P Y l ops.toList L K (pt e o.dst v) S->KK ⟨(pt e o.dst v).toArray,[]⟩ S:=λv S h=>d _ _ (Sj f L h hK);split at h
  .rename_i g;have c:Region.wanted o (yielded ops e.toArray)=true:=by simp[Region.wanted,g]
   rw[c,oJ rfl];exact XQ f h i
  .rename_i j a g;have c:=zv ops.toList e o j a g;rw[show ops.toList.toArray=ops from rfl]at c;rw[c];by_cases b:asB (tY ops.toList e j)=some a
   .rw[show (asB (tY ops.toList e j)==some a)=true by simp[b],oJ rfl];exact XQ f (h.1 b) i
   .rw[show (asB (tY ops.toList e j)==some a)=false by simp[b],oI oB];refine⟨λ_ _=>trivial,?_⟩;rw[zO];exact i undef w (h.2 b)
def zaR(s:YOK P l Y):∀(c:Code) (N:KE) (X:Nat->KE) (R:KE) (e:Env) (w:oG),xh P Y l c N X R e w->c.wp P (QQ [] N X R) ⟨e.toArray,[]⟩ w:=by
 intro c
 induction c with
 | skip=>intro N X R e w h;exact wp_skip ⟨e,rfl,h⟩
 | region id ops draw =>
  intro N X R e w h;cases draw with
  | true=>exact Ez _ _ _ _ _ _ h
  | false=>exact(wpIn_wide (n:=1)).1 (wpIn_region_list (Sj s ops.toList h λe w r=>⟨e,rfl,r⟩))
 | seq a b iha ihb =>
  intro N X R e w h;refine wp_seq (wp_mono (iha _ _ _ _ _ h) ?_);intro x a w d;cases x with
  | normal=>obtain⟨e,rfl,h⟩:=d;exact ihb _ _ _ _ _ h
  | _=>exact d
 | cond c x y ihx ihy =>
  intro N X R e w h;obtain⟨b,f,j,k⟩:=h;cases b with
  | true=>exact wp_cond (t:=true) (by rw[vg];exact f) (ihx _ _ _ _ _ (j rfl))
  | false=>exact wp_cond (t:=false) (by rw[vg];exact f) (ihy _ _ _ _ _ (k rfl))
 | block id c ih =>
  intro N X R e w h;refine wp_block (wp_mono (ih _ _ _ _ _ h) ?_);intro x a w d;cases x with
  | exit i =>
   obtain⟨e,rfl,h⟩:=d;simp only[Exit.inBlock];by_cases g:i=id
   .rw[oJ g]
    have:Nat.beq i id=true:=by rw[g];exact Nat.beq_refl id
    rw[this]at h;exact⟨e,rfl,h⟩
   .rw[oI g]
    have:Nat.beq i id=false:=by
     cases f:Nat.beq i id with
     | false=>rfl
     | true=>exact qI (Nat.eq_of_beq_eq_true f) g
    rw[this]at h;exact⟨e,rfl,h⟩
  | _=>exact d
 | loop c ih =>
  intro N X R e w h;obtain⟨I,z,p,u⟩:=h;refine wp_loop (λa w=>∃e:Env,a=⟨e.toArray,[]⟩/\I e w) (λa w=>z a.tmps.toList w) ⟨e,rfl,p⟩ ?_;rintro _ v ⟨m,rfl,q⟩;refine wp_mono (ih _ _ _ _ _ (u m v q)) ?_;intro x a w d;cases x with
  | normal=>obtain⟨o,rfl,j,k⟩:=d;exact⟨⟨o,rfl,j⟩,by simpa using k⟩
  | _=>exact d
 | exit i=>intro N X R e w h;exact wp_exit ⟨e,rfl,h⟩
 | ret=>intro N X R e w h;exact wp_ret ⟨e,rfl,h⟩
 | _=>intro N X R e w h;exact h.elim
def Fx(P:Program)(Y:YB)(l:Nat)(f:FuncId)(a:oE)(w:oG)(K:KV):Prop :=
 KO P f/\∃(b:Func) (c:Code),P.funcs[f]? = some b/\b.body=some c /\
  xh P Y l c (Dh P b.results.toList K) (λ_ _ _=>False) (Dh P b.results.toList K) (a++List.replicate (b.ntmps-a.length) undef) w
def zen{f:FuncId}{b:Func}{a:oE}(i:KO P f)(g:P.funcs[f]? = some b)(e:b.body.isSome=true)(h:xh P Y l (cd b []) (Dh P b.results.toList K) (λ_ _ _=>False) (Dh P b.results.toList K) (a++List.replicate (b.ntmps-a.length) undef) w):Fx P Y l f a w K:=by
 cases d:b.body with
 | none=>simp[d]at e
 | some c =>
  have:cd b []=c:=by simp[cd,d,sub]
  rw[this]at h;exact⟨i,b,c,g,d,h⟩
def zaw(n:YOK P l Y){f:FuncId}{b:oE}(h:Fx P Y l f b w K):KO P f/\Calls P f b.toArray w (λx S => ∃v,x=.returned v/\K v S):=by
 obtain⟨q,k,c,p,o,h⟩:=h;refine⟨q,calls_of_wp p o ?_⟩;have m:b.toArray++Array.replicate (k.ntmps-b.toArray.size) undef=(b++List.replicate (k.ntmps-b.length) undef).toArray:=by simp
 rw[m];refine wp_mono (zaR n c _ _ _ _ _ h) ?_;intro x a w d;cases x with
 | normal=>obtain⟨e,rfl,h⟩:=d;obtain⟨v,g,j⟩:=zP h;exact⟨rfl,v,g,v,rfl,j⟩
 | ret=>obtain⟨e,rfl,h⟩:=d;obtain⟨v,g,j⟩:=zP h;exact⟨rfl,v,g,v,rfl,j⟩
 | exit i=>obtain⟨_,_,h⟩:=d;exact h.elim
 | _=>exact d.elim
abbrev Ew(Y:YB):Prop:=∀(vs:oE) (K K':KV) (w:oG),(∀v w',K v w'->K' v w')->Y vs K w->Y vs K' w
def zbW{a:Array oF}{K':KV}(g:Ew Y)(e:∀v S,K v S->K' v S)(h:Uq P Y l H a K w):Uq P Y l H a K' w:=by
 rcases h with⟨c,d⟩|⟨f,first,b,c,d⟩
 .exact .inl ⟨c,g _ _ _ _ e d⟩
 .exact .inr ⟨f,first,b,c,OW e d⟩
def zax(b:Ew Y){r:Operand->oF}{o:Oper}{K':KV}(a:∀v S,K v S->K' v S)(h:yOp P Y l r o K w):yOp P Y l r o K' w:=by
 unfold yOp at h |-;split at h
 .split at h
  .exact zbW b a h
  .exact HG a h
 .exact HG a h
def Si(c:Ew Y){ops:List Oper}:∀(L:List Oper) {K K':KE} {e:Env} {w:oG},Dn P Y l ops L K e w->(∀b S,agree (eD L) e b->K b S->K' b S)->Dn P Y l ops L K' e w
 | [],K,K',e,w,h,hk=>hk e w (agree.refl _ _) h
 | o::L,K,K',e,w,h,hk=>by
  have j:∀v O,Dn P Y l ops L K (pt e o.dst v) O->Dn P Y l ops L K' (pt e o.dst v) O:=λv O h =>
   Si c L h λb S m k=>hk b S (((Mw e o.dst v).trans m).mono λi a=>by
    unfold eD at *;rw[List.filterMap_cons];rcases oU.1 a with a|a
    .cases f:o.dst with
     | none=>rw[f]at a;cases a
     | some d=>rw[f]at a;simp at a;subst a;simp
    .cases f:o.dst with
     | none=>exact a
     | some d=>exact oH _ a) k
  unfold Dn at h |-;split at h
  .exact zax c j h
  .exact⟨λg=>zax c j (h.1 g),λg=>j _ _ (h.2 g)⟩
def zaQ(E:Ew Y):∀(c:Code) {N N':KE} {X X':Nat->KE} {R R':KE} {e:Env} {w:oG},xh P Y l c N X R e w->(∀d S,agree (wr c) e d->N d S->N' d S) ->
  (∀i d S,agree (wr c) e d->X i d S->X' i d S)->(∀d S,agree (wr c) e d->R d S->R' d S)->xh P Y l c N' X' R' e w:=by
 intro c
 induction c with
 | skip=>intro N N' X X' R R' e w h j _ _;exact j e w (agree.refl _ _) h
 | region id ops draw =>
  intro N N' X X' R R' e w h j m k;cases draw with
  | true=>exact Ey _ h j m k
  | false=>exact Si E _ h j
 | seq a b iha ihb =>
  intro N N' X X' R R' e w h j m k;exact iha h (λd S f p=>ihb p (λq t r s=>j q t (f.trans r) s) (λi q t r s=>m i q t (f.trans r) s) (λq t r s=>k q t (f.trans r) s))
   (λi d S f=>m i d S (f.mono λi g=>List.mem_append_left _ g)) (λd S f=>k d S (f.mono λi g=>List.mem_append_left _ g))
 | cond c x y ihx ihy =>
  intro N N' X X' R R' e w h j m k;obtain⟨b,p,z,A⟩:=h;refine⟨b,p,λv=>?_,λv=>?_⟩
  .exact ihx (z v) (λd S f=>j d S (f.mono λi g=>List.mem_append_left _ g)) (λi d S f=>m i d S (f.mono λi g=>List.mem_append_left _ g)) (λd S f=>k d S (f.mono λi g=>List.mem_append_left _ g))
  .exact ihy (A v) (λd S f=>j d S (f.mono λi g=>List.mem_append_right _ g)) (λi d S f=>m i d S (f.mono λi g=>List.mem_append_right _ g)) (λd S f=>k d S (f.mono λi g=>List.mem_append_right _ g))
 | block id c ih =>
  intro N N' X X' R R' e w h j m k;refine ih h j (λi d S f n=>?_) k;cases p:Nat.beq i id with
  | true=>rw[p]at n;exact j d S f n
  | false=>rw[p]at n;exact m i d S f n
 | loop c ih =>
  intro N N' X X' R R' e w h j m k;obtain⟨I,G,C,F⟩:=h;refine⟨λu B => I u B/\agree (wr c) e u,G,⟨C,agree.refl _ _⟩,?_⟩;rintro u B ⟨D,o⟩
  refine ih (F u B D) (λd S f ⟨z,A⟩=>⟨⟨z,(o.trans f).mono λi g=>by simpa using g⟩,A⟩) (λi d S f n=>m i d S ((o.trans f).mono λi g=>show i∈wr c by simpa using g) n) (λd S f n=>k d S ((o.trans f).mono λi g=>show i∈wr c by simpa using g) n)
 | exit i=>intro N N' X X' R R' e w h _ m _;exact m i e w (agree.refl _ _) h
 | ret=>intro N N' X X' R R' e w h _ _ k;exact k e w (agree.refl _ _) h
 | _=>intro N N' X X' R R' e w h _ _ _;exact h.elim
def Va(q:Ew Y)(c:Code)(ws:List Nat)(j:(wr c).all (ws.contains ·)=true)(I:KE)(k:Env->oG->Nat){X:Nat->KE}{e:Env}(m:I e w)(s:∀a S,I a S->xh P Y l c (λf O=>I f O/\k f O<k a S) X R (mix ws a 0 e) S):xh P Y l (.loop c) N X R e w:=by
 have d:∀i∈wr c,i∈ws:=λi g=>by simpa using jS.1 j i g
 refine⟨λa S => I a S/\agree ws e a,k,⟨m,agree.refl _ _⟩,?_⟩;rintro a S ⟨p,b⟩;have h:=s a S p;rw[XD b]at h;exact zaQ q c h (λf O r ⟨n,o⟩=>⟨⟨n,(b.trans (r.mono d)).mono (λi g=>by simpa using g)⟩,o⟩) (λ_ _ _ _ h=>h) (λ_ _ _ h=>h)
def zcq:List (Tmp×oF)->Env->Env
 | [],e=>e
 | (p,v)::r,e=>zcq r (e.set p v)
def zbx:∀(l:List (Tmp×oF)) (e:Env),l.foldl (λt p=>t.setIfInBounds p.1 p.2) e.toArray=(zcq l e).toArray
 | [],e=>rfl
 | (p,v)::l,e=>by
  rw[List.foldl_cons,show e.toArray.setIfInBounds p v=(e.set p v).toArray by simp];exact zbx l _
def pD(fn:FuncId)(e:Env)(c:Array Tmp)(a b:Code)(D:Nat)(d:LoopState)(y:Option Code):Loop:={state:=d,pending:=y,fn,tmps:=e.toArray,params:=c,assign:=a,body:=b,defers:=D}
def stY(y:Option Code):LoopState:=if y.isNone then .ready else .done
def Yu(P:Program)(l D:Nat)(d:FuncId)(e:Env)(c:Array Tmp)(a b:Code):YB:=λg K w =>
 BW a=true/\BW b=true/\w.heap[l]? = some (.loop (pD d e c a b D .ready none))/\g.length=c.size /\
 ai P a (λj h=>h.heap[l]? = some (.loop (pD d e c a b D .ready none)) /\
  ai P b (λ_ f=>f.heap[l]? = some (.loop (pD d e c a b D .busy none))/\K (.bool true) (f.putObj l (.loop (pD d e c a b D .ready none))))
   (λi _ f=>f.heap[l]? = some (.loop (pD d e c a b D .busy none))/\K (.bool false) (f.putObj l (.loop (pD d e c a b D .done (some (.exit i))))))
   (λ_ f=>f.heap[l]? = some (.loop (pD d e c a b D .busy none))/\K (.bool false) (f.putObj l (.loop (pD d e c a b D .done (some .ret)))))
   j (h.putObj l (.loop (pD d e c a b D .busy none)))) (λ_ _ _=>False) (λ_ _=>False) (zcq (c.toList.zip g) e) w
def zey{l:Nat}{e:Env}{ps:Array Tmp}{a bd:Code}:YOK P l (Yu P l D O0 e ps a bd) where
 yld:=by
  rintro vs K w ⟨na,nb,hl,hlen,h⟩;refine⟨_,hl,rfl,hlen,?_⟩;have etmp:(ps.zip vs.toArray).foldl (λtmps (t,a)=>tmps.setIfInBounds t a) e.toArray=(zcq (ps.toList.zip vs) e).toArray:=by
   rw[<-zbx, <-Array.foldl_toList];simp
  show RoundIn Fence.wide 0 P l O0 ((ps.zip vs.toArray).foldl (λtmps (t,a)=>tmps.setIfInBounds t a) e.toArray) a bd w _;rw[etmp];refine roundIn_of_wpIn trivial <|wpIn_mono (NY (ds:=[]) a _ _ _ _ _ na h) ?_;intro x a1 w1 hq;cases x with
  | normal =>
   obtain⟨e1,rfl,h1,hq⟩:=hq;refine⟨_,run_beginRound h1 rfl,?_⟩;refine wpIn_mono (NY (ds:=[]) bd _ _ _ _ _ nb hq) ?_;intro x a1 w2 hq;cases x with
   | normal=>obtain⟨e2,rfl,h2,hk⟩:=hq;exact⟨_,_,run_endRound none h2,_,rfl,hk⟩
   | exit i=>obtain⟨e2,rfl,h2,hk⟩:=hq;exact⟨_,_,run_endRound (some (.exit i)) h2,_,rfl,hk⟩
   | ret=>obtain⟨e2,rfl,h2,hk⟩:=hq;exact⟨_,_,run_endRound (some .ret) h2,_,rfl,hk⟩
   | _=>exact hq.elim
  | exit i=>obtain⟨_,_,hq⟩:=hq;exact hq
  | ret=>obtain⟨_,_,hq⟩:=hq;exact hq
  | _=>exact hq
def rfS(P:Program)(c:Code)(N:Nat->KE)(X:Nat->Nat->KE)(R:Nat->KE)(e:Env)(w:oG):Prop :=
 match c with
 | .rangeFunc g ps a bd=>∃(h:FuncId) (d:oE),ev e g=.func (.func h) #[] d.toArray/\∀(b:FuncId) (W:oG),Below w.heap.size w W->W.heap.size=w.heap.size+2 ->
   W.heap[w.heap.size]? = some (.deferred (some []))->W.heap[w.heap.size+1]? = some (.loop (pD b e ps a bd w.heap.size .ready none)) ->
   Fx P (Yu P (w.heap.size+1) w.heap.size b e ps a bd) (w.heap.size+1) h (.func (.yield (w.heap.size+1)) #[] #[]::d) W λ_ f =>
    ∃y:Option Code,f.heap[w.heap.size+1]? = some (.loop (pD b e ps a bd w.heap.size (stY y) y)) /\
     (match y with
      | none=>N w.heap.size e (f.putObj (w.heap.size+1) (.loop (pD b e ps a bd w.heap.size .exhausted y)))
      | some (.exit i)=>X i w.heap.size e (f.putObj (w.heap.size+1) (.loop (pD b e ps a bd w.heap.size .exhausted y)))
      | some .ret=>R w.heap.size e (f.putObj (w.heap.size+1) (.loop (pD b e ps a bd w.heap.size .exhausted y)))
      | _=>False)
 | _=>False
def QM(N:Nat->KE)(X:Nat->Nat->KE)(R:Nat->KE):Exit->Act->oG->Prop
 | .normal,a,w=>∃(e:Env) (D:Nat),a=⟨e.toArray,[{target:=.collected D,args:=#[]}]⟩/\N D e w
 | .exit i,a,w=>∃(e:Env) (D:Nat),a=⟨e.toArray,[{target:=.collected D,args:=#[]}]⟩/\X i D e w
 | .ret,a,w=>∃(e:Env) (D:Nat),a=⟨e.toArray,[{target:=.collected D,args:=#[]}]⟩/\R D e w
 | _,_,_=>False
def zdX{c:Code}{N:Nat->KE}{X:Nat->Nat->KE}{R:Nat->KE}{e:Env}(h:rfS P c N X R e w):c.wp P (QM N X R) ⟨e.toArray,[]⟩ w:=by
 unfold rfS at h;split at h
 .rename_i g u a l;obtain⟨m,b,A,h⟩:=h;refine(wpIn_wide (n:=0)).1 (wpIn_rangeFunc ?_);intro f _;obtain⟨W1,d⟩:∃W1,(w.alloc (.deferred (some []))).alloc (.loop (pD f e u a l w.heap.size .ready none))=W1:=⟨_,rfl⟩
  have p:W1.heap[w.heap.size+1]? = some (.loop (pD f e u a l w.heap.size .ready none)):=by
   rw[<-d];have:=World.alloc_heap_new (w.alloc (.deferred (some []))) (.loop (pD f e u a l w.heap.size .ready none));rwa[World.size_alloc]at this
  have o:W1.heap[w.heap.size]? = some (.deferred (some [])):=by
   rw[<-d];exact(Below.heap_alloc _ _ _ oB).trans (World.alloc_heap_new w _)
  have j:Below w.heap.size w W1:=by
   rw[<-d];exact((jU _ w).alloc oA _).alloc oB _
  have s:W1.heap.size=w.heap.size+2:=by rw[<-d];simp
  obtain⟨r,t⟩:=zaw zey (h f W1 j s o p);refine⟨w.heap.size+1,[{target:=.collected w.heap.size,args:=#[]}],W1, {target:=.fn (.func m) b.toArray,args:=#[.func (.yield (w.heap.size+1)) #[] #[]]},W1,m,
   #[.func (.yield (w.heap.size+1)) #[] #[]]++b.toArray,W1,?_,?_,λ_ _=>trivial,?_,(λh=>by cases h),?_⟩
  .rw[<-d];exact run_enterLoop_outer _ _ _ _ _
  .have q:Act.eval ⟨e.toArray,[]⟩ g=.func (.func m) #[] b.toArray:=by rw[vg];exact A
   simp only[resolve,q];simp[go_sem]
  .simp[invoke,go_sem,Qm r]
  .refine callsIn_wide.2 ?_;have v : #[Value.func (.yield (w.heap.size+1)) #[] #[]]++b.toArray=(Value.func (.yield (w.heap.size+1)) #[] #[]::b).toArray:=by simp
   rw[v];refine t.mono ?_;rintro x B ⟨_,rfl,y,z,k⟩;refine⟨_,_,run_endLoop z (by unfold pD stY;cases y<;>simp),?_⟩;cases y with
   | none=>exact(show QM N X R .normal _ _ from⟨e,_,rfl,k⟩)
   | some c =>
    cases c with
    | exit i=>exact(show Code.wpIn Fence.wide 0 P (.exit i) (QM N X R) _ _ from wpIn_exit (show QM N X R (.exit i) _ _ from⟨e,_,rfl,k⟩))
    | ret=>exact(show Code.wpIn Fence.wide 0 P .ret (QM N X R) _ _ from wpIn_ret (show QM N X R .ret _ _ from⟨e,_,rfl,k⟩))
    | _=>exact k.elim
 .exact h.elim
def dM(D:Nat)(w:oG):Prop:=w.heap[D]? = some (.deferred (some []))
def Cz(P:Program)(a:List ResultVar)(K:KV)(D:Nat):KE:=λe w=>dM D w/\Dh P a K e (w.putObj D (.deferred none))
def zdq{a:Func}{e:Env}(h:Cz P a.results.toList K D e w):LeavesInM Fence.wide 0 P a e.toArray (λx S => ∃v,x=.returned v/\K v S) [{target:=.collected D,args:=#[]}] .returning w:=by refine⟨by simp,.inl ⟨D,_,rfl,run_takeDeferred h.1,?_⟩⟩;obtain⟨v,b,c⟩:=zP h.2;exact⟨v,b,v,rfl,c⟩
def zj9{a:Func}{e:Env}(h:Dh P a.results.toList K e w):LeavesInM Fence.wide 0 P a e.toArray (λx S => ∃v,x=.returned v/\K v S) [] .returning w:=by obtain⟨v,b,c⟩:=zP h;exact⟨v,b,v,rfl,c⟩
def ziq:Code->Code
 | .rangeFunc _ _ _ b=>b
 | _=>.skip
def zim:Code->Code
 | .rangeFunc _ _ a _=>a
 | _=>.skip
def za7:Code->Option (Nat×Code)
 | .block id c=>match c with
  | .rangeFunc g ps a b=>some (id,.rangeFunc g ps a b)
  | _=>none
 | _=>none
def zdV{c:Code}{id:Nat}{r:Code}(h:za7 c=some (id,r)):c=.block id r:=by
 unfold za7 at h;split at h
 .split at h
  .cases h;rfl
  .cases h
 .cases h
def rfT:Code->Bool
 | .seq a b=>match rfT a with|true=>true|false=>rfT b
 | c=>(za7 c).isSome
def cMr(P:Program)(F:Nat->KE)(R0:KE):Code->(Nat->KE)->KE
 | .seq a b,N=>match rfT a with
  | true=>cMr P F R0 a λD=>ai P b (N D) (λ_ _ _=>False) (F D)
  | false=>ai P a (cMr P F R0 b N) (λ_ _ _=>False) R0
 | c,N=>match za7 c with
  | some (id,c)=>rfS P c N (λi D e w=>i=id/\N D e w) F
  | none=>λ_ _=>False
def QR(F:Nat->KE)(R0:KE)(N:Nat->KE):Exit->Act->oG->Prop
 | .normal,a,w=>∃(e:Env) (D:Nat),a=⟨e.toArray,[{target:=.collected D,args:=#[]}]⟩/\N D e w
 | .ret,a,w=>(∃(e:Env) (D:Nat),a=⟨e.toArray,[{target:=.collected D,args:=#[]}]⟩/\F D e w)\/∃e:Env,a=⟨e.toArray,[]⟩/\R0 e w
 | _,_,_=>False
def zcU{F:Nat->KE}:∀(c:Code) {N:Nat->KE} {e:Env} {w:oG},cMr P F B1 c N e w->c.wp P (QR F B1 N) ⟨e.toArray,[]⟩ w:=by
 intro c
 induction c with
 | seq a b iha ihb =>
  intro N e w h;cases f:rfT a with
  | true =>
   simp only[cMr,f]at h;refine wp_seq (wp_mono (iha h) ?_);intro x a m d;cases x with
   | normal =>
    obtain⟨j,D,rfl,g⟩:=d;refine wp_mono (Ez (ds:=[{target:=.collected D,args:=#[]}]) b _ _ _ _ _ g) ?_;intro x a w d;cases x with
    | normal=>obtain⟨e,rfl,h⟩:=d;exact⟨e,D,rfl,h⟩
    | ret=>obtain⟨e,rfl,h⟩:=d;exact .inl ⟨e,D,rfl,h⟩
    | exit i=>obtain⟨_,_,h⟩:=d;exact h.elim
    | _=>exact d.elim
   | ret=>exact d
   | _=>exact d.elim
  | false =>
   simp only[cMr,f]at h;refine wp_seq (wp_mono (Ez (ds:=[]) a _ _ _ _ _ h) ?_);intro x a m d;cases x with
   | normal=>obtain⟨j,rfl,g⟩:=d;exact ihb g
   | exit i=>obtain⟨_,_,d⟩:=d;exact d.elim
   | ret=>obtain⟨j,rfl,g⟩:=d;exact .inr ⟨j,rfl,g⟩
   | _=>exact d.elim
 | block id c _ =>
  intro N e w h;cases f:za7 (.block id c)with
  | some p =>
   obtain⟨id,r⟩:=p;simp only[cMr,f]at h;rw[zdV f];refine wp_block (wp_mono (zdX h) ?_);intro x a n d;cases x with
   | normal=>obtain⟨e,D,rfl,h⟩:=d;exact⟨e,D,rfl,h⟩
   | ret=>obtain⟨e,D,rfl,h⟩:=d;exact .inl ⟨e,D,rfl,h⟩
   | exit i =>
    obtain⟨e,D,rfl,l,k⟩:=d;rw[l];simp only[Exit.inBlock,if_true];exact⟨e,D,rfl,k⟩
   | _=>exact d.elim
  | none =>
   simp only[cMr,f]at h
 | _=>intro N e w h;exact h.elim
def zd6{f:FuncId}{d:Func}{b:oE}(l:P.funcs[f]? = some d)(k:d.body.isSome=true)(h:cMr P (Cz P d.results.toList K) (Dh P d.results.toList K) (cd d []) (Cz P d.results.toList K) (b++List.replicate (d.ntmps-b.length) undef) w):Gives P f b.toArray w K:=by
 cases g:d.body with
 | none=>simp[g]at k
 | some c =>
  have:cd d []=c:=by simp[cd,g,sub]
  rw[this]at h;refine callsIn_wide.1 (callsIn_of_wp_marks (n:=0) l g trivial ?_);have j:b.toArray++Array.replicate (d.ntmps-b.toArray.size) undef=(b++List.replicate (d.ntmps-b.length) undef).toArray:=by simp
  rw[j];refine wpIn_wide.2 (wp_mono (zcU c h) ?_);intro x a m i;cases x with
  | normal=>obtain⟨e,D,rfl,h⟩:=i;exact zdq h
  | ret =>
   rcases i with⟨e,D,rfl,h⟩|⟨e,rfl,h⟩
   .exact zdq h
   .exact zj9 h
  | _=>exact i.elim
def zdW{c:Code}{g:Operand}{ps:Array Tmp}{a bd:Code}{gf:FuncId}{cap:oE}{N:Nat->KE}{X:Nat->Nat->KE}{R:Nat->KE}{e:Env}(d:c=.rangeFunc g ps a bd)(f:ev e g=.func (.func gf) #[] cap.toArray)(h:∀(b:FuncId) (W:oG),Below w.heap.size w W->W.heap.size=w.heap.size+2 ->
   W.heap[w.heap.size]? = some (.deferred (some []))->W.heap[w.heap.size+1]? = some (.loop (pD b e ps a bd w.heap.size .ready none)) ->
   Fx P (Yu P (w.heap.size+1) w.heap.size b e ps a bd) (w.heap.size+1) gf (.func (.yield (w.heap.size+1)) #[] #[]::cap) W λ_ S =>
    ∃y:Option Code,S.heap[w.heap.size+1]? = some (.loop (pD b e ps a bd w.heap.size (stY y) y)) /\
     (match y with
      | none=>N w.heap.size e (S.putObj (w.heap.size+1) (.loop (pD b e ps a bd w.heap.size .exhausted y)))
      | some (.exit i)=>X i w.heap.size e (S.putObj (w.heap.size+1) (.loop (pD b e ps a bd w.heap.size .exhausted y)))
      | some .ret=>R w.heap.size e (S.putObj (w.heap.size+1) (.loop (pD b e ps a bd w.heap.size .exhausted y)))
      | _=>False)):rfS P c N X R e w:=by subst d;exact⟨gf,cap,f,h⟩
end sound
noncomputable abbrev Q :Program:=Tryz.prog
abbrev ci(x:Int):oF:=.int .i64 x
abbrev cu(x:Int):oF:=.int .u64 x
abbrev cb(x:Int):oF:=.int .u8 x
abbrev cT:oF:=.bool true
abbrev cF:oF:=.bool false
abbrev cN:oF:=.slice none 0 0
abbrev rk(f:Func)(K:KV):KE:=Dh Q f.results.toList K
abbrev xf:Nat->KE:=λ_ _ _=>False
abbrev xx(X:Nat->KE)(N:KE)(k:Nat):Nat->KE:=λi=>@Bool.rec (λ_=>KE) (X i) N (Nat.beq i k)
def zM(f d:oD):List Nat->oD
 | [],i=>f i
 | k::l,i=>match Nat.beq k i with|true=>d i|false=>zM f d l i
def zu(_:Nat):oF:=undef
def zT(f:oD):Nat->Nat->oE->oE
 | _,0,l=>l
 | a,n+1,l=>f a::zT f (a+1) n l
def zr:List (Nat×Nat)->List Nat
 | []=>[]
 | p::l=>List.range' p.1 p.2++zr l
def zV(f:oD):Nat->oE->oD
 | _,[],i=>f i
 | a,v::l,i=>match Nat.beq a i with|true=>v|false=>zV f (a+1) l i
abbrev uu:oF:=undef
abbrev hF(S:oG->Prop)(t:TypeId)(x:oF)(f:Nat):(oF->Prop)->Prop:=hld S (ao Q t x f)
abbrev hL(S:oG->Prop)(t:TypeId)(x:oF):(oF->Prop)->Prop:=hld S (ld Q t x)
abbrev hN(S:oG->Prop)(x:oF):(oF->Prop)->Prop:=hld S (aU x)
abbrev sF(t:TypeId)(x:oF)(f:Nat):KV->oG->Prop:=sti (ao Q t x f)
abbrev sL(t:TypeId)(x:oF):KV->oG->Prop:=sti (ld Q t x)
abbrev sN(x:oF):KV->oG->Prop:=sti (aU x)
abbrev lN(t:TypeId)(x:oF):KV->oG->Prop:=blt Q .len #[t] 3 #[false] #[x]
abbrev hI(S:oG->Prop)(t:TypeId)(x i:oF):(oF->Prop)->Prop:=hld S (aW Q t x i)
abbrev sI(t:TypeId)(x i:oF):KV->oG->Prop:=sti (aW Q t x i)
abbrev nC(x:oF):KV->oG->Prop:=bin Q .add 3 false true x (ci 1)
abbrev lS(x y:oF):KV->oG->Prop:=bin Q .lss 3 false false x y
def vI:Nat->Type
 | 0=>oG->Prop
 | n+1=>oF->vI n
def vM:Nat->Type
 | 0=>oG->Nat
 | n+1=>oF->vM n
def mpK{a b:Prop}(h:a)(e:a=b:=by kernel_rfl):b:=Eq.mp e h
abbrev bT (o : BinOp) (t : TypeId) (x y : Value) : KV → World → Prop := bin Q o t false true x y
abbrev bF (o : BinOp) (t : TypeId) (x y : Value) : KV → World → Prop := bin Q o t false false x y
abbrev kY(f:Func)(p:List Nat)(N:KE)(X:Nat->KE)(K:KV):KE:=ai Q (cd f p) N X (rk f K)
abbrev kZ(f:Func)(p:List Nat)(K:KV):KE:=ai Q (cd f p) (rk f K) xf (rk f K)
def rpT(p:List Nat)(x y:Code){X:Nat->KE}{e:Env}(h:ai Q (rep p x y) N X R e w)(a:rep p x y=y:=by kernel_rfl):ai Q y N X R e w:=Eq.mp (qH (λc=>ai Q c N X R e w) a) h
def lV(c:Code)(z:List (Nat×Nat))(p:Nat)(zf:oD){Inv:oF->oG->Prop}{f:oF->oG->Nat}{B:oF->(oD)->oG->Nat->Prop}{X:Nat->KE}{e:Env}(g:Inv (gd e p) w)(j:∀a c w m,Inv a w->m=f a w->B a c w m)(i:∀b S,B (gd b p) (zM zf (gd b) (zr z)) S (f (gd b p) S)->ai Q c (λd O=>Inv (gd d p) O/\f (gd d p) O<f (gd b p) S) X R (mix (zr z) b 0 e) S)(k:(wr c).all ((zr z).contains ·)=true:=by kernel_rfl):ai Q (.loop c) N X R e w:=dC c (zr z) k (λd O=>Inv (gd d p) O) (λd O=>f (gd d p) O) g λb S h=>i b S (j _ _ S _ h rfl)
def lW(c:Code)(z:List (Nat×Nat))(p q:Nat)(zf:oD){Inv:oF->oF->oG->Prop}{g:oF->oF->oG->Nat}{B:oF->oF->(oD)->oG->Nat->Prop}{X:Nat->KE}{e:Env}(h:Inv (gd e p) (gd e q) w)(k:∀a b c w m,Inv a b w->m=g a b w->B a b c w m)(j:∀d S,B (gd d p) (gd d q) (zM zf (gd d) (zr z)) S (g (gd d p) (gd d q) S)->ai Q c (λf O=>Inv (gd f p) (gd f q) O/\g (gd f p) (gd f q) O<g (gd d p) (gd d q) S) X R (mix (zr z) d 0 e) S)(l:(wr c).all ((zr z).contains ·)=true:=by kernel_rfl):ai Q (.loop c) N X R e w:=dC c (zr z) l (λf O=>Inv (gd f p) (gd f q) O) (λf O=>g (gd f p) (gd f q) O) h λd S i=>j d S (k _ _ _ S _ i rfl)
def mpF{a b:Prop}(e:a=b:=by kernel_rfl):a->b:=Eq.mp e
def bP:Nat->Nat->List Nat->List Nat
 | 0,_,l=>l
 | k+1,n,l=>match Nat.beq n 1 with|true=>l|false=>bP k (n / 2) (n%2::l)
def b1(n:Nat):List Nat:=bP 64 n []
def vP:(l:List Nat)->vI l.length->KE
 | [],f=>λ_ w=>f w
 | n::l,f=>λe w=>vP l (f (gd e n)) e w
def vQ:(l:List Nat)->vM l.length->Env->oG->Nat
 | [],f=>λ_ w=>f w
 | n::l,f=>λe w=>vQ l (f (gd e n)) e w
theorem goK {f:FuncId} {a:Func} (h:Q.funcs[f]? = some a) (b:(a.name == "runtime.NumGoroutine")=false:=by kernel_rfl) (c:a.body.isNone=false:=by kernel_rfl):KO Q f:=⟨a,h,b,c⟩
def kx(a t4:oF)(zf:oD):=zT zf 0 3 (a::t4::zT zf 5 17 ([]))
def fH(a:oF)(zf:oD):=zT zf 0 3 (a::zT zf 4 18 ([]))
def dD(K:KV):KE:=kZ f79 [1,1,1] K
def vY(K:KV):KE:=ai Q (cd f79 [1,1,0,1]) (dD K) xf (rk f79 K)
def eh(K:KV):KE:=kY f79 (b1 117) (dD K) (xx xf (dD K) 0) K
def vZ(K:KV):KE:=ai Q (cd f79 (b1 116)) (eh K) (xx xf (dD K) 0) (rk f79 K)
def fe(K:KV):KE:=kY f79 (b1 465) (eh K) (xx (xx xf (dD K) 0) (eh K) 4) K
def wc(K:KV):KE:=ai Q (cd f79 (b1 464)) (fe K) (xx (xx xf (dD K) 0) (eh K) 4) (rk f79 K)
def nT(K:KV):KE:=kY f79 (b1 1857) (fe K) (xx (xx (xx xf (dD K) 0) (eh K) 4) (fe K) 3) K
def we(K:KV):KE:=ai Q (cd f79 (b1 1856)) (nT K) (xx (xx (xx xf (dD K) 0) (eh K) 4) (fe K) 3) (rk f79 K)
def WL(h:vY K (kx (ci 0) H (zV (zV zu 0 [H]) 2 [ci 0])) w):Gives Q 79 #[H] w K:=by refine au func79 kr <|rpT [1,1,0,1] (cd f79 [1,1,0,1]) (cd f79 []) ?_;revert h;delta vY dD;generalize (cd f79 [1,1,0,1])=xc0;exact mpF
def tn(h:vZ K (kx H Z zf) w):vY K (kx H Z zf) w:=by delta vY;refine rpT [0,0] (cd f79 (b1 116)) (cd f79 [1,1,0,1]) ?_;revert h;delta vZ eh;generalize (cd f79 (b1 116))=xc0;exact mpF
def tq(h:wc K (kx H Z zf) w):vZ K (kx H Z zf) w:=by delta vZ;refine rpT [0,0] (cd f79 (b1 464)) (cd f79 (b1 116)) ?_;revert h;delta wc fe;generalize (cd f79 (b1 464))=xc0;exact mpF
def tt(h:we K (kx H Z zf) w):wc K (kx H Z zf) w:=by delta wc;refine rpT [0,0] (cd f79 (b1 1856)) (cd f79 (b1 464)) ?_;revert h;delta we nT;generalize (cd f79 (b1 1856))=xc0;exact mpF
abbrev IW(K:KV)(hA0 hA1 hA2 hA3:KE)(X1 Z1:oF)(zf:oD)(w:oG):Prop :=
  bT .eql 3 Z1 (ci 8) (λa w=>cond a (bT .add 3 X1 (ci 32) (λb=>hA0 (fH b (zV (zV zf 4 [Z1,a,a]) 13 [X1,b]))) w) (bT .eql 3 Z1 (ci 4) (λb w=>cond b (hA0 (fH X1 (zV zf 4 [Z1,a,a,b,b])) w) (bT .eql 3 Z1 (ci 2) (λc w=>cond c (hA1 (fH X1 (zV zf 4 [Z1,a,a,b,b,c,c])) w) (bT .eql 3 Z1 (ci 1) (λd w=>cond d (hA2 (fH X1 (zV zf 4 [Z1,a,a,b,b,c,c,d,d])) w) (hA3 (fH X1 (zV zf 4 [Z1,a,a,b,b,c,c,d,d])) w)) w)) w)) w)) w
def Tr(a:KE)(b:KE)(c:KE)(d:KE)(h:IW K a d c b H Z zf w):ai Q (cd f79 (b1 1856)) a (xx (xx (xx xf b 0) c 4) d 3) (rk f79 K) (kx H Z zf) w:=Eq.mp kr h
def tu(h:IW K (nT K) (fe K) (eh K) (dD K) H Z zf w):we K (kx H Z zf) w:=by delta we;exact Eq.mp (qH (λc=>ai Q c (nT K) (xx (xx (xx xf (dD K) 0) (eh K) 4) (fe K) 3) (rk f79 K) (kx H Z zf) w) (by kernel_rfl:(cd f79 (b1 1856))=(cd f79 (b1 1856)))) (Tr (nT K) (dD K) (eh K) (fe K) h)
abbrev IX(K:KV)(hA0:KE)(X1:oF)(zf:oD)(w:oG):Prop :=
  bT .add 3 X1 (ci 16) (λa=>hA0 (fH a (zV zf 15 [X1,a]))) w
def Ts(a:KE)(b:KE)(c:KE)(h:IX K a H zf w):ai Q (cd f79 (b1 1857)) a (xx (xx (xx xf b 0) c 4) a 3) (rk f79 K) (fH H zf) w:=Eq.mp kr h
def IY(h:IX K (fe K) H zf w):nT K (fH H zf) w:=by delta nT;exact Eq.mp (qH (λc=>ai Q c (fe K) (xx (xx (xx xf (dD K) 0) (eh K) 4) (fe K) 3) (rk f79 K) (fH H zf) w) (by kernel_rfl:(cd f79 (b1 1857))=(cd f79 (b1 1857)))) (Ts (fe K) (dD K) (eh K) h)
def BX(h:bT .add 3 H (ci 8) (λa=>eh K (fH a (zV zf 17 [H,a]))) w):fe K (fH H zf) w:=by delta fe;revert h;exact mpF
def xa(h:bT .add 3 H (ci 8) (λa=>dD K (fH a (zV zf 19 [H,a]))) w):eh K (fH H zf) w:=by delta eh;revert h;exact mpF
def tw(h:K H w):dD K (fH H zf) w:=mpK h
attribute [irreducible] dD vY eh vZ fe wc nT we
def Da(c a b:oF)(zf:oD):=zf 0::c::zT zf 2 6 (a::b::zT zf 10 31 ([]))
def PX(a:oF)(zf:oD):=zT zf 0 9 (a::zT zf 10 31 ([]))
def yZ(K:KV):KE:=ai Q (cd f118 [1,1,1,1]) (rk f118 K) xf (rk f118 K)
def tj(K:KV):KE:=kZ f118 (b1 63) K
def Db(K:KV):KE:=ai Q (cd f118 (b1 250)) (tj K) (xx xf (tj K) 1) (rk f118 K)
def ZU(h:call Q 79 #[H] (λa=>bT .eql 3 a (ci 0) λh w=>cond h (K (.tuple #[cN,ci 1]) w) (bF .shr 36 U a (λc=>bT .gtr 36 c (cu 0) λb w=>cond b (K (.tuple #[cN,ci 6]) w) (lN 101 Z (λd=>bF .add 3 d H λe=>mkS Q 101 (ci 0) e λf=>blt Q .append #[101,101] 101 #[false,false] #[f,Z] λg=>yZ K (Da U a g (zV (zV (zV (zV zu 0 [Z]) 2 [H]) 6 [cN,ci 0]) 10 [H,a,h,a,h,b,U,a,c,b,Z,d,H,e,f,Z,g]))) w)) w)) w):Gives Q 118 #[Z,U,H] w K:=by refine au func118 kr <|rpT [1,1,1,1] (cd f118 [1,1,1,1]) (cd f118 []) ?_;revert h;delta yZ;generalize (cd f118 [1,1,1,1])=xc0;exact mpF
def WI(h:bT .sub 3 H (ci 8) (λa=>Db K (Da U a Z (zV zf 27 [H,a]))) w):yZ K (Da U H Z zf) w:=mpK h
def WJ(Inv:oF->oF->oG->Prop)(μ:oF->oF->oG->Nat)(k:Inv U Z w)(l:∀(a b:oF) (j:oD) (w:oG) (m:Nat),Inv a b w->m=μ a b w ->
  bT .geq 3 a (ci 0) (λc w=>cond c (bF .shr 36 H a (λf=>conv Q 36 5 f λg=>bM Q 101 1 #[(0,g)] λi=>blt Q .append #[101,101] 101 #[false,false] #[b,i] λe=>bT .sub 3 a (ci 8) λd w=>(Inv d e w)/\((μ d e w)<m)) w) (tj K (PX b (zV (zV (zV j 1 [H]) 8 [a]) 29 [a,c])) w)) w):Db K (Da H U Z zf) w:=by refine lW (cd f118 (b1 500)) [(8,2),(29,11)] 8 9 zf k l ?_;intro n o;exact mpF
def WK(h:K (.tuple #[H,ci 0]) w):tj K (PX H zf) w:=mpK h
attribute [irreducible] yZ tj Db
def ux(d b a e c:oF)(zf:oD):=d::b::a::zT zf 3 3 (e::zT zf 7 4 (c::zT zf 12 36 ([])))
def Oe(c b a d:oF)(zf:oD):=c::b::a::zT zf 3 3 (d::zT zf 7 41 ([]))
def Of(e a b c d:oF)(zf:oD):=zT zf 0 6 (e::a::zT zf 8 26 (b::c::d::zT zf 37 11 ([])))
def Og(b a:oF)(zf:oD):=zT zf 0 6 (b::a::zT zf 8 40 ([]))
def pn(K:KV):KE:=kZ f66 [1,1] K
def po(K:KV):KE:=kY f66 [1,0,0,1] (pn K) (xx xf (pn K) 0) K
def xt(K:KV):KE:=ai Q (cd f66 (b1 49)) (po K) (xx xf (pn K) 0) (rk f66 K)
def rU(K:KV):KE:=kZ f66 [1,1,1,1] K
def BD(K:KV):KE:=ai Q (cd f66 (b1 122)) (rU K) (xx xf (rU K) 1) (rk f66 K)
def Yi(h:call Q 79 #[H] (λa=>bT .eql 3 a (ci 0) λb=>xt K (ux Z U H (cu 0) b (zV (zV zu 7 [ci 0,ci 0]) 12 [H,a,b]))) w):Gives Q 66 #[Z,U,H] w K:=by refine au func66 kr <|rpT [1,0,0,0,1] (cd f66 (b1 49)) (cd f66 []) ?_;revert h;delta xt pn po;generalize (cd f66 (b1 49))=xc0;exact mpF
def Ki(h:cond J (po K (ux Z H U Y J zf) w) (bT .lss 3 H (ci 0) (λa w=>cond a (po K (ux Z H U Y a (zV zf 15 [H,a])) w) (lN 101 Z (λb=>bF .gtr 3 H b λc=>po K (ux Z H U Y c (zV zf 15 [H,a,H,Z,b,c]))) w)) w)):xt K (ux Z H U Y J zf) w:=by delta xt;revert h;exact mpF
def Dc(h:cond Y (K (.tuple #[cu 0,ci 0,ci 1]) w) (lN 101 Z (λb=>bF .sub 3 b U λc=>lS c H λa w=>cond a (K (.tuple #[cu 0,ci 0,ci 5]) w) (pn K (Oe Z U H J (zV (zV zf 11 [Y]) 21 [a,Z,b,U,c,H,a])) w)) w)):po K (ux Z U H J Y zf) w:=by delta po;revert h;exact mpF
def Vn(h:bF .add 3 H Z (λa=>slc Q 101 U (some H) (some a) none λY=>lN 101 Y λC=>BD K (Of J a Y C (ci 0) (zV (zV zf 0 [U,H,Z]) 28 [H,Z,a,U,H,a]))) w):pn K (Oe U H Z J zf) w:=mpK h
def Vm(Inv:oF->oF->oG->Prop)(μ:oF->oF->oG->Nat)(l:Inv U J w)(n:∀(b a:oF) (k:oD) (w:oG) (m:Nat),Inv b a w->m=μ b a w ->
  lS a Z (λc w=>cond c (aW Q 101 H a (λf=>ld Q 5 f λg=>bT .shl 36 b (cu 8) λi=>conv Q 5 36 g λj=>bF .or 36 i j λd=>nC a λe w=>(Inv d e w)/\((μ d e w)<m)) w) (rU K (Og b Y (zV k 34 [H,Z,a,c])) w)) w):BD K (Of U Y H Z J zf) w:=by refine lW (cd f66 (b1 244)) [(6,1),(10,1),(36,10)] 6 36 zf l n ?_;intro o p;exact mpF
def Vo(h:K (.tuple #[H,Z,ci 0]) w):rU K (Og H Z zf) w:=mpK h
attribute [irreducible] pn po xt rU BD
def VV(h:bT .eql 101 H cN (λa w=>cond a (K cN w) (bM Q 101 0 #[] (λa=>blt Q .append #[101,101] 101 #[false,false] #[a,H] K) w)) w):Gives Q 58 #[H] w K:=au func58 kr (mpK h)
def rM(a:Option Addr)(i:Nat):Addr:=match a with|some ⟨b,o,_⟩=>⟨b,o+i,none⟩|none=>default
theorem uW(b o i:Nat)(s:Option Nat):rM (some ⟨b,o,s⟩) i=⟨b,o+i,none⟩:=rfl
structure RV(w:oG) (a:Option Addr) (n c:Nat) (xs:oE):Prop where
 len:xs.length=n
 cap:n<=c
 some_:0<n->∃b o,a=some ⟨b,o,none⟩
 nil_:a=none->n=0/\c=0
 cell:∀i v,xs[i]? = some v->w.cell? (rM a i)=some v
def RV.below{B:Nat}{n:Nat}(h:RV w a n c xs)(f:Below B w S)(e:w.heap.size<=B):RV S a n c xs :=
 ⟨h.len,h.cap,h.some_,h.nil_,λi v d=>by
  have b:=zB w _ (h.cell i v d)
  rw[f.cell (p:=rM a i) (qQ b e)];exact h.cell i v d⟩
def RV.nil(w:oG):RV w none 0 0 []:=⟨rfl,Nat.le_refl _,λh=>qI h oo,λ_=>⟨rfl,rfl⟩,λi v h=>by simp at h⟩
def RV.cut{n:Nat}(h:RV w a n c xs)(l k m:Nat)(q:l<=k)(j:k<=m)(p:k<=n)(s:m<=c):RV w (if m=l then a else a.map (·.add (l*1))) (k-l) (m-l) ((xs.take k).drop l):=by
 refine⟨by simp[h.len];omega,by omega,?_,?_,?_⟩
 .intro t;obtain⟨b,o,rfl⟩:=h.some_ oo;by_cases d:m=l
  .omega
  .rw[oI d];exact⟨b,o+l,by simp[Addr.add]⟩
 .intro e;by_cases d:m=l
  .omega
  .rw[oI d]at e;cases a with
   | none=>have:=h.nil_ rfl;omega
   | some ad=>simp at e
 .intro i v f;have r:i<k-l:=by
   have:=(gS f).1
   simp[h.len]at this;omega
  obtain⟨b,o,rfl⟩:=h.some_ oo;rw[oI oo];have g:((⟨b,o,none⟩:Addr).add (l*1))=⟨b,o+l,none⟩:=by unfold Addr.add;split<;>simp_all
  simp only[jP,g,uW]
  have:=h.cell (l+i) v (by rw[<-f,jM,List.getElem?_take];rw[oJ oo])
  rw[uW]at this;rw[Nat.add_assoc];exact this
def u8v(c:UInt8):oF:=.int .u8 (c.toNat:Int)
def RB(w:oG)(a:Option Addr)(n c:Nat)(l:List UInt8):Prop:=RV w a n c (l.map u8v)
def RB.rv{n:Nat}{l:List UInt8}(h:RB w a n c l):RV w a n c (l.map u8v):=h
def RB.len{n:Nat}{l:List UInt8}(h:RB w a n c l):l.length=n:=by simpa using RV.len h
def RB.below{B:Nat}{n:Nat}{l:List UInt8}(h:RB w a n c l)(d:Below B w S)(b:w.heap.size<=B):RB S a n c l:=RV.below h d b
def RB.cut{n:Nat}{xs:List UInt8}(h:RB w a n c xs)(l k m:Nat)(e:l<=k)(b:k<=m)(d:k<=n)(f:m<=c):RB w (if m=l then a else a.map (·.add (l*1))) (k-l) (m-l) ((xs.take k).drop l):=by
 have:=RV.cut h l k m e b d f
 simpa[RB,List.map_drop,List.map_take]using this
def RB.cell{n:Nat}{l:List UInt8}(h:RB w a n c l)(i:Nat)(hi:i<l.length):w.cell? (rM a i)=some (.int .u8 (l[i].toNat:Int)) :=
 RV.cell h i _ (by simp[gE hi,u8v])
def OV(w:oG)(B:Nat)(E:TypeId)(a:Option Addr)(n c:Nat)(xs:oE):Prop:=w.ownsRow B E 1 (.slice a n c) n xs
def OV.rv{B:Nat}{n:Nat}(h:OV w B E a n c xs):RV w a n c xs:=by
 have k:xs.length=n:=by simpa using h.1
 rcases h.2 with⟨d,p⟩|⟨g,l,f,d,r,m,j,s,t,q⟩
 .simp only[Value.slice.injEq]at d;obtain⟨rfl,_,rfl⟩:=d;subst p
  have:xs=[]:=List.eq_nil_of_length_eq_zero k
  subst this;exact RV.nil w
 .simp only[Value.slice.injEq]at d;obtain⟨rfl,_,rfl⟩:=d;refine⟨k,j,λ_=>⟨g,0,rfl⟩,λe=>by simp at e,λi v b=>?_⟩;have o:i<xs.length:=(gS b).1;rw[uW,oK,cell_of_row w g i f E (0,0) m];rw[<-q]at b;rw[List.getElem?_take]at b;split at b
  .simpa using b
  .cases b
def OV.block{B:Nat}{n:Nat}(h:OV w B E a n c xs):∀k,(Value.slice a n c).ownBlock=some k->B<=k/\k<w.heap.size:=jT h
def OV.nil(w:oG)(B:Nat)(E:TypeId):OV w B E none 0 0 []:=World.ownsRow_nil w B E 1
def OV.mono{B:Nat}{n:Nat}(h:OV w B E a n c xs)(f:B'<=B):OV w B' E a n c xs:=by
 refine⟨h.1,?_⟩;rcases h.2 with e|⟨g,b,d,j,i,r⟩
 .exact .inl e
 .exact .inr ⟨g,b,d,j,qR f i,r⟩
def OV.below{B:Nat}{n:Nat}(h:OV w B E a n c xs)(j:Below D w S)(m:w.heap.size<=D):OV S B E a n c xs:=by
 refine⟨h.1,?_⟩;rcases h.2 with f|⟨g,b,d,l,i,e,r⟩
 .exact .inl f
 .have k:g<w.heap.size:=(qM.1 e).1;exact .inr ⟨g,b,d,l,i,(j.block g oo).trans e,r⟩
def bX{B:Nat}{a:Option Nat}(c:w.grownBy S a)(b:B<=w.heap.size)(d:∀k,a=some k->B<=k):Below B w S :=
 (jU B w).grown c b d
section
variable {P:Program}(w:oG)

def Yo(base:Nat)(t ty e:TypeId)(i:TypeInfo)(z:oF)(d:Nat)(H:P.underlying t=some (.slice e))(hi:P.info? e=some i)(S:i.zero=some z)(p:i.size=1)(A:i.bytes=d)(D:z.cells.size=1){n:Nat}(f:OV w base e a n c xs)(r:RV w a2 m c2 ys)(J:∀u∈ys,u.oneCell'=true)(k:(n+m)*d<=140737488355328)(M:n+m<=9223372036854775807)(l:base<=w.heap.size):∃q c' w',(Builtin.append_ #[t,t] ty #[.slice a n c,.slice a2 m c2]).run P w=.ok (.slice q (n+m) c') w'/\OV w' base e q (n+m) c' (xs++ys)/\w.grownBy w' (Value.slice a n c).ownBlock:=by
  have x:∀(s:oF) (w':oG),w'.ownsRow base e 1 s (n+m) (xs++ys)->∃q c',s=.slice q (n+m) c':=by
    intro s w' h;rcases h.2 with⟨C,B⟩|⟨g,v,I,C,_⟩
    · exact⟨none,0,by rw[C,B]⟩
    · exact⟨_,v,C⟩
  cases a2 with
  | some ad =>
    have B:∀j u,ys[j]? = some u->w.cell? (ad.add j)=some u:=by
      intro j u G;have O:j<m:=by rw[<-r.len];exact(gS G).1
      obtain⟨b,o,y⟩:=r.some_ oo;have F:=r.cell j u G;cases y;rw[uW]at F;have N:((⟨b,o,none⟩:Addr).add j)=⟨b,o+j,none⟩:=by unfold Addr.add;split<;>simp_all
      rw[N];exact F
    obtain⟨s,w',R,E,L,_⟩:=run_append_own (P:=P) w base t ty e i z 1 d H hi S p A D oo _ n xs f ad m c2 ys (by simp[r.len]) B J (by simp only[maxLen];omega) k l;obtain⟨q,c',rfl⟩:=x _ _ E;exact⟨q,c',w',R,E,L⟩
  | none =>
    obtain⟨rfl,rfl⟩:=r.nil_ rfl
    have:ys=[]:=List.eq_nil_of_length_eq_zero r.len
    subst this;refine⟨a,c,w,run_append_owned_none (P:=P) w base t ty e i 1 H hi _ n xs f,by simpa using f,World.grownBy.refl _ _⟩

variable {ops:Array Oper}{rest:List Oper}{a:Act}{Q:Exit->Act->oG->Prop}{dst:Option Tmp}{ty:TypeId}{pos:String}{after:Array Edge}

def zcz(t e:TypeId)(i:TypeInfo)(z:oF)(h:P.underlying t=some (.slice e))(hi:P.info? e=some i)(m:i.zero=some z)(a:i.size=1)(d:z.cells.size=1)(v:oF)(l:v.cells=#[v]):(Instr.buildSlice t 1 #[(0,v)]).run P w=.ok (.slice (some ⟨w.heap.size,0,none⟩) 1 1) (w.alloc (.cells #[v] e)):=by
 obtain⟨b,c⟩:∃b,z.cells=#[b]:=by
  match o:z.cells,d with
  | ⟨[b]⟩,_=>exact⟨b,rfl⟩
 have g:(Array.range 1).map (λk=>z.cells[k%z.cells.size]!)=#[b]:=by
  rw[c];apply Array.ext
  .simp
  .intro j n f
   have:j=0:=by simpa using f
   subst this;simp
 simp[Instr.buildSlice,Instr.fill,jZ h,sizeOf,typeInfo,hi,a,zeroValue,m,l,newRow,g]
end
def xF(l:List UInt8):(AA l).toList=l:=by simp[AA]
@[go_sem ↓] theorem binOp_bstr_eql (t:TypeId) (l m:List UInt8):binOp .eql t (.string (AA l)) (.string (AA m))=pure (.bool (l==m)):=by rw[binOp_string_eql,xF,xF]
@[go_sem ↓] theorem binOp_bstr_neq (t:TypeId) (l m:List UInt8):binOp .neq t (.string (AA l)) (.string (AA m))=pure (.bool (!(l==m))):=by rw[binOp_string_neq,xF,xF]
@[go_sem ↓] theorem binOp_bstr_lss (t:TypeId) (l m:List UInt8):binOp .lss t (.string (AA l)) (.string (AA m))=pure (.bool (Op.bytesLess l m)):=by rw[binOp_string_lss,xF,xF]
section
variable {P:Program}(w:oG)
variable {ops:Array Oper}{rest:List Oper}{a:Act}{Q:Exit->Act->oG->Prop}{dst:Option Tmp}{ty:TypeId}{pos:String}{after:Array Edge}

end
def fM{n:Int}(a : -9223372036854775808<=n)(b:n<=9223372036854775807):IntKind.i64.wrap n=n:=IntWalk.i64_in n ⟨a,b⟩
def eJ(n:Int):IntKind.u64.wrap n=n%18446744073709551616:=by simp[IntKind.wrap,IntKind.signed,IntKind.bits]
def NW(n:Int):IntKind.u32.wrap n=n%4294967296:=by simp[IntKind.wrap,IntKind.signed,IntKind.bits]
def Ri(n:Int):IntKind.u8.wrap n=n%256:=by simp[IntKind.wrap,IntKind.signed,IntKind.bits]
section
variable {P:Program}

def dZ{a:BinOp}{x y v:oF}(c:(eqG a t cx cy x y).run P w=.ok () w)(b:(binOp a t x y).run P w=.ok v w)(h:K v w):bin P a t cx cy x y K w:=by unfold bin;refine dR (w':=w) (v:=v) ?_ h;simp only[jY,c,jW,b]
def pe(c:BinOp)(k k':IntKind)(a b:Int):(eqG c t cx cy (.int k a) (.int k' b)).run P w=.ok () w:=by unfold eqG eqGuard;cases c<;>simp[jX]
variable {k:IntKind}{a b:Int}
def aT(h:K (.bool (decide (a=b))) w):bin P .eql t cx cy (.int k a) (.int k b) K w:=by
 refine dZ (pe ..) ?_ h
 have:(a==b)=decide (a=b):=by by_cases c:a=b<;>simp[c]
 simp[binOp,Op.intCmp,jX,this]
def aZ(h:K (.bool (decide (a≠b))) w):bin P .neq t cx cy (.int k a) (.int k b) K w:=by
 refine dZ (pe ..) ?_ h
 have:(a != b)=decide (a≠b):=by by_cases c:a=b<;>simp[c]
 simp only[binOp,Op.intCmp,ne_eq,not_true_eq_false,if_false,jX,this]
def aL(h:K (.bool (decide (a<b))) w):bin P .lss t cx cy (.int k a) (.int k b) K w:=by refine dZ (pe ..) ?_ h;simp[binOp,Op.intCmp,jX]
def iG(h:K (.bool (decide (a<=b))) w):bin P .leq t cx cy (.int k a) (.int k b) K w:=by refine dZ (pe ..) ?_ h;simp[binOp,Op.intCmp,jX]
def cH(h:K (.bool (decide (b<a))) w):bin P .gtr t cx cy (.int k a) (.int k b) K w:=by refine dZ (pe ..) ?_ h;simp[binOp,Op.intCmp,jX]
def bR(h:K (.bool (decide (b<=a))) w):bin P .geq t cx cy (.int k a) (.int k b) K w:=by refine dZ (pe ..) ?_ h;simp[binOp,Op.intCmp,jX]
def xE(h:K (.int k (k.wrap (a+b))) w):bin P .add t cx cy (.int k a) (.int k b) K w:=by refine dZ (pe ..) ?_ h;simp[binOp,Op.intArith,jX]
def nL(h:K (.int k (k.wrap (a-b))) w):bin P .sub t cx cy (.int k a) (.int k b) K w:=by refine dZ (pe ..) ?_ h;simp[binOp,Op.intArith,jX]
def VU(h:K (.int k (k.wrap (a*b))) w):bin P .mul t cx cy (.int k a) (.int k b) K w:=by refine dZ (pe ..) ?_ h;simp[binOp,Op.intArith,jX]
def aR(c : -9223372036854775808<=a+b)(d:a+b<=9223372036854775807)(h:K (ci (a+b)) w):bin P .add t cx cy (ci a) (ci b) K w :=
 xE (by rw[fM c d];exact h)
def aP(h:K (ci (a+b)) w)(c : -9223372036854775808<=a+b:=by omega)(d:a+b<=9223372036854775807:=by omega):bin P .add t cx cy (ci a) (ci b) K w:=aR c d h
def bL(c : -9223372036854775808<=a-b)(d:a-b<=9223372036854775807)(h:K (ci (a-b)) w):bin P .sub t cx cy (ci a) (ci b) K w :=
 nL (by rw[fM c d];exact h)
def sP(h:K (ci (a-b)) w)(c : -9223372036854775808<=a-b:=by omega)(d:a-b<=9223372036854775807:=by omega):bin P .sub t cx cy (ci a) (ci b) K w:=bL c d h
def Nx(c : -9223372036854775808<=a*b)(d:a*b<=9223372036854775807)(h:K (ci (a*b)) w):bin P .mul t cx cy (ci a) (ci b) K w :=
 VU (by rw[fM c d];exact h)
def zgE(c:b≠0)(h:K (.int k (a.tmod b)) w):bin P .rem t cx cy (.int k a) (.int k b) K w:=by refine dZ (pe ..) ?_ h;simp[binOp,Op.intDiv,jX,c]
def zaV(c:b≠0)(h:K (.int k (k.wrap (a.tdiv b))) w):bin P .quo t cx cy (.int k a) (.int k b) K w:=by refine dZ (pe ..) ?_ h;simp[binOp,Op.intDiv,jX,c]
def za5(c:0<=a)(d:0<b)(h:K (.int k (a%b)) w):bin P .rem t cx cy (.int k a) (.int k b) K w :=
 zgE oo (by rw[Int.tmod_eq_emod_of_nonneg c];exact h)
def Vv(c:0<=a)(d:a<=9223372036854775807)(e:0<b)(h:K (ci (a / b)) w):bin P .quo t cx cy (ci a) (ci b) K w :=
 zaV oo (by
  rw[Int.tdiv_eq_ediv_of_nonneg c,fM (Int.le_trans oo (Int.ediv_nonneg c oo)) (Int.le_trans (Int.ediv_le_self b c) d)];exact h)
def Cc(c:0<=b)(h:K (.int k (k.wrap (a*2 ^ (min b.toNat k.bits)))) w):bin P .shl t cx cy (.int k a) (.int k' b) K w:=by
 refine dZ (pe ..) ?_ h
 have : ¬b<0:=by omega
 simp[binOp,Op.shift,jX,this]
def Hq(c:0<=b)(h:K (.int k (a.fdiv (2 ^ (min b.toNat k.bits)))) w):bin P .shr t cx cy (.int k a) (.int k' b) K w:=by
 refine dZ (pe ..) ?_ h
 have : ¬b<0:=by omega
 simp[binOp,Op.shift,jX,this]
def qy(c:BinOp)(k:IntKind)(x y:Int):Int :=
 let a:=BitVec.ofInt k.bits x
 let b:=BitVec.ofInt k.bits y
 match c with
 | .and=>k.wrap (a &&& b).toNat
 | .or=>k.wrap (a ||| b).toNat
 | .xor=>k.wrap (a ^^^ b).toNat
 | _=>k.wrap (a &&& ~~~b).toNat
def VT(h:K (.int k (qy .and k a b)) w):bin P .and t cx cy (.int k a) (.int k b) K w:=by refine dZ (pe ..) ?_ h;simp[binOp,Op.intBits,jX,qy]
def Ul(h:K (.int k (qy .or k a b)) w):bin P .or t cx cy (.int k a) (.int k b) K w:=by refine dZ (pe ..) ?_ h;simp[binOp,Op.intBits,jX,qy]
def QG(h:K (.int k (qy .xor k a b)) w):bin P .xor t cx cy (.int k a) (.int k b) K w:=by refine dZ (pe ..) ?_ h;simp[binOp,Op.intBits,jX,qy]
def bc{x:Bool}(h:K (.bool (!x)) w):un P .not (.bool x) K w:=by unfold un;exact dR (by simp[Op.unary,jX]) h
def xK{p:Prop}[Decidable p](h:K (.bool (decide (¬p))) w):un P .not (.bool (decide p)) K w :=
 bc (by rw[<-decide_not];exact h)
def zjS(h:K (.int k (qy .xor k (if k.signed then -1 else k.max) a)) w):un P .xor (.int k a) K w:=by unfold un;exact dR (by simp only[Op.unary,Op.intBits,jX];rfl) h
def dE{s d:TypeId}{b:TypeDesc}(e:P.underlying s=some b)(c:P.underlying d=some (.int k'))(h:K (.int k' (k'.wrap a)) w):conv P s d (.int k a) K w:=by
 unfold conv
 refine dR (w':=w) ?_ h;cases b<;>simp[convert,jZ e,jZ c,Conv.intToInt,jX]
def sU{vs:Array oF}{v:oF}(a:vs[i]? = some v)(h:K v w):ext P (.tuple vs) i K w:=by unfold ext;exact dR (by simp[Instr.extract,a,jX]) h
def bo{a b:oF}(h:K a w):ext P (.tuple #[a,b]) 0 K w:=sU rfl h
def bj{a b:oF}(h:K b w):ext P (.tuple #[a,b]) 1 K w:=sU rfl h
def UK{a b c:oF}(h:K a w):ext P (.tuple #[a,b,c]) 0 K w:=sU rfl h
def UL{a b c:oF}(h:K b w):ext P (.tuple #[a,b,c]) 1 K w:=sU rfl h
def UM{a b c:oF}(h:K c w):ext P (.tuple #[a,b,c]) 2 K w:=sU rfl h
def bI{x y:oF}{p:Prop}[Decidable p](a:p)(h:K x w):pick (.bool (decide p)) x y K w:=⟨_,rfl,by simp[a,h]⟩
def bw{x y:oF}{p:Prop}[Decidable p](a : ¬p)(h:K y w):pick (.bool (decide p)) x y K w:=⟨_,rfl,by simp[a,h]⟩
def cA{x y:oF}(h:K x w):pick (.bool true) x y K w:=⟨_,rfl,h⟩
def bZ{x y:oF}(h:K y w):pick (.bool false) x y K w:=⟨_,rfl,h⟩
def P8{p:Prop}[Decidable p]{A B:Prop}(a:p->A)(b : ¬p->B):cond (.bool (decide p)) A B:=⟨_,rfl,λh=>a (by simpa using h),λh=>b (by simpa using h)⟩
def ay{p:Prop}[Decidable p]{A B:Prop}(b:p)(h:A):cond (.bool (decide p)) A B:=⟨_,rfl,λ_=>h,λa=>qI b (by simpa using a)⟩
def ax{p:Prop}[Decidable p]{A B:Prop}(b : ¬p)(h:B):cond (.bool (decide p)) A B:=⟨_,rfl,λa=>qI (by simpa using a) b,λ_=>h⟩
def cOt{p:Prop}[Decidable p]{A B:Prop}(h:A)(a:p:=by omega):cond (.bool (decide p)) A B:=ay a h
def cOf{p:Prop}[Decidable p]{A B:Prop}(h:B)(a : ¬p:=by omega):cond (.bool (decide p)) A B:=ax a h
def aV{A B:Prop}(h:A):cond (.bool true) A B:=⟨_,rfl,λ_=>h,(λa=>by cases a)⟩
def aA{A B:Prop}(h:B):cond (.bool false) A B:=⟨_,rfl,(λa=>by cases a),λ_=>h⟩
def ziC{c:Bool}{A B:Prop}(a:c=true->A)(b:c=false->B):cond (.bool c) A B:=⟨c,rfl,a,b⟩
def ah{s:KV->oG->Prop}{k:KV}{v:oF}(h:∀K:KV,K v w->s K w)(a:k v w):sti s k w:=⟨v,h _ ⟨rfl,rfl⟩,a⟩
variable {A B:(oE->oG->Prop)->Prop}{KL:oE->oG->Prop}
def UQ{v:oF}(b:v=.bool cx)(h:A KL):aM v cx A B KL:=⟨λ_=>h,λa=>qI (by rw[b];rfl) a⟩
def Ij{v:oF}(b:asB v≠some cx)(h:B KL):aM v cx A B KL:=⟨λa=>qI a b,λ_=>h⟩
def bU{p:Prop}[Decidable p](b:p)(a:A KL):aM (.bool (decide p)) true A B KL:=UQ (by simp[b]) a
def cJ{p:Prop}[Decidable p](b : ¬p)(a:B KL):aM (.bool (decide p)) true A B KL:=Ij (by simp[asB,b]) a
def mF{p:Prop}[Decidable p](b:p)(a:B KL):aM (.bool (decide p)) false A B KL:=Ij (by simp[asB,b]) a
def df{p:Prop}[Decidable p](b : ¬p)(a:A KL):aM (.bool (decide p)) false A B KL:=UQ (by simp[b]) a
def kN(a:A KL):aM (.bool true) true A B KL:=UQ rfl a
def iH(a:B KL):aM (.bool true) false A B KL:=Ij (by simp[asB]) a
def fF(a:A KL):aM (.bool false) false A B KL:=UQ rfl a
def zdg(a:B KL):aM undef cx A B KL:=Ij (λh=>by cases h) a
def kj(a:B KL):aM (.bool false) true A B KL:=Ij (by simp[asB]) a
def aj{f:FuncId}{a:Array oF}(b:KO P f)(h:Gives P f a w K):call P f a K w:=⟨b,h⟩
def qz{c:Builtin}{b:Array TypeId}{cs:Array Bool}{a:Array oF}{v:oF}(d:(builtin c b E cs a).run P w=.ok (.value v) w')(h:K v w'):blt P c b E cs a K w:=by unfold blt;rw[d];exact h
def bv{cs:Array Bool}{n:Nat}(a:P.underlying t=some (.slice e))(h:K (ci (n:Int)) w):blt P .len #[t] E cs #[.slice av n c] K w :=
 qz (by rw[BigFrame.builtin_len];simp[Builtin.len_,jZ a,jX,goInt]) h
def zaU{cs:Array Bool}{base:Nat}{i:TypeInfo}{z:oF}(v:P.underlying t=some (.slice e))(hi:P.info? e=some i)(y:i.zero=some z)(d:i.size=1)(k:i.bytes=o)(l:z.cells.size=1){n:Nat}(f:OV w base e av n c xs)(x:RV w a2 m c2 ys)(p:∀u∈ys,u.oneCell'=true)(a:(n+m)*o<=140737488355328)(j:n+m<=9223372036854775807)(b:base<=w.heap.size)(h:∀g c' S,OV S base e g (n+m) c' (xs++ys)->w.grownBy S (Value.slice av n c).ownBlock->K (.slice g (n+m) c') S):blt P .append #[t,t] E cs #[.slice av n c,.slice a2 m c2] K w:=by  obtain⟨g,c',S,s,q,r⟩:=Yo (P:=P) w base t E e i z o v hi y d k l f x p a j b;exact qz (by rw[BigFrame.builtin_append];simp only[jY,s,jW,jX]) (h g c' S q r)
def LI(j:P.underlying t=some (.slice e))(i:∀w,(sizeOf e).run P w=.ok 1 w){n:Nat}(d:0<=x)(f:x<n)(a:0<n->∃b o,av=some ⟨b,o,none⟩)(h:K (.pointer (some (rM av x.toNat))) w):aW P t (.slice av n c) (.int k x) K w:=by
 obtain⟨b,o,rfl⟩:=a oo;have g:((⟨b,o,none⟩:Addr).add x.toNat)=⟨b,o+x.toNat,none⟩:=by unfold Addr.add;split<;>simp_all
 unfold aW;refine dR (w':=w) ?_ h;simp only[Instr.indexAt,asIntOf,jY,jX,jW,jZ j,i,d,f,and_self,if_true,Nat.mul_one,g];rfl
def UX{a:Addr}{v:oF}(b:(loadVar t a).run P w=.ok v w)(h:K v w):ld P t (.pointer (some a)) K w:=by unfold ld;exact dR (by simp only[Instr.loadAt,Instr.sureAddr,jY,jX,jW,b]) h
def vS{a:Addr}{v:oF}(b:∀w,(isAgg t).run P w=.ok false w)(c:w.cell? a=some v)(h:K v w):ld P t (.pointer (some a)) K w:=by refine UX ?_ h;simp[loadVar,jY,b,load,c,Sem.run]
def zfQ{ad:Addr}{v u:oF}(e:∀w,(sizeOf t).run P w=.ok 1 w)(g:v.oneCell'=true)(a:v.cells=#[v])(c:w.cell? ad=some u)(d:w.frozen? ad=false)(f:ad.spot=none)(h:K undef (w.setCell ad v)):sto P t (.pointer (some ad)) v K w:=by unfold sto;have b:ad.add 0=ad:=rfl;refine Vp (w':=w.setCell ad v) (u:=()) ?_ h;simp[Instr.storeAt,Instr.sureAddr,storeVar,jY,e,a,storeCells,store,b,c,d];cases v<;>simp_all [Value.oneCell',Sem.run]
def zjJ(z:P.underlying t=some (.slice e))(x:∀w,(sizeOf e).run P w=.ok 1 w){n:Nat}{l:Nat}(q:RV w av n c xs){d hi:Option oF}(j:(d=none/\l=0)\/∃k,d=some (.int k (l:Int)))(g:(hi=none/\m=n)\/∃k,hi=some (.int k (m:Int)))(b:l<=m)(o:m<=n)(h:∀p,RV w p (m-l) (c-l) ((xs.take m).drop l)->K (.slice p (m-l) (c-l)) w):slc P t (.slice av n c) d hi none K w:=by
 have v:=q.cap;have f:∀(k:IntKind) (i y:Nat) (a:BoundsCode),i<=y->(Instr.sliceBound (.int k (i:Int)) y a).run P w=.ok i w:=by
  intro k i y a hi
  have:=run_sliceBound (P:=P) w k (i:Int) y a oo oo
  simpa using this
 have u:(Instr.sliceBounds true n c d hi none).run P w=.ok (l,m,c) w:=by
  rcases j with⟨rfl,rfl⟩|⟨s,rfl⟩<;>rcases g with⟨rfl,rfl⟩|⟨r,rfl⟩
  .simp[Instr.sliceBounds]
  .simp[Instr.sliceBounds,f r m c _ oo]
  .simp[Instr.sliceBounds,f s l m _ b]
  .simp[Instr.sliceBounds,f r m c _ oo,f s l m _ b]
 unfold slc;refine dR (w':=w) ?_ (h _ (q.cut l m c b oo o oA));simp only[Instr.sliceAt,Instr.slice,jY,jX,jW,jZ z,x,u]
def zg6{i:TypeInfo}{z:oF}(d:P.underlying t=some (.slice e))(hi:P.info? e=some i)(g:i.zero=some z)(a:i.size=1)(c:z.cells.size=1){v:oF}(f:v.cells=#[v])(h:RV (w.alloc (.cells #[v] e)) (some ⟨w.heap.size,0,none⟩) 1 1 [v]->K (.slice (some ⟨w.heap.size,0,none⟩) 1 1) (w.alloc (.cells #[v] e))):bM P t 1 #[(0,v)] K w:=by
 unfold bM;refine dR (zcz w t e i z d hi g a c v f) (h ⟨rfl,Nat.le_refl _,λ_=>⟨_,_,rfl⟩,(λh=>by simp at h),λj u b=>?_⟩)
 have:j=0:=by
  have:=(gS b).1
  simpa using this
 subst this;simp at b;subst b;rw[uW,World.cell?_alloc_at _ _ _ _ rfl];rfl
def zl1{base:Nat}{i:TypeInfo}{z:oF}(o:P.underlying t=some (.slice e))(hi:P.info? e=some i)(p:i.zero=some z)(b:i.size=1)(f:i.bytes=c){C:Int}{n:Nat}(l:C=(n:Int))(j:c*n<=281474976710656)(s:n<=9223372036854775807)(a:base<=w.heap.size)(h:∀g S,OV S base e g 0 n []->Below w.heap.size w S->K (.slice g 0 n) S):mkS P t (.int k' 0) (.int Q0 C) K w:=by  subst l;obtain⟨S,d,q,r⟩:=run_make_own (P:=P) w base t e i z 1 o hi p b k' Q0 n (by rw[f];exact j) (by simp only[maxLen];omega) a;unfold mkS;exact dR d (h _ S q (bX r oA (λk m=>by cases m)))
def zka{i:TypeInfo}{base:Nat}(j:P.underlying t=some (.slice e))(hi:P.info? e=some i)(b:i.size=1)(a:base<=w.heap.size)(h:∀c w',OV w' base e c 0 0 []->Below w.heap.size w w'->K (.slice c 0 0) w'):bM P t 0 #[] K w:=by
 unfold bM;refine dR (w':=w.alloc (.cells #[] e)) (v:=.slice (some ⟨w.heap.size,0,none⟩) 0 0) ?_ (h _ _ (World.ownsRow_made w #[] 0 a (qG _) rfl) (bX (World.grownBy_alloc _ _ none) oA (λk g=>by cases g)));have d:∀f:oD,(Array.range 0).map f=#[]:=λf=>by apply Array.ext<;>simp
 simp[Instr.buildSlice,Instr.fill,jZ j,sizeOf,typeInfo,hi,b,newRow,d]
def Z9{n:Nat}(a:P.underlying t=some (.slice e))(h:K (.bool av.isNone) w):bin P .eql t cx cy (.slice av n c) (.slice none 0 0) K w:=by refine dZ (by unfold eqG eqGuard;simp[jX]) ?_ h;simp only[binOp,jY,run_equal_slice_nil w t e av n c a,jW,jX]
def WN{n:Nat}(h:n<72057594037927936)(g:c<256):qy .or .u64 (IntKind.u64.wrap ((n:Int)*2 ^ (min (8:Int).toNat IntKind.u64.bits))) (c:Int)=((n*256+c:Nat):Int):=by
 have e:(2:Int) ^ (min (8:Int).toNat IntKind.u64.bits)=256:=rfl;rw[e,eJ];have d:((n:Int)*256)%18446744073709551616=((n*256:Nat):Int):=by omega
 rw[d];unfold qy;have f:IntKind.u64.bits=64:=rfl;simp only[f,eJ]
 have:(BitVec.ofInt 64 ((n*256:Nat):Int) ||| BitVec.ofInt 64 ((c:Nat):Int)).toNat=n*256+c:=by
  rw[BitVec.toNat_or,BitVec.ofInt_natCast,BitVec.ofInt_natCast,BitVec.toNat_ofNat,BitVec.toNat_ofNat];rw[Nat.mod_eq_of_lt oo,Nat.mod_eq_of_lt oo];have a:=Nat.shiftLeft_add_eq_or_of_lt (i:=8) (b:=c) oo n;rw[Nat.shiftLeft_eq]at a;rw[<-a]
 show ((BitVec.ofInt 64 ((n*256:Nat):Int) ||| BitVec.ofInt 64 ((c:Nat):Int)).toNat:Int)%18446744073709551616=_;rw[this];omega
def HB:Nat->oE->List (Nat×oF)
 | _,[]=>[]
 | k,v::vs=>(k,v)::HB (k+1) vs
def zc4(z:oF):∀(vs:oE) (a:oE) (b:Nat),(∀v∈vs,v.cells=#[v])->vs.length<=b ->
  Instr.fill (λi=>some (i*1,1)) (a++List.replicate b z).toArray (HB a.length vs)=some (a++vs++List.replicate (b-vs.length) z).toArray:=by
 intro vs
 induction vs with
 | nil=>intro a b _ _;simp[HB,Instr.fill]
 | cons v vs ih =>
  intro a b f k;simp only[oZ]at k;obtain⟨d,rfl⟩:∃s,b=s+1:=⟨b-1,by omega⟩
  have h:=f v (oL ..);have e:=ih (a++[v]) d (λx l=>f x (oH _ l)) oo;simp only[oT,oZ,List.length_nil,oK]at e;simp only[HB,Instr.fill,h];rw[oI oB]
  have:(#[v].zipIdx.foldl (λg (c,j)=>g.setIfInBounds (a.length*1+j) c) (a++List.replicate (d+1) z).toArray)=(a++[v]++List.replicate d z).toArray:=by
   simp[List.replicate_succ]
  rw[this,e];simp[jE]
def zcA{i:TypeInfo}{z:oF}(m:P.underlying t=some (.slice e))(hi:P.info? e=some i)(o:i.zero=some z)(a:i.size=1)(f:z.cells=#[z])(vs:oE)(l:vs.length≠0)(h:vs.length<=1000000)(n:∀v∈vs,v.cells=#[v]):(Instr.buildSlice t vs.length (HB 0 vs).toArray).run P w=.ok (.slice (some ⟨w.heap.size,0,none⟩) vs.length vs.length) (w.alloc (.cells vs.toArray e)):=by
 have c:(Array.range (vs.length*1)).map (λk=>z.cells[k%z.cells.size]!)=(([]:oE)++List.replicate vs.length z).toArray:=by
  rw[f];apply Array.ext
  .simp
  .intro j p q;simp[Nat.mod_one]
 have b:=zc4 z vs [] vs.length n oA;simp only[List.length_nil,oV,jO,List.replicate_zero,oW]at b c;have g : ¬(16777216<vs.length):=by omega
 have d:¬vs=[]:=λe=>l (by rw[e];rfl);simp only[Nat.mul_one]at c b;rw[List.toArray_replicate]at b c;simp[Instr.buildSlice,jZ m,sizeOf,typeInfo,hi,a,zeroValue,o,newRow,c,b,d,g]
def zaW{i:TypeInfo}{z:oF}{n:Nat}{f:Array (Nat×oF)}(l:n=vs.length)(c:f=(HB 0 vs).toArray)(m:P.underlying t=some (.slice e))(hi:P.info? e=some i)(p:i.zero=some z)(a:i.size=1)(d:z.cells=#[z])(g:vs.length≠0)(b:vs.length<=1000000)(o:∀v∈vs,v.cells=#[v])(h:OV (w.alloc (.cells vs.toArray e)) w.heap.size e (some ⟨w.heap.size,0,none⟩) vs.length vs.length vs->Below w.heap.size w (w.alloc (.cells vs.toArray e)) ->
   K (.slice (some ⟨w.heap.size,0,none⟩) vs.length vs.length) (w.alloc (.cells vs.toArray e))):bM P t n f K w:=by subst l c;unfold bM;refine dR (zcA m hi p a d vs g b o) (h ⟨by simp,.inr ⟨w.heap.size,vs.length,vs.toArray,rfl,Nat.le_refl _,heap_alloc_new w _,Nat.le_refl _,?_,by simp,by simp⟩⟩ (bX (World.grownBy_alloc _ _ none) oA (λk j=>by cases j)));simp only[maxLen];omega
def zjK(d:P.underlying t=some (.slice e))(b:∀w,(sizeOf e).run P w=.ok 1 w){n:Nat}{k:IntKind}(f:m<=c)(h:K (.slice av m c) w):slc P t (.slice av n c) none (some (.int k (m:Int))) none K w:=by
 have a:(Instr.sliceBounds true n c none (some (.int k (m:Int))) none).run P w=.ok (0,m,c) w:=by
  have:=run_sliceBound (P:=P) w k (m:Int) c .sliceAcap oo oo
  simp[Instr.sliceBounds]at this |-;rw[this];simp
 unfold slc;refine dR (w':=w) ?_ h;simp only[Instr.sliceAt,Instr.slice,jY,jX,jW,jZ d,b,a];cases av<;>simp[Addr.add]
end
def Cr:∀w,(sizeOf 5).run Q w=.ok 1 w:=λ_=>by kernel_rfl
def LJ:(Tryz.prog.info? 5).map (λi=>(i.zero,i.size,i.bytes))=some (some (.int .u8 0),1,1):=by kernel_rfl
def zcm(l:List UInt8):∀u∈l.map u8v,u.oneCell'=true:=by intro u a;obtain⟨_,_,rfl⟩:=qU.1 a;rfl
def OB(w:oG)(B:Nat)(a:Option Addr)(n c:Nat)(l:List UInt8):Prop:=OV w B 5 a n c (l.map u8v)
def OB.rb{B:Nat}{n:Nat}{l:List UInt8}(h:OB w B a n c l):RB w a n c l:=OV.rv h
def OB.below{B:Nat}{n:Nat}{l:List UInt8}(h:OB w B a n c l)(d:Below D w S)(b:w.heap.size<=D):OB S B a n c l:=OV.below h d b
def OB.nil(w:oG)(B:Nat):OB w B none 0 0 []:=OV.nil w B _
def OB.len{B:Nat}{n:Nat}{l:List UInt8}(h:OB w B a n c l):l.length=n:=(OB.rb h).len
def zkV{a:Int}(b:0<=a)(c:a<=18446744073709551615)(h:K (.int .u64 a) w):conv Q 3 36 (ci a) K w :=
 dE underlying3 underlying36 (by rw[eJ,show a%18446744073709551616=a by omega];exact h)
def wW{cs:Array Bool}{n:Nat}(h:K (ci (n:Int)) w):blt Q .len #[101] E cs #[.slice av n c] K w:=bv underlying101 h
def OT{cs:Array Bool}(base:Nat){n:Nat}{xs:List UInt8}{ys:List UInt8}(b:OB w base av n c xs)(o:RB w a2 m c2 ys)(e:n+m<=140737488355328)(a:base<=w.heap.size)(h:∀d c' S,OB S base d (n+m) c' (xs++ys)->w.grownBy S (Value.slice av n c).ownBlock->K (.slice d (n+m) c') S):blt Q .append #[101,101] E cs #[.slice av n c,.slice a2 m c2] K w:=by obtain⟨i,k,p,g,f⟩:=info_parts LJ;refine zaU underlying101 k p g f rfl b o (zcm ys) oo oo a ?_;intro d c' S l j;exact h d c' S (by simpa[OB]using l) j
def zir{v:oF}{c:UInt8}(g:v=u8v c)(h:∀S,Below w.heap.size w S->RB S (some ⟨w.heap.size,0,none⟩) 1 1 [c]->S.heap.size=w.heap.size+1->K (.slice (some ⟨w.heap.size,0,none⟩) 1 1) S):bM Q 101 1 #[(0,v)] K w:=by obtain⟨i,d,j,a,b⟩:=info_parts LJ;subst g;exact zg6 underlying101 d j a rfl rfl λf=>h _ (bX (World.grownBy_alloc _ _ none) oA (λk e=>by cases e)) f oB
def mk8{C:Int}(base n:Nat)(e:C=(n:Int))(j:n<=140737488355328)(d:base<=w.heap.size)(h:∀c S,OB S base c 0 n []->Below w.heap.size w S->K (.slice c 0 n) S):mkS Q 101 (.int k' 0) (.int Q0 C) K w:=by obtain⟨i,f,g,b,a⟩:=info_parts LJ;exact zl1 underlying101 f g b a e oo oo d h
def zeZ{n:Nat}{k:IntKind}{l:List UInt8}(a:RB w av n c l)(d:0<=x)(e:x<n)(h:w.cell? (rM av x.toNat)=some (.int .u8 ((l.getD x.toNat 0).toNat:Int))->K (.pointer (some (rM av x.toNat))) w):aW Q 101 (.slice av n c) (.int k x) K w:=by
 refine LI underlying101 Cr d e a.some_ (h ?_);have b:x.toNat<l.length:=by rw[a.len];omega
 rw[a.cell _ b];simp[List.getD,b]
def ld8{a:Addr}{n:Int}(b:w.cell? a=some (.int .u8 n))(h:K (.int .u8 n) w):ld Q 5 (.pointer (some a)) K w:=vS kf b h
def zc0{n:Nat}{l:Nat}{xs:List UInt8}(j:RB w av n c xs){g hi:Option oF}(e:(g=none/\l=0)\/∃k,g=some (.int k (l:Int)))(b:(hi=none/\m=n)\/∃k,hi=some (.int k (m:Int)))(d:l<=m)(f:m<=n)(h:∀a,RB w a (m-l) (c-l) ((xs.take m).drop l)->K (.slice a (m-l) (c-l)) w):slc Q 101 (.slice av n c) g hi none K w:=by refine zjJ underlying101 Cr j e b d f λa i=>h a ?_;simpa[RB,List.map_drop,List.map_take]using i
def ziQ(base:Nat)(a:base<=w.heap.size)(h:∀c S,OB S base c 0 0 []->Below w.heap.size w S->K (.slice c 0 0) S):bM Q 101 0 #[] K w:=by obtain⟨i,e,f,b,d⟩:=info_parts LJ;exact zka underlying101 e b a h
def up8{n:Nat}{k:IntKind}(a:m<=c)(h:K (.slice av m c) w):slc Q 101 (.slice av n c) none (some (.int k (m:Int))) none K w:=zjK underlying101 Cr a h
def Eu:∀w,(sizeOf 101).run Q w=.ok 1 w:=λ_=>by kernel_rfl
def zbh:(Tryz.prog.info? 101).map (λi=>(i.zero,i.size,i.bytes))=some (some (.slice none 0 0),1,24):=by kernel_rfl
def slv(v:Option Addr×Nat×Nat):oF:=.slice v.1 v.2.1 v.2.2
def zcl(l:List (Option Addr×Nat×Nat)):∀u∈l.map slv,u.oneCell'=true:=by intro u a;obtain⟨_,_,rfl⟩:=qU.1 a;rfl
structure RBB(w:oG) (a:Option Addr) (n c:Nat) (vs:List (Option Addr×Nat×Nat)) (L:List (List UInt8)):Prop where
 row:RV w a n c (vs.map slv)
 len:vs.length=L.length
 each:∀(i:Nat) (v:Option Addr×Nat×Nat) (l:List UInt8),vs[i]? = some v->L[i]? = some l->RB w v.1 v.2.1 v.2.2 l
def RBB.below{B:Nat}{n:Nat}{vs:List (Option Addr×Nat×Nat)}{L:List (List UInt8)}(h:RBB w a n c vs L)(d:Below B w S)(b:w.heap.size<=B):RBB S a n c vs L :=
 ⟨h.row.below d b,h.len,λi v l f e=>(h.each i v l f e).below d b⟩
def RBB.lenL{n:Nat}{vs:List (Option Addr×Nat×Nat)}{L:List (List UInt8)}(h:RBB w a n c vs L):L.length=n:=by
 have:=h.row.len
 simp only[oY]at this;rw[<-h.len];exact this
structure OBB(w:oG) (B:Nat) (a:Option Addr) (n c:Nat) (vs:List (Option Addr×Nat×Nat)) (L:List (List UInt8)):Prop where
 row:OV w B 101 a n c (vs.map slv)
 len:vs.length=L.length
 each:∀(i:Nat) (v:Option Addr×Nat×Nat) (l:List UInt8),vs[i]? = some v->L[i]? = some l->OB w B v.1 v.2.1 v.2.2 l
def OBB.rbb{B:Nat}{n:Nat}{vs:List (Option Addr×Nat×Nat)}{L:List (List UInt8)}(h:OBB w B a n c vs L):RBB w a n c vs L :=
 ⟨h.row.rv,h.len,λi v l d b=>(h.each i v l d b).rb⟩
def OBB.below{B:Nat}{n:Nat}{vs:List (Option Addr×Nat×Nat)}{L:List (List UInt8)}(h:OBB w B a n c vs L)(d:Below D w S)(b:w.heap.size<=D):OBB S B a n c vs L :=
 ⟨h.row.below d b,h.len,λi v l f e=>(h.each i v l f e).below d b⟩
def OBB.nil(w:oG)(B:Nat):OBB w B none 0 0 [] []:=⟨OV.nil w B _,rfl,λi v l h=>by simp at h⟩
def OB.grown_sl{B:Nat}{n:Nat}{l:List UInt8}{vs:List (Option Addr×Nat×Nat)}(h:OB w B a n c l)(p:OV w B2 101 a2 b c2 (vs.map slv))(r:w.grownBy S (Value.slice a2 b c2).ownBlock):OB S B a n c l:=by
 refine World.ownsRow.kept h r ?_;rcases h.2 with⟨f,_⟩|⟨g,m,o,f,_,k,_⟩
 .left;rw[f];rfl
 .right;rw[f];rcases p.2 with⟨d,_⟩|⟨s,i,j,d,_,e,_⟩
  .rw[d];simp[Value.ownBlock]
  .rw[d];simp only[Value.ownBlock,ne_eq,qD];intro q;rw[q,e]at k;simp at k
def zkt{cs:Array Bool}{n:Nat}(h:K (ci (n:Int)) w):blt Q .len #[111] E cs #[.slice av n c] K w:=bv underlying111 h
def zdP{cs:Array Bool}(base:Nat){n:Nat}{vs:List (Option Addr×Nat×Nat)}{L:List (List UInt8)}{v:Option Addr×Nat×Nat}{l:List UInt8}(a:OBB w base av n c vs L)(t:RV w a2 1 c2 [slv v])(r:OB w base v.1 v.2.1 v.2.2 l)(j:n<4294967296)(e:base<=w.heap.size)(h:∀g c' S,OBB S base g (n+1) c' (vs++[v]) (L++[l])->w.grownBy S (Value.slice av n c).ownBlock->K (.slice g (n+1) c') S):blt Q .append #[111,111] E cs #[.slice av n c,.slice a2 1 c2] K w:=by
 obtain⟨i,q,u,o,k⟩:=info_parts zbh;refine zaU underlying111 q u o k rfl a.row t (zcl [v]) oo oo e ?_;intro g c' S s m;refine h g c' S ⟨by simpa using s,by simp[a.len],?_⟩ m;intro i y x b d;by_cases f:i<vs.length
 .rw[qO f]at b;rw[qO (by rw[<-a.len];exact f)]at d;exact(a.each i y x b d).grown_sl a.row m
 .rw[qP oo]at b;rw[qP (by rw[<-a.len];omega)]at d;have p:i-vs.length=0:=by
   have:=(gS b).1
   simpa using this
  rw[p]at b;rw[<-a.len,p]at d;simp at b d;subst b d;exact r.grown_sl a.row m
def zg5{v:Option Addr×Nat×Nat}(h:∀S,Below w.heap.size w S->RV S (some ⟨w.heap.size,0,none⟩) 1 1 [slv v]->S.heap.size=w.heap.size+1->K (.slice (some ⟨w.heap.size,0,none⟩) 1 1) S):bM Q 111 1 #[(0,.slice v.1 v.2.1 v.2.2)] K w:=by obtain⟨i,c,f,a,b⟩:=info_parts zbh;exact zg6 underlying111 c f a rfl rfl λe=>h _ (bX (World.grownBy_alloc _ _ none) oA (λk d=>by cases d)) e oB
def zgg{n:Nat}{k:IntKind}{vs:List (Option Addr×Nat×Nat)}{L:List (List UInt8)}(b:RBB w av n c vs L)(e:0<=x)(f:x<n)(h:∀v l,vs[x.toNat]? = some v->L[x.toNat]? = some l->w.cell? (rM av x.toNat)=some (.slice v.1 v.2.1 v.2.2)->RB w v.1 v.2.1 v.2.2 l->K (.pointer (some (rM av x.toNat))) w):aW Q 111 (.slice av n c) (.int k x) K w:=by
 refine LI underlying111 Eu e f b.row.some_ ?_;have g:=b.row.len;simp only[oY]at g;have d:x.toNat<vs.length:=by omega
 have a:x.toNat<L.length:=by rw[<-b.len];exact d
 refine h vs[x.toNat] L[x.toNat] (gE d) (gE a) ?_ (b.each _ _ _ (gE d) (gE a));exact b.row.cell _ _ (by simp[qC,gE d,slv])
def zj8{b:Addr}{n:Nat}(d:w.cell? b=some (.slice a n c))(h:K (.slice a n c) w):ld Q 101 (.pointer (some b)) K w :=
 vS kf d h
abbrev MXA:Int:=1125899906842624
def okA(x:Int):Bool:=decide (0<=x)&&decide (x<=MXA)
def od(l:List Int):Int×Bool:=match l.all okA with|true=>(l.sum,true)|false=>(0,false)
def nA(A:List Int)(i:Nat):Int:=A.getD i 0
def xb(A:List Int)(k j:Nat):List Int:=nA A (6+k)::(List.range j).map λj=>nA A (18+6*k+j)
def inL(A:List Int)(k j:Nat):List Int:=nA A k::nA A (12+k)::(List.range j).map λj=>nA A (18+6*j+k)
def uc(A:List Int)(k:Nat):Int×Bool:=((od (inL A k 6)).1-(od (xb A k 6)).1,(od (xb A k 6)).2&&(od (inL A k 6)).2)
def sR:okA x=true↔0<=x/\x<=MXA:=by simp[okA]
def NP:∀{l:List Int},l.all okA=true->0<=l.sum/\l.sum<=MXA*l.length
 | [],_=>by simp
 | x::l,h=>by
  rw[List.all_cons,oM]at h;have a:=sR.1 h.1;have b:=NP h.2;simp only[List.sum_cons,oZ];simp only[MXA]at *;omega
def gL(A:List Int):List Int:=(List.range 6).map λk=>nA A k
def FM(A:List Int):Bool :=
 (List.range 6).all (λk=>(uc A k).2&&decide (0<=(uc A k).1)&&decide (nA A (12+k)<=nA A (6+k))&&decide (nA A (18+6*k+k)=0))&&((od (gL A)).2&&decide ((od (gL A)).1<=MXA))
def jx(A:List Int)(k:Nat):Int:=nA A k-nA A (6+k)+nA A (12+k)+((List.range 6).map λj=>nA A (18+6*j+k)-nA A (18+6*k+j)).sum
def Tq(A:List Int)(i:Nat):Bool:=okA (nA A i)&&okA (nA A (6+i))&&okA (nA A (12+i))&&decide (nA A (12+i)<=nA A (6+i))&&decide (nA A (18+6*i+i)=0)&&(List.range 6).all λj=>okA (nA A (18+6*i+j))
def nI(A:List Int):Bool:=(List.range 6).all (Tq A)&&(List.range 6).all (λk=>decide (0<=jx A k))&&decide ((gL A).sum<=MXA)
def bB(i:Int):Bool:=decide (1<=i)&&decide (i<=6)
structure ND where
 id:Int
 par:Int
 A:List Int
 deriving DecidableEq
def Jd(A:List Int)(i x:Int):Int:=if nI A=false\/x<1\/MXA<x then 1 else if bB i=false then 10 else 0
def z54:List Int:=List.replicate 54 0
def EE(A:List Int)(q:Nat)(x:Int):List Int×Int:=if MXA<nA A q+x then (z54,6)else (A.set q (nA A q+x),0)
def xg(A:List Int)(i x:Int):List Int×Int:=if Jd A i x≠0 then (z54,Jd A i x)else if jx A (i-1).toNat<x then (z54,11)else EE A (6+(i-1).toNat) x
def wT(A:List Int)(i x:Int):List Int×Int:=if Jd A i x≠0 then (z54,Jd A i x)else if nA A (6+(i-1).toNat)-nA A (12+(i-1).toNat)<x then (z54,12)else (A.set (12+(i-1).toNat) (nA A (12+(i-1).toNat)+x),0)
def yg(A:List Int)(i j x:Int):List Int×Int :=
 if Jd A i x≠0 then (z54,Jd A i x)else if bB j=false then (z54,10)else if i=j then (z54,1)else if jx A (i-1).toNat<x then (z54,11)else EE A (18+6*(i-1).toNat+(j-1).toNat) x
structure EV where
 o:Int
 s:Int
 d0:Int
 d1:Int
 d2:Int
 d3:Int
 d4:Int
 d5:Int
 k:Int
 n:Int
 t:Int
 a:Int
 r:Int
 f:Int
 deriving DecidableEq
def EV.V(e:EV):List Int:=[e.d0,e.d1,e.d2,e.d3,e.d4,e.d5]
def Lg(e:EV):EV:={e with
 n:=if e.k=1\/e.k=2\/e.k=3\/e.k=5 then e.n else 0
 t:=if e.k=5\/e.k=6 then e.t else 0
 a:=if e.k=1\/e.k=2\/e.k=3\/e.k=5 then e.a else 0
 r:=if e.k=3\/e.k=4 then e.r else 0
 f:=if e.k=4 then e.f else 0}
def smE(e:EV):Bool:=decide (1<=e.a)&&decide (e.a<=1125899906842624)
def otE(e:EV):Bool:=bB e.t&&decide (e.t≠e.o)
def fdE(e:EV):Bool :=
 if e.k=1 then decide (0<=e.a)&&decide (e.a<=1125899906842624)
 else if e.k=2 then smE e
 else if e.k=3 then smE e&&decide (1<=e.r)
 else if e.k=4 then decide (1<=e.r)&&(decide (1<=e.f)&&decide (e.r≠e.f))
 else if e.k=5 then smE e&&otE e
 else if e.k=6 then otE e
 else decide (e.k=7)
def co(e:EV):Bool:=bB e.o&&(decide (1<=e.s)&&(decide (e.s<1099511627776)&&(decide (e.V.getD (e.o-1).toNat 0=e.s-1)&&((List.range 6).all (λk=>decide (e.V.getD k 0<1099511627776))&&(decide (e=Lg e)&&fdE e)))))
def vC(V:List Int)(e:EV):Bool:=co e&&decide (e.s<=V.getD (e.o-1).toNat 0)
def fS(V:List Int)(e:EV):Bool:=co e&&(decide (e.s=V.getD (e.o-1).toNat 0+1)&&(List.range 6).all (λk=>decide (e.V.getD k 0<=V.getD k 0)))
def fZ{e:EV}(h:co e=true):1<=e.o/\e.o<=6/\1<=e.s/\e.s<1099511627776:=by unfold co at h;simp only[oM,oP,bB]at h;exact⟨h.1.1,h.1.2,h.2.1,h.2.2.1⟩
structure GR where
 o:Int
 q:Int
 n:Int
 a:Int
 b:Int
 deriving DecidableEq
def vO(L:List α)(i:Nat)(z:α):List α:=L.take i++z::L.drop i
def zf7{L:List α}{z:α}:(vO L i z).length=L.length+1:=by unfold vO;rw[oT,oZ,qA,qB];omega
def BT{L:List α}{z x:α}:x∈vO L i z↔x=z\/x∈L:=by
 unfold vO;rw[oU,oO];constructor
 .rintro(h|h|h)
  .exact .inr (List.mem_of_mem_take h)
  .exact .inl h
  .exact .inr (List.mem_of_mem_drop h)
 .rintro(h|h)
  .exact .inr (.inl h)
  .have:x∈L.take i++L.drop i:=by rw[List.take_append_drop];exact h
   rcases oU.1 this with h|h
   .exact .inl h
   .exact .inr (.inr h)
structure TK(L:List (Int×Int)) (rk:Int->Nat):Prop where
 low:∀x∈L,rk x.1<L.length
 nz:∀x∈L,x.1≠0
 up:∀x∈L,x.2=0\/∃y∈L,y.1=x.2/\rk y.1<rk x.1
def dB(L:List (Int×Int))(id:Int):Bool:=L.any λx=>x.1==id
def iA{L:List (Int×Int)}{id:Int}:dB L id=true↔∃x∈L,x.1=id:=by simp[dB]
def upT(L:List (Int×Int))(rk:Int->Nat)(id:Int):Nat:=match dB L id with|true=>rk id+1|false=>0
def TK.nil:TK [] λ_=>0:=⟨by simp,by simp,by simp⟩
def Fv{L:List (Int×Int)}{rk:Int->Nat}(h:TK L rk)(id:Int):upT L rk id<=L.length:=by
 unfold upT;cases a:dB L id with
 | false=>exact qG _
 | true =>
  obtain⟨x,b,rfl⟩:=iA.1 a;exact h.low x b
def NV{L:List (Int×Int)}{rk:Int->Nat}(h:TK L rk){x:Int×Int}(a:x∈L):upT L rk x.2<upT L rk x.1:=by
 have c:dB L x.1=true:=iA.2 ⟨x,a,rfl⟩;unfold upT;rw[c];cases d:dB L x.2 with
 | false=>exact Nat.succ_pos _
 | true =>
  rcases h.up x a with e|⟨y,i,e,g⟩
  .obtain⟨z,f,b⟩:=iA.1 d;exact qI (b.trans e) (h.nz z f)
  .show rk x.2+1<rk x.1+1;rw[<-e];omega
def TK.add{L:List (Int×Int)}{rk:Int->Nat}(h:TK L rk){id par:Int}(j:id≠0)(m:dB L id=false)(d:par=0\/dB L par=true)(i:Nat):TK (vO L i (id,par)) (λk=>if k=id then L.length else rk k):=by
 have a:∀x∈L,x.1≠id:=λx b e=>by
  have:=iA.2 ⟨x,b,e⟩
  rw[m]at this;cases this
 refine⟨λx b=>?_,λx b=>?_,λx b=>?_⟩
 .rw[zf7];rcases BT.1 b with e|e
  .subst e;simp
  .rw[oI (a x e)];have:=h.low x e;omega
 .rcases BT.1 b with e|e
  .subst e;exact j
  .exact h.nz x e
 .rcases BT.1 b with e|e
  .subst e;rcases d with d|d
   .exact .inl d
   .obtain⟨y,c,g⟩:=iA.1 d;refine .inr ⟨y,BT.2 (.inr c),g,?_⟩;rw[oI (a y c)];simp only[if_true];exact h.low y c
  .rcases h.up x e with f|⟨y,c,f,l⟩
   .exact .inl f
   .refine .inr ⟨y,BT.2 (.inr c),f,?_⟩;rw[oI (a y c),oI (a x e)];exact l
def WS(T:List (Int×Int))(id:Int):Nat:=T.findIdx λx=>x.1==id
def fm(T:List (Int×Int))(id:Int):Int:=(T.getD (WS T id) (0,0)).2
def cU(T:List (Int×Int)):Nat->Int->List Int
 | 0,_=>[]
 | f+1,id=>if dB T id=true then id::cU T f (fm T id)else []
def eA(T:List (Int×Int))(id:Int):List Int:=cU T (T.length+1) id
def Wt{α:Type}(f:α->Bool)(L:List α):Nat->Nat
 | 0=>0
 | k+1=>match L[k]? with
  | some x=>if f x=true then Wt f L k else k+1
  | none=>k+1
def nu(T:List (Int×Int))(id par:Int):List (Int×Int)×Int :=
 if id=0 then (T,1)else if dB T id=true then (T,14)else if par≠0/\dB T par=false then (T,9)else if 32<=T.length\/4<=(eA T par).length then (T,6)
 else (vO T (Wt (λx=>decide (id<x.1)) T T.length) (id,par),0)
def mT(I L:List Bool)(k:Nat):List Int:=((List.range k).filter λk=>I.getD k false && !L.getD k false).map λk=>((k:Nat):Int)+1
section
attribute [local irreducible] bin un conv call bA blt slc ao fld aW idx lkp fk mW eSt rng nxt ent ext alc box bld bM ld sto aU fl mkS ifc pick rdy wts aM sti cond aY Gives ai iy ke cOp
def Hr{n:Nat}{l:List UInt8}(e:RB w a n c l)(q:n<=140737488351232)(h:∀i c' S,OB S w.heap.size i n c' l->Below w.heap.size w S->K (.slice i n c') S):call Q 58 #[.slice a n c] K w:=by
 refine aj (goK func58) (VV ?_);refine Z9 underlying101 ?_;cases a with
 | none =>
  obtain⟨rfl,rfl⟩:=RV.nil_ e rfl
  have:l=[]:=List.eq_nil_of_length_eq_zero e.len
  subst this;refine aV ?_;exact h _ _ _ (OB.nil _ _) (jU _ _)
 | some ad =>
  refine aA <|ziQ w.heap.size oA ?_;intro m r d b;refine OT w.heap.size d (e.below b oA) oo b.size ?_;intro o p s g f;rw[oK,oV]at *;exact h _ _ _ g (b.grown f b.size (λk j=>(OV.block d k j).1))
def uy(k:Int):Int:=if k=8 then 64 else if k=4 then 32 else if k=2 then 16 else if k=1 then 8 else 0
def zbR{k:Int}(h:K (ci (uy k)) w):call Q 79 #[ci k] K w:=by
 refine aj (goK func79) (WL ?_);by_cases d:k=8
 .subst d;(repeat (first|refine tw ?_|refine tn ?_|refine xa ?_|refine tq ?_|refine BX ?_|refine tt ?_|refine IY ?_|refine tu ?_|refine aT ?_|refine aR oo oo ?_|refine aV ?_));exact h
 by_cases c:k=4
 .subst c;(repeat (first|refine tw ?_|refine tn ?_|refine xa ?_|refine tq ?_|refine BX ?_|refine tt ?_|refine IY ?_|refine tu ?_|refine aT ?_|refine aR oo oo ?_|refine aV ?_|refine aA ?_));exact h
 by_cases b:k=2
 .subst b;(repeat (first|refine tw ?_|refine tn ?_|refine xa ?_|refine tq ?_|refine BX ?_|refine tt ?_|refine tu ?_|refine aT ?_|refine aR oo oo ?_|refine aV ?_|refine aA ?_));exact h
 by_cases a:k=1
 .subst a;(repeat (first|refine tw ?_|refine tn ?_|refine xa ?_|refine tq ?_|refine tt ?_|refine tu ?_|refine aT ?_|refine aR oo oo ?_|refine aV ?_|refine aA ?_));exact h
 have e:uy k=0:=by simp[uy, *]
 rw[e]at h
 (repeat (first|refine tw ?_|refine tn ?_|refine tq ?_|refine tt ?_|refine tu ?_|refine aT ?_|refine ax oo ?_))
 exact h
def zib(K:Nat)(a:K=1\/K=2\/K=4\/K=8):uy K=8*K:=by rcases a with rfl|rfl|rfl|rfl<;>rfl
def zas{k:Int}(h:uy k≠0):∃K:Nat,(K=1\/K=2\/K=4\/K=8)/\k=K:=by
 unfold uy at h;by_cases d:k=8
 .exact⟨8,by simp,d⟩
 by_cases c:k=4
 .exact⟨4,by simp,c⟩
 by_cases b:k=2
 .exact⟨2,by simp,b⟩
 by_cases a:k=1
 .exact⟨1,by simp,a⟩
 simp[*]at h
def bf(n:Nat):Nat->List UInt8
 | 0=>[]
 | k+1=>UInt8.ofNat (n / 256 ^ k)::bf n k
def bE(x K:Nat):(bf x K).length=K:=by
 induction K with
 | zero=>rfl
 | succ k ih=>simp[bf,ih]
def zay(x:Nat):∀(K j:Nat) (h:j<(bf x K).length),(bf x K)[j]=UInt8.ofNat (x / 256 ^ (K-1-j)):=by
 intro K
 induction K with
 | zero=>intro j h;simp[bf]at h
 | succ k ih =>
  intro j h;cases j with
  | zero=>simp[bf]
  | succ j =>
   simp only[bf,List.getElem_cons_succ];rw[ih]
   congr 2
   congr 1
   omega
def OU(x K j:Nat)(h:j<K):(bf x K).take (j+1)=(bf x K).take j++[UInt8.ofNat (x / 256 ^ (K-1-j))]:=by
 have a:j<(bf x K).length:=by rw[bE];exact h
 rw[List.take_succ_eq_append_getElem a,zay]
def Qq(x e:Nat)(b:8*e<=64):((x:Int).fdiv (2 ^ min ((8*(e:Int))).toNat IntKind.u64.bits))=((x / 256 ^ e:Nat):Int):=by
 have h:(2:Int) ^ (8*e)=((256 ^ e:Nat):Int):=by rw[Int.pow_mul];simp
 have a:min ((8*(e:Int))).toNat IntKind.u64.bits=8*e:=by
  have:IntKind.u64.bits=64:=rfl
  omega
 rw[a,h,Int.fdiv_eq_ediv_of_nonneg _ (Int.natCast_nonneg _)];rfl
def YN(y:Nat):Value.int .u8 (IntKind.u8.wrap (y:Int))=u8v (UInt8.ofNat y):=by
 rw[Ri];simp only[u8v,UInt8.toNat_ofNat']
 congr 1
def FO(l:List UInt8)(n:Nat)(k:Int):List UInt8×Int :=
 if uy k=0 then ([],1)else if 256 ^ k.toNat<=n then ([],6)else (l++bf n k.toNat,0)
def put_c{n:Nat}{l:List UInt8}{x:Nat}{k:Int}(I:RB w a n c l)(hn:n<=140737488351232)(hx:x<18446744073709551616)(h:∀p u c' w',OB w' w.heap.size p u c' (FO l x k).1->Below w.heap.size w w'->K (.tuple #[.slice p u c',ci (FO l x k).2]) w'):call Q 118 #[.slice a n c,.int .u64 x,ci k] K w:=by
 refine aj (goK func118) (ZU ?_);refine zbR ?_;by_cases i:uy k=0
 .have t:FO l x k=([],1):=by simp[FO,i]
  rw[t]at h
  (repeat (first|refine aT ?_|refine ay oo ?_))
  exact h _ _ _ _ (OB.nil _ _) (jU _ _)
 obtain⟨N,M,rfl⟩:=zas i;have G:=zib N M;rw[G];have O:1<=N/\N<=8:=by omega
 (repeat (first|refine aT ?_|refine ax oo ?_))
 refine Hq oo ?_
 (repeat (first|refine cH ?_))
 rw[Qq x N oo];by_cases d:256 ^ N<=x
 .have t:FO l x N=([],6):=by simp[FO,i,d]
  rw[t]at h;have J:(0:Int)<((x / 256 ^ N:Nat):Int):=by
   have:0<x / 256 ^ N:=Nat.div_pos d (Nat.pow_pos oo)
   omega
  (repeat (first|refine ay oo ?_))
  exact h _ _ _ _ (OB.nil _ _) (jU _ _)
 have t:FO l x N=(l++bf x N,0):=by simp[FO,i,d]
 rw[t]at h;have J:((x / 256 ^ N:Nat):Int)=0:=by
  have:x / 256 ^ N=0:=Nat.div_eq_of_lt oo
  omega
 rw[J]
 (repeat (first|refine aR oo oo ?_|refine wW ?_|refine aA ?_))
 refine mk8 w.heap.size (n+N) oo oo oo ?_;intro T w1 r f;refine OT w.heap.size r (I.below f oo) oo f.size ?_;intro U X w2 s y;have v:Below w.heap.size w w2:=f.grown y f.size (λk B=>(OV.block r k B).1);rw[oV,oK]at s
 (repeat (first|refine WI ?_|refine bL oo oo ?_))
 refine WJ (Inv:=λb H L=>∃j p u c',j<=N/\b=ci (8*(N:Int)-8-8*(j:Int))/\H=.slice p u c'/\OB L w.heap.size p u c' (l++(bf x N).take j)/\Below w.heap.size w L)
  (μ:=λb _ _=>(intOf b+8).toNat) ⟨0,_,_,_,by omega,by simp,rfl,by simpa using s,v⟩ ?_
 rintro _ _ _ w3 m ⟨j,V,n3,Y,hj,rfl,rfl,e,g⟩ R;have C:=e.len;have P:=I.len;simp only[oT,qA,bE]at C;by_cases A:j<N
 ·(repeat (first|refine bR ?_|refine ay oo ?_))
  refine Hq oo ?_;rw[show (8*(N:Int)-8-8*(j:Int))=8*((N-1-j:Nat):Int)by omega,Qq x (N-1-j) oo];refine dE underlying36 underlying5 ?_;rw[YN];refine zir rfl ?_;intro w4 o E S;refine OT w.heap.size (e.below o oo) E oo (by have:=g.size;omega) ?_;intro W Z w5 D z
  (repeat (first|refine bL oo oo ?_))
  have F:=g.size;refine⟨⟨j+1,_,_,_,by omega,by congr 1;omega,rfl,?_,?_⟩,?_⟩
  .rw[OU x N j A, <-jE];exact D
  .exact(g.trans (o.mono F)).grown z oo (λk B=>(OV.block (e.below o oo) k B).1)
  .rw[R];simp only[intOf];omega
 .have q:j=N:=by omega
  subst q
  (repeat (first|refine WK ?_|refine bR ?_|refine ax oo ?_))
  have:(bf x j).take j=bf x j:=tL (by rw[bE];omega)
  rw[this]at e;exact h _ _ _ _ e g
def ey(l:List UInt8):Nat:=l.foldl (λn c=>n*256+c.toNat) 0
def Uk(l:List UInt8)(c:UInt8):ey (l++[c])=ey l*256+c.toNat:=by simp[ey,List.foldl_append]
def Mz(l:List UInt8):ey l<256 ^ l.length:=by
 have a:∀l:List UInt8,∀n k,n<256 ^ k->l.foldl (λn c=>n*256+c.toNat) n<256 ^ (k+l.length):=by
  intro l
  induction l with
  | nil=>intro n k h;simpa using h
  | cons c l ih =>
   intro n k h;simp only[List.foldl_cons,oZ];have b:=c.toNat_lt
   have:=ih (n*256+c.toNat) (k+1) (by rw[Nat.pow_succ];omega)
   rw[show k+(l.length+1)=k+1+l.length by omega];exact this
 have:=a l 0 0 oB
 simpa[ey]using this
def XN(l:List UInt8)(j:Nat)(h:j<l.length):l.take (j+1)=l.take j++[l.getD j 0]:=by rw[List.take_succ_eq_append_getElem h];simp[List.getD,h]
def rN(l:List UInt8)(p k:Int):Nat×Int×Int :=
 if uy k=0\/p<0\/(l.length:Int)<p then (0,0,1)else if (l.length:Int)-p<k then (0,0,5)else (ey ((l.drop p.toNat).take k.toNat),p+k,0)
def zeg{n:Nat}{l:List UInt8}{p k:Int}(v:RB w a n c l)(M:n<=9223372036854775807)(h:K (.tuple #[.int .u64 (rN l p k).1,ci (rN l p k).2.1,ci (rN l p k).2.2]) w):call Q 66 #[.slice a n c,ci p,ci k] K w:=by
 have e:=v.len;refine aj (goK func66) (Yi ?_);refine zbR <|aT ?_;by_cases g:uy k=0
 .rw[show rN l p k=(0,0,1)by simp[rN,g]]at h
  (repeat (first|refine Dc ?_|refine Ki ?_|refine ay oo ?_))
  exact h
 (repeat (first|refine Ki ?_|refine aL ?_|refine ax oo ?_))
 by_cases z:p<0
 .rw[show rN l p k=(0,0,1)by simp[rN,z]]at h
  (repeat (first|refine Dc ?_|refine ay oo ?_))
  exact h
 (repeat (first|refine Dc ?_|refine cH ?_|refine wW ?_|refine ax oo ?_))
 by_cases A:(n:Int)<p
 .rw[show rN l p k=(0,0,1)by simp[rN,e,A]]at h
  (repeat (first|refine ay oo ?_))
  exact h
 obtain⟨N,J,rfl⟩:=zas g;obtain⟨q,rfl⟩:=Int.eq_ofNat_of_zero_le (show 0<=p by omega);have B:1<=N/\N<=8:=by omega
 (repeat (first|refine aL ?_|refine bL oo oo ?_|refine wW ?_|refine ax oo ?_))
 by_cases u:(n:Int)-q<N
 .rw[show rN l q N=(0,0,5)by unfold rN;rw[oI (by simp[e,g];omega),oJ (by rw[e];exact u)]]at h
  (repeat (first|refine ay oo ?_))
  exact h
 have F:rN l q N=(ey ((l.drop q).take N),(q:Int)+N,0):=by
  unfold rN;rw[oI (by simp[e,g];omega),oI (by rw[e];exact u)];simp
 rw[F]at h
 (repeat (first|refine Vn ?_|refine aR oo oo ?_|refine ax oo ?_))
 rw[show ((q:Int)+(N:Int))=((q+N:Nat):Int)by omega];refine zc0 (l:=q) (m:=q+N) v (.inr ⟨_,rfl⟩) (.inr ⟨_,rfl⟩) oo oo ?_;intro I b;have G:(l.take (q+N)).drop q=(l.drop q).take N:=by rw[List.drop_take];congr 1;omega
 rw[G]at b;have y:=b.len;rw[show q+N-q=N by omega]at *
 (repeat (first|refine wW ?_))
 refine Vm (Inv:=λx i H=>∃j,j<=N/\i=ci (j:Nat)/\x=.int .u64 (ey (((l.drop q).take N).take j):Nat)/\H=w)
  (μ:=λ_ i _=>N-(intOf i).toNat) ⟨0,by omega,by simp,by simp[ey],rfl⟩ ?_
 rintro _ _ _ O m ⟨j,L,rfl,rfl,rfl⟩ E;by_cases D:j<N
 ·(repeat (first|refine aL ?_|refine ay oo ?_))
  refine zeZ b oo oo ?_;intro C;refine ld8 C <|Cc oo <|dE underlying5 underlying36 ?_;have t:=Mz (((l.drop q).take N).take j);have s:(((l.drop q).take N).take j).length=j:=by rw[qA];omega
  rw[s]at t;have f:ey (((l.drop q).take N).take j)<72057594037927936:=by
   have:256 ^ j<=256 ^ 7:=Nat.pow_le_pow_right oo oo
   omega
  generalize r:((l.drop q).take N).getD (((j:Nat):Int)).toNat 0=cc;have o:=cc.toNat_lt;refine Ul ?_;rw[eJ (cc.toNat:Int),show (cc.toNat:Int)%18446744073709551616=((cc.toNat:Nat):Int)by omega,WN f oo]
  (repeat (first|refine aR oo oo ?_))
  have d:((l.drop q).take N).getD j 0=cc:=by simpa using r
  refine⟨⟨j+1,by omega,by simp,?_,rfl⟩,by rw[E];simp only[intOf];omega⟩;rw[XN _ _ oo,Uk,d]
 .have:j=N:=by omega
  subst this
  (repeat (first|refine Vo ?_|refine aL ?_|refine ax oo ?_))
  rw[tL oo];exact h
def YH(x y:Nat):∀s,Op.bytesLess (bf x s) (bf y s)=decide (x%256 ^ s<y%256 ^ s)/\(bf x s=bf y s↔x%256 ^ s=y%256 ^ s):=by
 intro s
 induction s with
 | zero=>simp[bf,Op.bytesLess,Nat.mod_one]
 | succ k ih =>
  obtain⟨o,p⟩:=ih;have m:=Nat.mod_pow_succ (b:=256) (k:=k) (x:=x);have n:=Nat.mod_pow_succ (b:=256) (k:=k) (x:=y);have q:x%256 ^ k<256 ^ k:=Nat.mod_lt _ (Nat.pow_pos oo);have r:y%256 ^ k<256 ^ k:=Nat.mod_lt _ (Nat.pow_pos oo);have j:(UInt8.ofNat (x / 256 ^ k)).toNat=x / 256 ^ k%256:=by simp
  have i:(UInt8.ofNat (y / 256 ^ k)).toNat=y / 256 ^ k%256:=by simp
  have d:UInt8.ofNat (x / 256 ^ k)<UInt8.ofNat (y / 256 ^ k)↔x / 256 ^ k%256<y / 256 ^ k%256:=by rw[UInt8.lt_iff_toNat_lt,j,i]
  have e:UInt8.ofNat (x / 256 ^ k)=UInt8.ofNat (y / 256 ^ k)↔x / 256 ^ k%256=y / 256 ^ k%256:=by rw[<-UInt8.toNat_inj,j,i]
  simp only[bf,Op.bytesLess,List.cons.injEq];rw[o,p,e,m,n];have l:(UInt8.ofNat (x / 256 ^ k)==UInt8.ofNat (y / 256 ^ k))=decide (x / 256 ^ k%256=y / 256 ^ k%256):=by
   by_cases c:x / 256 ^ k%256=y / 256 ^ k%256
   .rw[qF c,beq_iff_eq];exact e.2 c
   .rw[qE c,beq_eq_false_iff_ne];exact λh=>c (e.1 h)
  rw[l];generalize x / 256 ^ k%256=dx at *;generalize y / 256 ^ k%256=dy at *;generalize x%256 ^ k=rx at *;generalize y%256 ^ k=ry at *;generalize 256 ^ k=B at *;rcases Nat.lt_trichotomy dx dy with a|a|a
  .have f:=Nat.mul_le_mul_left B (show dx+1<=dy from a);rw[Nat.mul_add,Nat.mul_one]at f;rw[qF (d.2 a),qF (show rx+B*dx<ry+B*dy by omega)];exact⟨rfl,λh=>qI h.1 oo,λh=>by omega⟩
  .subst a;have g : ¬UInt8.ofNat (x / B)<UInt8.ofNat (y / B):=λh=>by have:=d.1 h;omega
   rw[qE g];refine⟨?_,?_,?_⟩
   .simp only[Bool.false_or,decide_true,qZ];exact decide_eq_decide.2 oo
   .intro h;rw[h.2]
   .intro h;exact⟨rfl,by omega⟩
  .have f:=Nat.mul_le_mul_left B (show dy+1<=dx from a);rw[Nat.mul_add,Nat.mul_one]at f;have g : ¬UInt8.ofNat (x / B)<UInt8.ofNat (y / B):=λh=>by have:=d.1 h;omega
   rw[qE g,qE (show ¬dx=dy by omega),qE (show ¬rx+B*dx<ry+B*dy by omega)];exact⟨rfl,λh=>qI h.1 oo,λh=>by omega⟩
def zeR(l:List UInt8):∀n:Nat,l.foldl (λn c=>n*256+c.toNat) n=n*256 ^ l.length+l.foldl (λn c=>n*256+c.toNat) 0:=by
 induction l with
 | nil=>intro n;simp
 | cons c r ih =>
  intro n;simp only[List.foldl_cons,oZ];rw[ih (n*256+c.toNat),ih (0*256+c.toNat)];rw[Nat.pow_succ,Nat.add_mul,Nat.add_mul,Nat.mul_assoc,Nat.mul_comm (256 ^ r.length) 256];omega
def Uj(c:UInt8)(l:List UInt8):ey (c::l)=c.toNat*256 ^ l.length+ey l:=by unfold ey;rw[List.foldl_cons,zeR];simp
def HF(x:Nat):∀k,ey (bf x k)=x%256 ^ k:=by
 intro k
 induction k with
 | zero=>simp[bf,ey,Nat.mod_one]
 | succ k ih =>
  rw[bf,Uj,ih,bE,Nat.mod_pow_succ]
  have:(UInt8.ofNat (x / 256 ^ k)).toNat=x / 256 ^ k%256:=by simp
  rw[this,Nat.mul_comm];omega
def YJ(l:List UInt8):bf (ey l) l.length=l:=by
 induction l with
 | nil=>rfl
 | cons c r ih =>
  have a:=Mz r;have e:0<256 ^ r.length:=Nat.pow_pos oo;rw[oZ,bf,Uj];have b:(c.toNat*256 ^ r.length+ey r) / 256 ^ r.length=c.toNat:=by
   rw[Nat.mul_comm,Nat.mul_add_div e,Nat.div_eq_of_lt a];rfl
  have d:bf (c.toNat*256 ^ r.length+ey r) r.length=bf (ey r) r.length:=by
   refine(YH _ _ _).2.2 ?_;rw[Nat.mul_comm,Nat.mul_add_mod]
  rw[b,d,ih];simp
end
end Go.Proofs.YtpaghmnnhedccaaGreatDoor
