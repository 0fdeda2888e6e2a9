import Derived.Deep.DeepAppendRoom
import Derived.Test.YtpaghmnnhedccaaGreatDoorQ13
set_option linter.all false
namespace Go.Proofs.YtpaghmnnhedccaaGreatDoor
set_option maxRecDepth 100000
set_option maxHeartbeats 4000000
open Go.Proofs.Tryz
open Go.RowKit
variable {w w' w2 S O:oG}{K:KV}{zf:Nat->oF}{b c o i g m s j f z d c2 D gc hi np:Nat}{a av a2:Option Addr}{x v r:Int}{E t e:TypeId}{A U0:List Int}{N R:KE}{xs ys vs:oE}{cx cy:Bool}{T:List (Int×Int)}{u0:Array Bool}{X1 Z1 N2 O2 H Z U Y J C:oF}
def Jx(h:box Q 67 H (λb=>box Q 36 Z λa=>alc Q 97 λc=>ld Q 67 b λd=>call Q 195 #[d,.func (.func 199) #[] #[b,a,c]] λ_=>ld Q 97 c λe=>sto Q 97 c e λ_=>aY Q [(some 97,c)] K) w):Gives Q 185 #[H,Z] w K:=au func185 kr (mpK h)
def Gv(h:aF (λS w=>hL S 67 Z λa=>hN S a λa=>hF S 118 a 0 λb=>hL S 107 b λc=>hL S 36 U λd=>call Q 200 #[c,d] (λe=>aF λ_=>sto Q 97 H e λ_=>K (ci 0)) w) w.drew):Gives Q 199 #[Z,U,H] w K:=au func199 kr (mpK h)
def zcg(h:bld Q 100 #[] (λa=>box Q 100 a K) w):Gives Q 17 #[] w K:=au func17 kr (mpK h)
def zch(h:box Q 282 H (λa=>alc Q 282 λb=>ao Q 282 a 4 λc=>ld Q 30 c λc=>call Q 225 #[c] λd=>ao Q 282 a 4 λe=>sto Q 30 e d λ_=>ld Q 282 a λf=>sto Q 282 b f λ_=>aY Q [(some 282,b)] K) w):Gives Q 202 #[H] w K:=au func202 kr (mpK h)
def WG(h:box Q 282 Z (λa=>bT .eql 64 H (.pointer none) λC w=>cond C (K (ci 2) w) (ld Q 282 a (λD=>call Q 201 #[D] λb=>un Q .not b λc w=>cond c (K (ci 1) w) (sF 282 a 1 (λb=>sL 3 b λb=>sti (bT .sub 3 b (ci 1)) λd=>sF 282 a 2 λe=>sL 3 e λf=>sti (bT .sub 3 f (ci 1)) λg=>sN H λi=>sF 100 i 1 λj=>sI 98 j d λk=>sI 35 k g λl=>sL 4 l λm w=>cond m (K (ci 0) w) (aU H (λn=>ao Q 100 n 0 λo=>ld Q 97 o λp=>lN 97 p λq=>bT .geq 3 q (ci 128) λr w=>cond r (K (ci 7) w) (aF (λS w=>hN S H λs=>hF S 100 s 0 λt=>hL S 97 t λu=>hL S 282 a λv=>call Q 202 #[v] (λx=>aX S λS=>bM Q 97 1 #[(0,x)] λy=>aX S λ_=>blt Q .append #[97,97] 97 #[false,false] #[u,y] λz=>aF λS w=>hN S H λA=>hF S 100 A 0 λB=>sto Q 97 B z (λ_=>K (ci 0)) w) w) w.drew)) w)) w.drew)) w)) w):Gives Q 186 #[H,Z] w K:=au func186 kr (mpK h)
def Tp(h:bT .neq 64 Z (.pointer none) (λi w=>aM i true (λj=>bT .geq 3 H (ci 0) (λl=>j [H,l]) w) (λk=>k [uu,uu] w) λg=>pick i (gd g 1) cF λa w=>aM a true (λe=>aU Z (λa=>ao Q 100 a 0 λd=>ld Q 97 d λb=>lN 97 b λc=>lS H c λf=>e [H,Z,a,d,b,c,f]) w) (λk=>k [uu,uu,uu,uu,uu,uu,uu] w) λd=>pick a (gd d 6) cF K) w):Gives Q 203 #[Z,H] w K:=au func203 kr (mpK h)
def Vl(h:alc Q 282 (λh=>call Q 203 #[H,Z] λo=>un Q .not o λa w=>cond a (bld Q 282 #[] (λb=>sto Q 282 h b λ_=>aY Q [(some 282,h),(none,cF)] K) w) (aU H (λa=>ao Q 100 a 0 λa=>ld Q 97 a λa=>aW Q 97 a Z λc=>ld Q 282 c λd=>alc Q 282 λn=>sto Q 282 n d λ_=>aU H λe=>ao Q 100 e 0 λf=>ld Q 97 f λg=>nC Z λi=>call Q 204 #[g,Z,i] λj=>aU H λk=>ao Q 100 k 0 λl=>sto Q 97 l j λ_=>ld Q 282 n λm=>sto Q 282 h m λ_=>aY Q [(some 282,h),(none,cT)] K) w)) w):Gives Q 187 #[H,Z] w K:=au func187 kr (mpK h)
def Vj(h:call Q 187 #[H,Z] (λa=>ext Q a 0 λb=>ext Q a 1 λc=>alc Q 282 λd=>sto Q 282 d b λ_=>K c) w):Gives Q 189 #[H,Z] w K:=au func189 kr (mpK h)
def To(h:bT .eql 64 H (.pointer none) (λu w=>cond u (K (ci 2) w) (call Q 203 #[H,Z] (λa=>un Q .not a λb w=>cond b (K (ci 4) w) (aU H (λa=>ao Q 100 a 0 λc=>ld Q 97 c λd=>lN 97 d λe=>bT .geq 3 e (ci 128) λf w=>cond f (K (ci 7) w) (aF (λS w=>hN S H λg=>hF S 100 g 0 λi=>hL S 97 i λj=>hN S H λk=>hF S 100 k 0 λl=>hL S 97 l λm=>hI S 97 m Z λn=>hL S 282 n λo=>call Q 202 #[o] (λp=>aX S λS=>bM Q 97 1 #[(0,p)] λq=>aX S λ_=>blt Q .append #[97,97] 97 #[false,false] #[j,q] λr=>aF λS w=>hN S H λs=>hF S 100 s 0 λt=>sto Q 97 t r (λ_=>K (ci 0)) w) w) w.drew)) w)) w)) w):Gives Q 190 #[H,Z] w K:=au func190 kr (mpK h)
def Yg(h:bT .geq 3 H (ci 1) (λb w=>aM b true (λb=>bT .leq 3 H (ci 6) (λc=>b [H,c]) w) (λk=>k [uu,uu] w) λa=>pick b (gd a 1) cF K) w):Gives Q 207 #[H] w K:=au func207 kr (mpK h)
def qc(d b c a:oF)(zf:oD):=d::b::c::zT zf 3 7 (a::zT zf 11 27 ([]))
def LZ(c a b:oF)(zf:oD):=c::a::b::zT zf 3 35 ([])
def nS(K:KV):KE:=kZ f191 [1,1] K
def lC(K:KV):KE:=kY f191 (b1 103) (nS K) (xx xf (nS K) 0) K
def vX(K:KV):KE:=ai Q (cd f191 (b1 205)) (lC K) (xx xf (nS K) 0) (rk f191 K)
def WE(h:bT .eql 64 H (.pointer none) (λb w=>cond b (K (ci 2) w) (call Q 207 #[Z] (λa=>un Q .not a λc=>vX K (qc H Z U c (zV (zV zu 6 [ci 0,b,H,b]) 11 [Z,a,c]))) w)) w):Gives Q 191 #[H,Z,U] w K:=by refine au func191 kr <|rpT [1,0,0,1,1,0,1] (cd f191 (b1 205)) (cd f191 []) ?_;revert h;delta vX nS lC;generalize (cd f191 (b1 205))=xc0;exact mpF
def Tm(h:cond Y (lC K (qc U Z H Y zf) w) (call Q 207 #[H] (λc=>un Q .not c λa w=>cond a (lC K (qc U Z H a (zV zf 14 [H,c,a])) w) (bF .eql 3 Z H (λb=>lC K (qc U Z H b (zV zf 14 [H,c,a,Z,H,b]))) w)) w)):vX K (qc U Z H Y zf) w:=by delta vX;revert h;exact mpF
def IV(h:cond H (K (ci 10) w) (nS K (LZ U Y Z (zV zf 10 [H])) w)):lC K (qc U Y Z H zf) w:=by delta lC;revert h;exact mpF
def Tn(h:aF (λS w=>hld (λ_=>True) (bT .sub 3 U (ci 1)) λa=>hld (λ_=>True) (bT .sub 3 H (ci 1)) λb=>hld (λ_=>True) (bT .sub 3 H (ci 1)) λc=>hld (λ_=>True) (bT .sub 3 U (ci 1)) λd=>hN S Z λe=>hF S 100 e 1 λf=>hI S 98 f a λg=>hI S 35 g b λi=>hN S Z λj=>hF S 100 j 1 λk=>hI S 98 k c λl=>sto Q 4 i cT (λ_=>aX S λS w=>hI S 35 l d λm=>sto Q 4 m cT (λ_=>K (ci 0)) w) w) w.drew):nS K (LZ Z U H zf) w:=mpK h
attribute [irreducible] nS lC vX
def Vk(h:bT .neq 64 H (.pointer none) (λa w=>cond a (bld Q 98 #[] (λb=>aU H λc=>ao Q 100 c 1 λd=>sto Q 98 d b λ_=>K (.tuple #[])) w) (K (.tuple #[]) w)) w):Gives Q 161 #[H] w K:=au func161 kr (mpK h)
def WF(h:bT .eql 64 H (.pointer none) (λa w=>cond a (K (ci 0) w) (aU H (λa=>ao Q 100 a 0 λb=>ld Q 97 b λc=>lN 97 c K) w)) w):Gives Q 28 #[H] w K:=au func28 kr (mpK h)
def zR(h:bT .eql 30 H cN (λa w=>cond a (K cN w) (bM Q 30 0 #[] (λa=>blt Q .append #[30,30] 30 #[false,false] #[a,H] K) w)) w):Gives Q 225 #[H] w K:=au func225 kr (mpK h)
def xe(h:lN 97 H (λb=>slc Q 97 H (some U) (some Z) (some b) λ_=>bF .eql 3 U Z λc w=>cond c (K H w) (lN 97 H (λd w=>aF (λS w=>hld S (slc Q 97 H none (some U) none) λe=>hld S (slc Q 97 H (some Z) none none) λf=>blt Q .append #[97,97] 97 #[false,false] #[e,f] (λa=>aF λ_=>lN 97 a λg=>slc Q 97 a (some g) (some d) none λi=>blt Q .clear #[97] 0 #[false] #[i] λ_=>K a) w) w.drew) w)) w):Gives Q 204 #[H,U,Z] w K:=au func204 kr (mpK h)
section
variable {P:Program}
def zet{cs:Array Bool}{base:Nat}{i:TypeInfo}(v:P.underlying t=some (.slice e))(hi:P.info? e=some i)(b:i.size=s){n:Nat}(d:w.ownsRow base e s (.slice (some ⟨g,0,none⟩) n c) n xs){f:Addr}(k:ys.length=m*s)(q:∀j u,ys[j]? = some u->w.cell? (f.add j)=some u)(l:∀u∈ys,u.oneCell'=true)(a:n+m<=c)(h:∀S,S.ownsRow base e s (.slice (some ⟨g,0,none⟩) (n+m) c) (n+m) (xs++ys)->w.grownBy S (some g)->K (.slice (some ⟨g,0,none⟩) (n+m) c) S):blt P .append #[t,t] E cs #[.slice (some ⟨g,0,none⟩) n c,.slice (some f) m c2] K w:=by obtain⟨S,r,o,p⟩:=run_append_own_spare (P:=P) w base t E e i s v hi b g n c xs d f m c2 ys k q l a;exact qz (by rw[BigFrame.builtin_append];simp only[jY,r,jW,jX]) (h S o p)
def zbD{B n C l h:Nat}{a hi b:Option oF}(g:P.underlying t=some (.slice e))(f:∀w,(sizeOf e).run P w=.ok s w)(c:∀w,(Instr.sliceBounds true n C a hi b).run P w=.ok (l,h,m) w)(d:K (.slice (some ⟨B,(if m=l then o else o+l*s),none⟩) (h-l) (m-l)) w):slc P t (.slice (some ⟨B,o,none⟩) n C) a hi b K w:=by unfold slc;refine dR (w':=w) ?_ d;simp only[Instr.sliceAt,Instr.slice,jY,jZ g,jW,c,f,jX];split<;>simp[zw]
def zkU{cs:Array Bool}{base n:Nat}{i:TypeInfo}{z:oF}{o:Addr}(J:P.underlying t=some (.slice e))(hi:P.info? e=some i)(L:i.zero=some z)(l:i.size=s)(r:i.bytes=b)(B:z.cells.size=s)(x:0<s)(f:w.ownsRow base e s (.slice av 0 0) 0 [])(A:xs.length=n*s)(v:∀j u,xs[j]? = some u->w.cell? (o.add j)=some u)(D:∀u∈xs,u.oneCell'=true)(d:n*b<=140737488355328)(G:n<=9223372036854775807)(a:base<=w.heap.size)(h:∀m c' S,S.ownsRow base e s (.slice m n c') n xs->Below base w S->K (.slice m n c') S):blt P .append #[t,t] E cs #[.slice av 0 0,.slice (some o) n c] K w:=by
 obtain⟨M,S,I,q,F,_,N⟩:=run_append_own_at (P:=P) w base t E e i z s b J hi L l r B x _ 0 [] f o n c xs A v D (by simp only[maxLen];omega) (by rw[oK];exact d) a;rw[oK,oV]at q;obtain⟨m,c',rfl⟩:∃m c',M=.slice m n c':=by
  rcases q.2 with⟨y,v⟩|⟨g,p,C,y,_⟩
  .exact⟨none,0,by rw[y,v]⟩
  .exact⟨_,p,y⟩
 exact qz (by rw[BigFrame.builtin_append];simp only[jY,I,jW,jX]) (h m c' S q (bX F a (λk H=>(jT f k H).1)))
def zis{i:TypeInfo}{base:Nat}(j:P.underlying t=some (.slice e))(hi:P.info? e=some i)(b:i.size=s)(a:base<=w.heap.size)(h:∀w',w'.ownsRow base e s (.slice (some ⟨w.heap.size,0,none⟩) 0 0) 0 []->Below w.heap.size w w'->K (.slice (some ⟨w.heap.size,0,none⟩) 0 0) w'):bM P t 0 #[] K w:=by
 unfold bM;have g:(w.alloc (.cells #[] e)).ownsRow base e s (.slice (some ⟨w.heap.size,0,none⟩) 0 0) 0 []:=by
  refine⟨by simp,.inr ⟨w.heap.size,0,#[],rfl,a,?_,Nat.le_refl _,qG _,by simp,by simp⟩⟩;exact heap_alloc_new w (.cells #[] e)
 refine dR (w':=w.alloc (.cells #[] e)) (v:=.slice (some ⟨w.heap.size,0,none⟩) 0 0) ?_ (h _ g (bX (World.grownBy_alloc _ _ none) oA (λk d=>by cases d)));have c:∀f:oD,(Array.range 0).map f=#[]:=λf=>by apply Array.ext<;>simp
 simp[Instr.buildSlice,Instr.fill,jZ j,sizeOf,typeInfo,hi,b,newRow,c]
def zit{n l:Nat}(d:l<=m)(e:m<=c):∀w,(Instr.sliceBounds true n c (some (ci (l:Nat))) (some (ci (m:Nat))) none).run P w=.ok (l,m,c) w:=λw=>by
 have a:=run_sliceBound (P:=P) w .i64 (m:Int) c .sliceAcap oo oo;have b:=run_sliceBound (P:=P) w .i64 (l:Int) m .sliceB oo oo;simp[Instr.sliceBounds]at a b |-;rw[a];simp[b]
def zgG{n l q:Nat}(e:l<=m)(f:m<=q)(g:q<=c):∀w,(Instr.sliceBounds true n c (some (ci (l:Nat))) (some (ci (m:Nat))) (some (ci (q:Nat)))).run P w=.ok (l,m,q) w:=λw=>by
 have a:=run_sliceBound (P:=P) w .i64 (q:Int) c .slice3Acap oo oo;have b:=run_sliceBound (P:=P) w .i64 (m:Int) q .slice3B oo oo;have d:=run_sliceBound (P:=P) w .i64 (l:Int) m .slice3C oo oo;simp[Instr.sliceBounds]at a b d |-;rw[a];simp[b,d]
def ziz{ty:TypeId}{i:TypeInfo}{z:oF}(p:P.underlying t=some (.slice e))(hi:P.info? e=some i)(q:i.zero=some z){n:Nat}{zs:oE}(k:(Builtin.zeroCells z.cells (n+1)).toList=zs)(d:blk w g E xs)(f:o+zs.length<=xs.length)(l:∀v∈zs,v.oneCell'=true)(h:∀w',blk w' g E (xs.take o++zs++xs.drop (o+zs.length))->Oth g w w'->K (.tuple #[]) w'):blt P .clear #[t] ty u0 #[.slice (some ⟨g,o,none⟩) (n+1) c] K w:=by
 have a:(Builtin.clear_ #[t] ty #[.slice (some ⟨g,o,none⟩) (n+1) c]).run P w=.ok (.tuple #[]) (w.setCells g o zs):=by
  have b:=run_storeCells_cells (P:=P) g o zs 0 w (λj m=>by rw[d.cell,gE oo];rfl) (λj m=>d.frozen _) l;simp only[qW]at b;simp[Builtin.clear_,jZ p,jY,zeroValue,typeInfo,hi,q,k,b]
 exact qz (v:=.tuple #[]) (w':=w.setCells g o zs) (by rw[BigFrame.builtin_clear];simp only[jY,a,jW,jX]) (h _ (Qo zs o w xs d f) (Mi g zs o w))
end
section
attribute [local irreducible] bin un conv call bA blt slc ao fld aW idx lkp fk mW eSt rng nxt ent ext alc box bld bM ld sto aU fl mkS ifc pick rdy wts aM sti cond aY Gives ai iy ke cOp
section
open Go.ChangeMaps
def SO.chl{B:Nat}{s:PL}{t:STA}{F:List Nat}(h:SO w B s t a gc)(d:Ch F w S)(hF:∀k∈F,k<B):SO S B s t a gc :=
 {h with
  nd:=cn h.nd λk b=>d.block k (jT h.nd k b).2 λc=>by have:=hF k c;have:=(jT h.nd k b).1;omega
  gr:=cn h.gr λk b=>d.block k (jT h.gr k b).2 λc=>by have:=hF k c;have:=(jT h.gr k b).1;omega}
def RepW.low{B:Nat}{X:RpX}{s:RS}(h:RepW w i X s)(a:∀k∈AF X,k<B)(b:Below B w S):RepW S i X s:=h.keep λk c=>b.block k (a k c)
def TP:some (iv ((i+1:Nat)))=some (iv ((i:Int)+1)):=qH (λz=>some (iv z)) (by push_cast;rfl)
section
variable {X:RpX}{s:RS}
def zj4{B n:Nat}{L:List Int}{K2:oF->KV}(k:ON w B a n c L)(i:L.length=n)(e:L[j]? = some x)(h:∀u,K2 u (iv x) w):aW Q 47 (.slice a n c) (iv (j:Nat)) (λu w=>ld Q 3 u (K2 u) w) w:=by
 have l:j<n:=by rw[<-i];exact(gS e).1
 obtain⟨g,b,rfl,f⟩:=gy k oo;refine fQ underlying47 (s:=1) kf oo oo ?_;rw[oQ];refine lK (v:=iv x) f.blk ?_ (h _);have d:(b.take (n*1))[j]? = some (iv x):=by rw[f.take,qC,e];rfl
 rw[jN oo]at d;rw[oK,Nat.mul_one];exact d
def zhN{cj:Int}(h:RepW w i X s)(B:PI s.l)(hi:i<6)(hG:s.l.G.length<=1000000)(hA:∀e∈s.A,e.q<6)(ci:s.A.Pairwise λa b=>a.q=b.q->a.s<b.s)(bW:s.A.length<=30000)(c:∀w' X' (T:List MGT) oa oc,StpX w w' X X'->RepW w' i X' s->(∀x∈T,TMok 6 i s x/\TMk w.heap.size w' x)->((i:Int)+1∈mT s.l.I s.l.L 6->∀j:Nat,(j:Int)+1∈mT s.l.I s.l.L 6->j≠i->∃x∈T,x.1.k=1/\x.1.t=j)->(T.length<=38/\(X.ws=[]->T.length<=(mT s.l.I s.l.L 6).length-1))->w'.ownsRow w.heap.size 282 12 (.slice oa T.length oc) T.length (T.flatMap tmC)->(∀k∈AF X',k<w.heap.size)->X'.W=X.W->K (.slice oa T.length oc) w'):call Q 200 #[pB X.R.p,u6 cj] K w:=by
 have hX:=h.lt;refine aj (goK func200) (JN (LC (aA (aq (rS (lK (v:=pB X.R.q.p) h.rp.b rfl ?_))))));refine Ty h.rp.pm B hG λw1 t ga gc so b1=>?_;have aF:(saC t).length=20:=rD (by rw[so.eI];exact B.i6) (by rw[so.eL];exact B.l6) (by rw[so.eV];exact B.v6);have ck:∀v∈saC t,v.oneCell'=true:=by
  intro v hv;unfold saC at hv;rw[so.gv]at hv;simp only[oU,qU,oO,oR,or_false]at hv;rcases hv with((⟨_,_,rfl⟩|⟨_,_,rfl⟩)|⟨_,_,rfl⟩)|(rfl|rfl)<;>rfl
 refine bO (z:=.agg (saC ⟨List.replicate 6 false,List.replicate 6 false,List.replicate 6 0,[],none,0,.slice none 0 0⟩).toArray) kr λw2 z2 b2 s2=>?_;have z2:=cZ z2
 refine eW (n:=20) (vs:=saC t) kr aF z2 (by show 0+20<=20;omega) ck λw3 z3 o3=>?_;rw[qY,oV,oS (by show 20<=0+20;omega),oW]at z3;have bg:=aD b2 o3 oA;have aG:=tB b1 bg
 have bH:∀{y:oG} {K:KV},blk y w1.heap.size 42 (saC t)->K (.agg (saC t).toArray) y->ld Q 42 (pB w1.heap.size) K y:=λu c=>ldA (n:=20) (vs:=saC t) underlying42 rfl kr u dTk aF c;have bM:=so.fresh bg;refine bH z3 (zds (bM.sk B) λw4 la lc ho b4=>?_);rw[so.eI,so.eL]at ho |-;have bw:=zfj s.l.I s.l.L
 have bn:∀q v,(mT s.l.I s.l.L 6)[q]? = some v->∃t:Nat,v=(t:Int)+1/\t<6:=λq v hq=>by
  obtain⟨t,h1,h2,_⟩:=zhk hq;exact⟨t,h1,h2⟩
 generalize cB:mT s.l.I s.l.L 6=Lv at ho bw bn c |-;obtain⟨k,aK⟩:∃k,Lv.length=k:=⟨_,rfl⟩
 rw[aK]at ho bw |-;have cu:=bM.fresh b4;have ad:=tB aG b4;have h4:=h.below ad;have z4:=ae b4 z3 z3.lt;refine aq (sY (lK (v:=iv ((i:Int)+1)) h4.rp.b TP (zbZ ho aK oo (bc ?_))));by_cases ap:(i:Int)+1∈Lv
 rotate_left
 .rw[qE ap];exact aV (c w4 X [] none 0 (.refl ad) h4 oB (λO=>qI O ap) ⟨by simp,λ_=>qG _⟩ (World.ownsRow_nil _ _ _ _) hX rfl)
 rw[qF ap];refine aA (aq (MR (lK (v:=pB X.R.d) h4.rp.b rfl ?_)));refine zgP h4.dm λw5 a0 c0 T0 b5 cC bt aO r0=>bv underlying324 ?_;have bf:=tB ad b5;have h5:=h4.below b5;have cK:=ad.size;have cL:=bf.size;have cH:=h.dm.mb.lt;have aW:∀b∈wB X.ws,b<w.heap.size:=λb hb=>h.dm.lt b (by simp[hb])
 refine Hf (Inv:=λj wr=>∃(q:Nat) (a7:List (Int×Option Nat)),j=iv (q:Nat)/\q<=T0.length/\RepW wr i {X with ws:=a7} s/\StpX w5 wr X {X with ws:=a7}/\Ch [X.m] w5 wr/\(∀p∈a7,p∈X.ws/\∀(r:Nat) (x:Int×Int),r<q->T0[r]? = some x->x.1=p.1->Em s.l ((i:Int)+1) p.1<x.2)) (μ:=mU T0.length)
  ⟨0,X.ws,rfl,qG _,h5,.refl (jU _ _),Ch.refl _ _,λp B=>⟨B,λr x a=>by omega⟩⟩ ?_
 rintro _ dd N mu ⟨q,ws1,rfl,hq,h6,bN,c6,ak⟩ cc;have cr:=c6.size;have am:∀k∈wB ws1,k∈wB X.ws:=λk f=>by
  obtain⟨p,B,e⟩:=ti.1 f;exact ti.2 ⟨p,(ak p B).1,e⟩
 refine aL ?_;by_cases F:q<T0.length
 .have C:T0[q]? = some T0[q]:=gE F;generalize T0[q]=x at C;have r6:=cn r0 (w':=N) λk f=>c6.block k (jT r0 k f).2 λO=>by have:=(jT r0 k f).1;rw[mS O]at this;omega
  refine ay oo (Hc (BE (i:=q) (enc:=wnC) (s:=2) (L:=T0) (x:=x) underlying324 kf underlying290 rfl kr (λ_=>rfl) r6 rfl C λ_=>zg2 λw7 z7 b7=>?_));have h7:=h6.below b7;refine aw (λy=>blk y X.R.p 133 (rpC X.R i)/\blk y N.heap.size 290 (wnC x)) ⟨h7.rp.b.drew,z7.drew⟩ ?_;refine hZ (hW rS (ac (v:=pB X.R.q.p) (λy d _ c=>lK d.1 rfl c) ?_))
  refine hZ (hW sY (ac (v:=iv ((i:Int)+1)) (λy d _ c=>lK (v:=iv ((i:Int)+1)) d.1 TP c) ?_));refine hW BR (ac (v:=u6 x.1) (λy d _ c=>lK d.2 rfl c) (hW MV (ac (v:=iv x.2) (λy d _ c=>lK d.2 rfl c) ?_)));have ah:=h7.below (jU _ w7).drew;refine NG ah.rp.pm B λw8 b8=>?_;have S:Below w7.heap.size w7 w8:=(jU _ w7).drew.trans b8;have aH:=tB b7 S
  have h8:=h6.below aH;have z8:=ae S z7 z7.lt;have bP:=bN.trans (.refl aH);have c8:Ch [X.m] w5 w8:=c6.add (aH.mono cr);have M:T0.length-(intOf (iv ((q:Int)+1))).toNat<mu:=by rw[cc];show T0.length-((q:Int)+1).toNat<T0.length-((q:Nat):Int).toNat;omega
  refine aB ⟨h8.rp.b,z8⟩ (ac (v:=.bool (decide (x.2<=Em s.l ((i:Int)+1) x.1))) (λy _ _ c=>bR c) ?_);by_cases bs:x.2<=Em s.l ((i:Int)+1) x.1
  .refine ay bs (aw (λy=>blk y X.R.p 133 (rpC X.R i)/\blk y N.heap.size 290 (wnC x)) ⟨h8.rp.b.drew,z8.drew⟩ ?_);refine hZ (hW MR (ac (v:=pB X.R.d) (λy d _ c=>lK d.1 rfl c) ?_));refine hW BR (ac (v:=u6 x.1) (λy d _ c=>lK d.2 rfl c) ?_);have bm:=h8.below (jU _ w8).drew
   refine zgO bm.dm λw9 r9 d9 c9=>yj (aR oo oo ⟨⟨q+1,ud ws1 x.1,ivS,F,?_,?_,?_,λp B=>?_⟩,M⟩)
   .exact bm.want d9 (c9.mono λk f=>by rw[mS f];exact oL) λk f=>by
     obtain⟨p,B,e⟩:=ti.1 f;exact .inl (ti.2 ⟨p,(zK.1 B).1,e⟩)
   .exact(bP.trans (.refl (jU _ w8).drew)).trans (.ws (X:={X with ws:=ws1}) (c9.mono λk f=>by rw[mS f];exact oL) λk f=>by
     obtain⟨p,B,e⟩:=ti.1 f;exact .inl (ti.2 ⟨p,(zK.1 B).1,e⟩))
   .exact(c8.add ((jU _ w8).drew.mono c8.size)).trans c9 λk f=>.inl f
   .obtain⟨cf,cd⟩:=zK.1 B;obtain⟨aS,aT⟩:=ak p cf;refine⟨aS,λr y hr u e=>?_⟩;by_cases Z:r=q
    .subst Z;rw[C]at u;cases u;exact qI e.symm cd
    .exact aT r y oo u e
  .refine ax bs (yj (aR oo oo ⟨⟨q+1,ws1,ivS,F,h8,bP,c8,λp B=>?_⟩,M⟩));obtain⟨aS,aT⟩:=ak p B;refine⟨aS,λr y hr u e=>?_⟩;by_cases Z:r=q
   .subst Z;rw[C]at u;cases u;rw[<-e];omega
   .exact aT r y oo u e
 have aU:q=T0.length:=by omega
 subst aU;have aE:StpX w N X {X with ws:=ws1}:=(StpX.refl bf).trans bN;have ao:∀k∈AF {X with ws:=ws1},k<w.heap.size:=λk f=>by
  rcases ow.1 f with f|f|f|f|f
  .exact hX k (ow.2 (.inl f))
  .exact hX k (ow.2 (.inr (.inl f)))
  .exact hX k (ow.2 (.inr (.inr (.inl f))))
  .exact hX k (ow.2 (.inr (.inr (.inr (.inl f)))))
  .refine hX k (ow.2 (.inr (.inr (.inr (.inr (mX.2 ?_))))));rcases mX.1 f with f|f|f
   .exact .inl f
   .exact .inr (.inl f)
   .exact .inr (.inr (am k f))
 have m6:∀k,w.heap.size<=k->k∉[X.m]:=λk f O=>by rw[mS O]at f;omega
 have bF:ON N w3.heap.size la k lc Lv:=cn (cn ho λk f=>b5.block k (jT ho k f).2) λq hq=>by
  have h1:=jT ho q hq;exact c6.block q (by have:=b5.size;omega) (m6 q (by have:=aG.size;omega))
 have z6:blk N w1.heap.size 42 (saC t):=(ae b5 z4 z4.lt).ch c6 (m6 _ b1.size);have cv:SO N (w.heap.size+1) s.l t ga gc:=(cu.fresh b5).chl c6 λk f=>by rw[mS f];omega
 have al:=aE.ch.size;have ag:=(Mg (t:=t) (by rw[so.eI];exact B.i6) (by rw[so.eL];exact B.l6) (by rw[so.eV];exact B.v6)).2.2;rw[so.eV]at ag;have ab:=B.v6;obtain⟨mi,bz,bD,bA,bx⟩:=info_parts SW;refine ax oo (Hi (bv underlying47 ?_))
 refine Hg (Inv:=λaY j wr=>∃(q:Nat) (T:List MGT) (oa:Option Addr) (oc:Nat),j=iv (q:Nat)/\q<=k/\aY=.slice oa T.length oc/\(T.length<=q/\((i:Int)+1∈Lv.take q->T.length+1<=q))/\Below N.heap.size N wr/\(∀x∈T,TMok 6 i s x/\TMk w.heap.size wr x)/\(∀(r j:Nat),r<q->Lv[r]? = some ((j:Int)+1)->j≠i->∃x∈T,x.1.k=1/\x.1.t=j)/\wr.ownsRow N.heap.size 282 12 (.slice oa T.length oc) T.length (T.flatMap tmC)) (μ:=mV k)
  ⟨0,[],none,0,rfl,qG _,rfl,⟨Nat.le_refl _,λO=>by cases O⟩,jU _ _,by simp,λr j a=>by omega,World.ownsRow_nil _ _ _ _⟩ ?_
 rintro _ _ dd w7 mu2 ⟨q,T,oa,oc,rfl,hq,rfl,⟨cF,bp⟩,b7,hT,aN,r7⟩ bB;have h7:=h6.low ao (b7.mono al);have z7:=ae b7 z6 z6.lt;have ct:=b7.size;refine aL ?_;by_cases F:q<k
 .have ce:ON w7 w3.heap.size la k lc Lv:=cn bF λk f=>b7.block k (jT bF k f).2;have M:k-(intOf (iv ((q:Int)+1))).toNat<mu2:=by rw[bB];show k-((q:Int)+1).toNat<k-((q:Nat):Int).toNat;omega
  have u:Lv[q]? = some Lv[q]:=gE oo;obtain⟨jq,bV,bu⟩:=bn q _ u;rw[bV]at u;refine ay oo (Hd (zj4 ce aK u λ_=>aq (sY (lK (v:=iv ((i:Int)+1)) h7.rp.b TP (aZ ?_)))));by_cases cg:jq=i
  .refine ax oo (yk (aR oo oo ⟨⟨q+1,T,oa,oc,ivS,F,rfl,⟨by omega,λ_=>by omega⟩,b7,hT,λr j hr Y U=>?_,r7⟩,M⟩));by_cases Z:r=q
   .subst Z;rw[u]at Y;cases Y;omega
   .exact aN r j oo Y U
  .have cJ:s.P.length=6:=h.rp.e.l6;obtain⟨v,hv⟩:=gX (L:=s.P) (i:=jq) oo;refine ay oo (aw (λy=>blk y X.R.p 133 (rpC X.R i)/\blk y w1.heap.size 42 (saC t)) ⟨h7.rp.b.drew,z7.drew⟩ ?_);refine hZ (hW sY (ac (v:=iv ((i:Int)+1)) (λy d _ c=>lK (v:=iv ((i:Int)+1)) d.1 TP c) ?_))
   refine hW Ef (ac (λy d _ c=>ldA (n:=6) (vs:=vCs s.l.V) underlying38 rfl kr d.2 ag (by rw[bh];exact ab) c) ?_);refine hZ (hW Zg (ac (v:=pB X.R.e) (λy d _ c=>lK d.1 rfl c) ?_));refine hZ (hW SI (ac (v:=pB X.R.g) (λy d _ c=>lK d.1 rfl c) ?_));have ah:=h7.below (jU _ w7).drew;refine zhg ah.rp.e bu hv ah.rp.g ah.it hA ci bW λw8 fa fc r8 b8=>?_
   have S:Below w7.heap.size w7 w8:=(jU _ w7).drew.trans b8;have z8:=ae S z7 z7.lt;refine aB ⟨(h7.below S).rp.b,z8⟩ ?_;obtain⟨x,C⟩:∃x:MGT,x=(⟨1,i,jq,s.l.V,0,0,tl s.A v⟩,fa,fc):=⟨_,rfl⟩
   have em:mgC 1 ((i:Int)+1) ((jq:Int)+1) s.l.V (.slice fa (tl s.A v).length fc) 0 0=tmC x:=by rw[C,Qv ab]
   refine ac (v:=.agg (tmC x).toArray) (λy d _ c=>zk8 ab (by rw[em];exact c)) ?_;refine nV [.agg (tmC x).toArray] underlying97 (s:=12) kr kr oo rfl oB dc rfl (by
    intro v hv;rw[mS hv]
    have:=dN x
    simpa[Value.cells]using this) λw9 m9 b9 s9=>?_
   have m9:=cZ m9
   have an:=tB S b9;have r9:=cn r7 (w':=w9) λk f=>an.block k (jT r7 k f).2;have cP:=an.size;refine hRT (wK (enc:=tmC) (x:=x) underlying97 bz bD bA bx rfl oo dN r9 m9 (wm x) oo oo oo λa' c' w10 cm bj af _=>?_);have hl:(T++[x]).length=T.length+1:=by simp
   refine hRT (yk (aR oo oo ⟨⟨q+1,T++[x],a',c',ivS,F,qH (λn=>Value.slice a' n c') hl.symm,⟨by omega,λO=>by
    rw[List.take_add_one,u,oU]at O
    have:=bp (O.resolve_right λa=>by simp at a;omega)
    omega⟩,(b7.trans (an.mono ct)).trans af,λy u=>?_,λr j hr Y U=>?_,by rw[hl];exact cm⟩,M⟩))
   .rcases oU.1 u with u|u
    .obtain⟨y1,y2⟩:=hT y u;exact⟨y1,(y2.below an).grow r9 bj⟩
    .rw[mS u];obtain⟨v1,v2⟩:=zdH r8 rfl;subst C;refine⟨⟨rfl,bu,cg,rfl,.inl ⟨rfl,rfl,rfl,v,hv,rfl⟩⟩,TMk.grow (TMk.below (w:=w8) ⟨v1,λb o ha=>?_⟩ b9) r9 bj⟩;obtain⟨e1,e2⟩:=v2 b o ha;exact⟨by have d7:w7.drew.heap.size=w7.heap.size:=rfl;omega,e2⟩
   .by_cases Z:r=q
    .subst Z;rw[u]at Y;exact⟨x,by simp,by rw[C],by rw[C];show jq=j;simp at Y;omega⟩
    .obtain⟨y,y1,y2⟩:=aN r j oo Y U;exact⟨y,List.mem_append_left _ y1,y2⟩
 have aU:q=k:=by omega
 have bX:∀j:Nat,(j:Int)+1∈Lv->j≠i->∃x∈T,x.1.k=1/\x.1.t=j:=λj hj U=>by
  obtain⟨r,hr⟩:=List.getElem?_of_mem hj;exact aN r j (by have:=(gS hr).1;omega) hr U
 refine ax oo (Hj (aq (MR (lK (v:=pB X.R.d) h7.rp.b rfl ?_))));refine ziK h7.dm λw8 a1 c1 T1 d8 c8 cR cD aC r8=>bv underlying324 ?_;have bo:∀x∈T1,Em s.l ((i:Int)+1) x.1<x.2/\x.2<=Cw/\x.1≠0:=λx C=>by
  obtain⟨b,t1,y1,hm,hb⟩:=aC x C;obtain⟨aQ,cb⟩:=ak _ hm;obtain⟨x0,bG,e0⟩:=aO _ aQ;obtain⟨b0,t0,y0,ca,br⟩:=bt x0 bG;have bE:=h.dm.mb.nodup;have g1:=mY bE aQ;have g2:=mY bE ca;rw[e0,g1]at g2;cases g2;have bY:blk w7 b 292 (wtC x0.1 x0.2 t0 y0):=by
   have cG:b<w.heap.size:=aW b (ti.2 ⟨_,aQ,rfl⟩);have e5:=ae b5 br br.lt;have e6:=e5.ch c6 λO=>h5.dm.mb.ne e5 (mS O);exact ae b7 e6 e6.lt
  obtain⟨e1,e2⟩:=Mr bY hb;obtain⟨r,hr⟩:=List.getElem?_of_mem bG
  have:=cb r x0 (gS hr).1 hr e1
  obtain⟨b3,a3,t3,y3,f1,f2,f3,f4,f5⟩:=h7.dm.wt _ hm;cases f1;obtain⟨_,e4⟩:=Mr f2 hb;exact⟨by rw[<-e2];exact this,by omega,f5⟩
 have h8:RepW w8 i {X with ws:=ws1} s:=h7.want d8 (c8.mono λk f=>oH _ f) λk f=>.inl f;have aa:StpX w w8 X {X with ws:=ws1}:=(aE.trans (.refl b7)).trans (.ws (X:={X with ws:=ws1}) (c8.mono λk f=>oH _ f) λk f=>.inl f);have bU:Ch (wB ws1) N w8:=(Ch.of_below b7:Ch (wB ws1) N w7).trans c8 λk f=>.inl f
 have nb:∀k,w.heap.size<=k->k∉wB ws1:=λk f O=>by have:=aW k (am k O);omega
 have cp:=cn r7 (w':=w8) λk f=>c8.block k (jT r7 k f).2 (nb k (by have:=(jT r7 k f).1;omega));have cO:=c8.size;have T8:∀x∈T,TMok 6 i s x/\TMk w.heap.size w8 x:=λx C=>by
  obtain⟨y1,y2⟩:=hT x C;exact⟨y1,y2.kp λk a f=>c8.block k f.lt λO=>by
   obtain⟨_,_,_,_,hb,_⟩:=h7.dm.isw O;exact qI rfl (hb.ne f dc)⟩
 refine Hh (Inv:=λa j b=>∃(p:Nat) (T':List MGT) (oa:Option Addr) (oc:Nat),j=iv (p:Nat)/\p<=T1.length/\a=.slice oa T'.length oc/\(T.length<=T'.length/\T'.length<=T.length+p)/\Below N.heap.size w8 b/\w8.heap.size<=b.heap.size/\(∀x∈T',TMok 6 i s x/\TMk w.heap.size b x)/\(∀j:Nat,(j:Int)+1∈Lv->j≠i->∃x∈T',x.1.k=1/\x.1.t=j)/\b.ownsRow N.heap.size 282 12 (.slice oa T'.length oc) T'.length (T'.flatMap tmC)/\b.ownsRow w7.heap.size 290 2 (.slice a1 T1.length c1) T1.length (T1.flatMap wnC)) (μ:=mV T1.length)
  ⟨0,T,oa,oc,rfl,qG _,rfl,⟨Nat.le_refl _,Nat.le_refl _⟩,jU _ _,Nat.le_refl _,T8,bX,cp,r8⟩ ?_
 rintro _ _ dd w9 mu3 ⟨p,T',bI,bJ,rfl,cI,rfl,⟨bq,cE⟩,b9,cQ,aM,ai,r9,q9⟩ bC;refine aL ?_;by_cases F:p<T1.length
 .have M:T1.length-(intOf (iv ((p:Int)+1))).toNat<mu3:=by rw[bC];show T1.length-((p:Int)+1).toNat<T1.length-((p:Nat):Int).toNat;omega
  obtain⟨x,C⟩:=gX F;obtain⟨k1,k2,k3⟩:=bo x (mO C);refine ay oo (He (BE (i:=p) (enc:=wnC) (s:=2) (L:=T1) (x:=x) underlying324 kf underlying290 rfl kr (λ_=>rfl) q9 rfl C λ_=>zg2 λw10 a8 af=>?_));have au:=b9.trans (af.mono oo);have az:Ch (wB ws1) N w10:=bU.add au;have ba:=z6.ch az (nb _ b1.size)
  have bk:=h8.low ao (au.mono al);have bK:=cv.chl az λk f=>by have:=aW k (am k f);omega
  refine aw (λy=>(blk y X.R.p 133 (rpC X.R i)/\blk y w1.heap.size 42 (saC t))/\blk y w9.heap.size 290 (wnC x)) ⟨⟨bk.rp.b.drew,ba.drew⟩,a8.drew⟩ <|ac (λy d _ c=>bH d.1.2 c) ?_;refine hZ (hW sY (ac (v:=iv ((i:Int)+1)) (λy d _ c=>lK (v:=iv ((i:Int)+1)) d.1.1 TP c) ?_));refine hW BR (ac (v:=u6 x.1) (λy d _ c=>lK d.2 rfl c) ?_);have ar:=bDr w10
  refine zk0 (s:=s.l) ((bK.fresh ar).sk B) so.eI so.eL λw11 j hj bQ=>?_;have H:=ar.trans bQ;have J:=tB af H;have cy:=J.size;refine hRT (aZ ?_);have bb:=ae H ba ba.lt;have aJ:=bk.below H;have a9:=ae H a8 a8.lt;have a2:=cn q9 (w':=w11) λk f=>J.block k (jT q9 k f).2
  have a4:=cn r9 (w':=w11) λk f=>J.block k (jT r9 k f).2;have bd:∀x∈T',TMok 6 i s x/\TMk w.heap.size w11 x:=λx C=>⟨(aM x C).1,(aM x C).2.below J⟩
  have av:=b9.trans (J.mono oo);by_cases aP:j≠0
  .obtain⟨jt,rfl,bZ,b6⟩:=zkx (by
    have:=hj.resolve_left aP
    rw[show ((i+1:Nat):Int)=(i:Int)+1 by push_cast;rfl];exact this)
   refine ay aP (aw (λy=>(blk y X.R.p 133 (rpC X.R i)/\blk y w1.heap.size 42 (saC t))/\blk y w9.heap.size 290 (wnC x)) ⟨⟨aJ.rp.b.drew,bb.drew⟩,a9.drew⟩ ?_);refine hZ (hW sY (ac (v:=iv ((i:Int)+1)) (λy d _ c=>lK (v:=iv ((i:Int)+1)) d.1.1 TP c) ?_));refine hW Ef (ac (λy d _ c=>ldA (n:=6) (vs:=vCs s.l.V) underlying38 rfl kr d.1.2 ag (by rw[bh];exact ab) c) ?_)
   refine hW BR (ac (v:=u6 x.1) (λy d _ c=>lK d.2 rfl c) (hW MV (ac (v:=iv x.2) (λy d _ c=>lK d.2 rfl c) ?_)));refine hZ (hW rS (ac (v:=pB X.R.q.p) (λy d _ c=>lK d.1.1 rfl c) ?_));refine hZ (hW sY (ac (v:=iv ((i:Int)+1)) (λy d _ c=>lK (v:=iv ((i:Int)+1)) d.1.1 TP c) ?_));refine hW BR (ac (v:=u6 x.1) (λy d _ c=>lK d.2 rfl c) ?_);have bl:=aJ.below (jU _ w11).drew
   refine NG bl.rp.pm B λw12 bS=>?_;have D:Below w11.heap.size w11 w12:=(jU _ w11).drew.trans bS;have cx:=zhl (s:=s.l) (i:=(i:Int)+1) (node:=x.1);have cA:Cw=1125899906842624:=rfl
   refine aB ⟨⟨(aJ.below D).rp.b,ae D bb bb.lt⟩,ae D a9 a9.lt⟩ <|ac (v:=iv (x.2-Em s.l ((i:Int)+1) x.1)) (λy _ _ c=>bL (by show _<=x.2-Em s.l ((i:Int)+1) x.1;omega) (by show x.2-Em s.l ((i:Int)+1) x.1<=_;omega) c) ?_;obtain⟨m,hm⟩:∃m:MGT,m=(⟨2,i,jt,s.l.V,x.1,x.2-Em s.l ((i:Int)+1) x.1,[]⟩,none,0):=⟨_,rfl⟩
   have em:mgC 2 ((i:Int)+1) ((jt:Int)+1) s.l.V (.slice none 0 0) x.1 (x.2-Em s.l ((i:Int)+1) x.1)=tmC m:=by rw[hm,Qv ab];rfl
   refine ac (v:=.agg (tmC m).toArray) (λy d _ c=>zk9 ab (by rw[em];exact c)) ?_;refine nV [.agg (tmC m).toArray] underlying97 (s:=12) kr kr oo rfl oB dc rfl (by
    intro v hv;rw[mS hv]
    have:=dN m
    simpa[Value.cells]using this) λa6 aX bi cM=>?_
   have aX:=cZ aX
   have E:=tB D bi;have a5:=cn a4 (w':=a6) λk f=>E.block k (jT a4 k f).2;have cl:=cn a2 (w':=a6) λk f=>E.block k (jT a2 k f).2;have cq:=E.size;refine hRT (wK (enc:=tmC) (x:=m) underlying97 bz bD bA bx rfl oo dN a5 aX (wm m) oo oo oo λa' c' cS co aI bT _=>?_)
   have hl:(T'++[m]).length=T'.length+1:=by simp
   have cN:=aI.size;refine hRT (yl (aR oo oo ⟨⟨p+1,T'++[m],a',c',ivS,F,qH (λn=>Value.slice a' n c') hl.symm,⟨by rw[hl];omega,by rw[hl];omega⟩,(av.trans (E.mono oo)).trans bT,by omega,λy u=>?_,λj hj U=>?_,by rw[hl];exact co,PY cl a5 dc aI⟩,M⟩))
   .rcases oU.1 u with u|u
    .obtain⟨y1,y2⟩:=bd y u;exact⟨y1,(y2.below E).grow a5 aI⟩
    .rw[mS u];subst hm;refine⟨⟨rfl,bZ,b6,rfl,.inr ⟨rfl,rfl,rfl,rfl,k3,by show 1<=x.2-Em s.l ((i:Int)+1) x.1;omega,by show x.2-Em s.l ((i:Int)+1) x.1<=Cw;omega⟩⟩,⟨⟨rfl,λa=>qI a (qX 0),λi x C=>by simp at C⟩,λb o a=>by cases a⟩⟩
   .obtain⟨y,y1,y2⟩:=ai j hj U;exact⟨y,List.mem_append_left _ y1,y2⟩
  .exact ax aP (yl (aR oo oo ⟨⟨p+1,T',bI,bJ,ivS,F,rfl,⟨bq,by omega⟩,av,by omega,bd,ai,a4,a2⟩,M⟩))
 .refine ax oo (Hk (c w9 {X with ws:=ws1} T' bI bJ ?_ (h8.low ao (b9.mono al)) aM (λ_=>ai) ⟨by omega,λhz=>?_⟩ (wC r9 al) ao rfl))
  .exact⟨aa.R,aa.m,aa.ch.add (b9.mono al),aa.new⟩
  .have e1:T1=[]:=List.eq_nil_iff_forall_not_mem.2 λx C=>by
    obtain⟨b,t1,y1,hm,_⟩:=aC x C
    have:=(ak _ hm).1
    rw[hz]at this;cases this
   have e2:T1.length=0:=by rw[e1];rfl
   have:=bp (by rw[aU,tL oo];exact ap)
   omega
end
section
variable {Y:DuX}{s:RS}{A:List EV}{fu:Int}
def zgQ{m:Int}(h:DuM w i Y s A fu)(hi:i<6)(hp:PI s.l)(hG:s.l.G.length<=1000000)(hA:∀e∈s.A,e.q<6)(af:s.A.Pairwise λa b=>a.q=b.q->a.s<b.s)(ab:s.A.length<=30000)(c:∀w' Y' (T:List MGT) n r,DuM w' i Y' s A fu->DuS w w' Y Y'->(∀x∈T,TMok 6 i s x/\TMk w.heap.size w' x)->((i:Int)+1∈mT s.l.I s.l.L 6->∀j:Nat,(j:Int)+1∈mT s.l.I s.l.L 6->j≠i->∃x∈T,x.1.k=1/\x.1.t=j)->(T.length<=38/\(Y.X.ws=[]->T.length<=(mT s.l.I s.l.L 6).length-1))->w'.ownsRow w.heap.size 282 12 (.slice n T.length r) T.length (T.flatMap tmC)->Y'.X.W=Y.X.W->(∀k∈DA Y',k<w.heap.size)->Y'.p=Y.p/\Y'.u=Y.u->K (.slice n T.length r) w'):call Q 185 #[pB Y.u,u6 m] K w:=by
 refine aj (goK func185) (Jx (bu λM J V s1=>bu λC N b2 s2=>bO (z:=.slice none 0 0) kr λw3 z3 b3 s3=>?_));have J:blk M w.heap.size 67 [pB Y.u]:=J;have N:blk C M.heap.size 36 [u6 m]:=N;have z3:blk w3 C.heap.size 97 [.slice none 0 0]:=z3;have O:=tB b2 b3;have g:=tB V O;have J:=ae O J J.lt;have N:=ae b3 N N.lt;have h3:=h.below g;have F:=h.lt
 have l2:w.heap.size<=C.heap.size:=(tB V b2).size;refine lK (v:=pB Y.u) J rfl (QE h3 (bS (all:=#[pB w.heap.size,pB M.heap.size,pB C.heap.size]) rfl (aj (goK func199) (Gv ?_))));have D:=h3.below (jU _ w3).drew;refine aw (λy=>blk y w.heap.size 67 [pB Y.u]/\blk y M.heap.size 36 [u6 m]/\blk y Y.u 118 [pB Y.X.R.p,pB Y.q,.bool false]) ⟨J.drew,N.drew,D.b⟩ ?_
 refine ac (v:=pB Y.u) (λy d _ c=>lK d.1 rfl c) (hZ (hW Ib (ac (v:=pB Y.X.R.p) (λy d _ c=>lK d.2.2 rfl c) (ac (v:=u6 m) (λy d _ c=>lK d.2.1 rfl c) ?_))));refine zhN D.rp hp hi hG hA af ab λw4 X4 T n r ag r4 Z hj ad U aa W4=>?_;obtain⟨h4,t4⟩:=D.step ag r4;have ah:=(DuS.refl g.drew).trans t4;have d3:w3.drew.heap.size=w3.heap.size:=rfl;have l3:=z3.lt
 have nz:C.heap.size∉DA {Y with X:=X4}:=λE=>(t4.na _ E).elim (λE=>by have:=F _ E;omega) λE=>by omega
 have z4:=z3.drew.ch t4.ch λE=>by have:=F _ (Mt E);omega
 have e0:97∉[5,3,180]:=by decide
 refine hRT (cq kf z4 oB rfl λw5 z5 P=>?_);have z5:blk w5 C.heap.size 97 [.slice n T.length r]:=z5;refine lK (v:=.slice n T.length r) z5 rfl (cq kf z5 oB rfl λw6 z6 S=>?_);have z6:blk w6 C.heap.size 97 [.slice n T.length r]:=z6
 have o:Oth C.heap.size w4 w6:=⟨S.os.trans P.os,S.tape.trans P.tape,S.output.trans P.output,S.size.trans P.size,λx H=>(S.other x H).trans (P.other x H)⟩
 have h6:=h4.oth o nz z4 e0;refine uT (v:=.slice n T.length r) (λ_ c=>lK z6 rfl c) ?_;refine c w6 {Y with X:=X4} T n r h6 (ah.add (aD (jU _ w4) o l2)) (λx H=>⟨(Z x H).1,?_⟩) hj ad (cn (wC U g.size) λk f=>o.other k λe=>?_) W4 (λk f=>(t4.na k f).elim (F k) λE=>?_) ⟨rfl,rfl⟩
 .exact TMk.kp (B:=w.heap.size) ⟨(Z x H).2.vr,λb o a=>⟨qR g.size ((Z x H).2.ev b o a).1,((Z x H).2.ev b o a).2⟩⟩ λk cs f=>o.other k λe=>qI e (f.ne z4 dc)
 .have:=(jT U k f).1
  omega
 .rcases pQ.1 f with f|f
  .have:=aa k f;omega
  .exact h.ltq k f
end
def XA(A L:List EV)(j:Nat):io (A++L.take j)=io A++(io L).take j:=by unfold io;rw[jJ,List.map_take]
def zbI(A L:List EV)(m:Nat)(c:m<=(aK (io L)).length):∃j,tU (aK (io A)++(aK (io L)).take m)=(io (A++L.take j),(aK (io (A++L.take j))).length)/\(aK (io A)++(aK (io L)).take m).take (aK (io (A++L.take j))).length=aK (io (A++L.take j)):=by obtain⟨j,_,a,b⟩:=zcN (Wk A) (Wk L) c;exact⟨j,by rw[XA];exact a,by rw[XA];exact b⟩
section
variable {p u:Nat}{A L:List EV}{D:DS}
def zkk{n:Nat}(h:DnM w p u A L)(v:RIn w a n c U0)(q:∀S f j,tU f=(io (A++L.take j),(aK (io (A++L.take j))).length)->f.take (aK (io (A++L.take j))).length=aK (io (A++L.take j))->DK S p ⟨f,.no,false, -1⟩->Ch [p] w S->K (ci 0) S):call Q 193 #[ptr p,.slice a n c] K w:=by
 obtain⟨z,s⟩:=h.dk;refine zl6 s rfl (λn k=>?_) v λS f l o d c=>?_
 .have k:(if L=[]then LO.no else LO.app (aK (io L)))=.cut n:=k;split at k<;>cases k
 have l:(if L=[]then LO.no else LO.app (aK (io L)))=.no->f=aK (io A):=l;have o:∀b,(if L=[]then LO.no else LO.app (aK (io L)))=.app b->∃m,m<=b.length/\f=aK (io A)++b.take m:=o;by_cases r:L=[]
 .obtain⟨j,g,i⟩:=zbI A L 0 (qG _);have e:=l (oJ r);rw[qY,oW, <-e]at g i;exact q S f j g i d c
 .obtain⟨m,t,e⟩:=o _ (oI r);obtain⟨j,g,i⟩:=zbI A L m t;rw[<-e]at g i;exact q S f j g i d c
def zjr{n:Nat}(d:DK w p D)(e:D.off=false)(h:K (ci 3) w):call Q 193 #[ptr p,.slice a n c] K w:=by
 obtain⟨s,m,g,i,f,b,_⟩:=d;rw[e]at b;refine aj (goK func193) (JX ?_)
 (repeat (first|refine LA ?_|refine aq ?_|refine EJ ?_|(refine Ek ?_ (by assumption) ?_ ?_;rotate_left;exact rfl)|refine aA ?_))
 refine bc ?_
 (repeat (first|refine aV ?_))
 exact h
end
inductive SX where
 | up (Y:DuX) (s:RS) (fu:Int)
 | dn (p u:Nat) (A L:List EV)
def SX.p:SX->Nat
 | .up Y _ _=>Y.p
 | .dn p _ _ _=>p
def SX.u:SX->Nat
 | .up Y _ _=>Y.u
 | .dn _ u _ _=>u
def SX.B:SX->List Nat
 | .up Y _ _=>DA Y
 | .dn p u _ _=>[p,u]
def SX.F:SX->List Nat
 | .up Y _ _=>DF Y
 | .dn p u _ _=>[p,u]
def SX.n:SX->Nat
 | .up _ s _=>s.A.length
 | .dn _ _ A L=>A.length+L.length
def SxM(w:oG)(n i:Nat)(T:TT):SX->Prop
 | .up Y s fu=>DuM w i Y s s.A fu/\SiP n i T s Y.X.W
 | .dn p u A L=>DnM w p u A L/\SdP n i T A L
section
variable {n:Nat}{T T':TT}{x:SX}{F:List Nat}{Y:DuX}{s:RS}{A:List EV}{fu:Int}
def SX.FB:∀k∈x.F,k∈x.B:=by
 cases x with
 | up Y s fu=>exact λk=>Mt
 | dn p u A L=>exact λk h=>h
def DuM.chF(h:DuM w i Y s A fu)(c:Ch F w S)(e:noBy w F)(a:∀k∈DA Y,k∉F):DuM S i Y s A fu :=
 {h with
  b:=h.b.ch c (a _ (pQ.2 (.inr mp3)))
  rp:=h.rp.ch c λk d=>a k (pQ.2 (.inl d))
  jk:=h.jk.ch c e (a _ (pQ.2 (.inr mp1))) (a _ (pQ.2 (.inr mp2)))}
def DuM.noBy(h:DuM w i Y s A fu):Go.Proofs.YtpaghmnnhedccaaGreatDoor.noBy w (DF Y):=λk E l j g a=>by
 obtain⟨o,m⟩:=h.jk.1.blk;have f:∀{z:Nat} {E':TypeId} {c:oE},Go.Proofs.YtpaghmnnhedccaaGreatDoor.blk w z E' c->E'∉[5,3,180]->k≠z:=λn d => j.ne n λe=>d (e ▸ g);rcases ru.1 a with a|a
 .exact h.rp.noBy k E l j g a
 .simp only[oO,oR,or_false]at a;rcases a with a|a|a
  .exact f m dc a
  .exact f h.jk.2 dc a
  .exact f h.b dc a
def SxM.lt(h:SxM w n i T x):∀k∈x.B,k<w.heap.size:=by
 cases x with
 | up Y s fu=>exact h.1.lt
 | dn p u A L =>
  obtain⟨r,q,d,c⟩:=h.1.b;intro k a;rcases oO.1 a with rfl|a
  .exact h.1.dk.choose_spec.lt
  .rw[mS a];exact c.lt
def SxM.noBy(h:SxM w n i T x):Go.Proofs.YtpaghmnnhedccaaGreatDoor.noBy w x.F:=by
 cases x with
 | up Y s fu=>exact h.1.noBy
 | dn p u A L =>
  obtain⟨r,q,d,g⟩:=h.1.b;obtain⟨_,a⟩:=h.1.dk;obtain⟨m,j⟩:=a.blk;intro k E l a f c;rcases oO.1 c with e|c
  .exact a.ne j (λe=>by subst e;revert f;decide) e
  .exact a.ne g (λe=>by subst e;revert f;decide) (mS c)
def SxM.ch(h:SxM w n i T x)(b:Ch F w S)(c:Go.Proofs.YtpaghmnnhedccaaGreatDoor.noBy w F)(a:∀k∈x.B,k∉F):SxM S n i T x:=by
 cases x with
 | up Y s fu=>exact⟨h.1.chF b c a,h.2⟩
 | dn p u A L=>exact⟨h.1.ch b c (a _ (by simp[SX.B])) (a _ (by simp[SX.B])),h.2⟩
def SxM.below(h:SxM w n i T x)(a:Below w.heap.size w S):SxM S n i T x:=h.ch (F:=[]) (Ch.of_below a) (noBy.nil w) (λ_ _=>by simp)
def SxM.tok(h:SxM w n i T x):TOK n T:=by
 cases x with
 | up Y s fu=>exact h.2.k
 | dn p u A L=>exact h.2.k
def SxM.mono(h:SxM w n i T x)(a:LeT T T')(b:TOK n T')(hi:T' i=T i):SxM w n i T' x:=by
 cases x with
 | up Y s fu=>exact⟨h.1,h.2.mono a b hi⟩
 | dn p u A L=>exact⟨h.1,h.2.mono a b hi⟩
end
structure MsP(T:TT) (x:MG):Prop where
 kd:(x.k=1/\x.n=0/\x.a=0/\x.L.length<=16)\/(x.k=2/\x.L=[]/\x.n≠0/\1<=x.a/\x.a<=Cw)
 f6:x.f<6
 t6:x.t<6
 ft:x.f≠x.t
 v6:x.V.length=6
 vle:leV x.V (List.replicate 6 1099511627776)=true
 ev:∀e∈x.L,EvT T e
def MsP.mono{T T':TT}{x:MG}(h:MsP T x)(a:LeT T T'):MsP T' x:={h with ev:=λe b=>(h.ev e b).mono a}
section
variable {n:Nat}{T:TT}{Y:DuX}{s:RS}{fu:Int}
def zhR{x:MG}{O:Int}(h:DuM w i Y s s.A fu)(g:SiP n i T s Y.X.W)(hi:i<6)(hG:s.l.G.length<=1000000)(hA:s.A.length<=29000)(m:MsP T x)(U:x.t=i)(hv:VR w a x.L.length c x.L)(M:∀b o,a=some ⟨b,o,none⟩->b∉FF Y.X)(J:∀w' Y' s' fu' T',LeT T T'->T'.P=T.P->(∀q,q≠i->T' q=T q)->DuM w' i Y' s' s'.A fu'->SiP n i T' s' Y'.X.W->s'.A.length<=s.A.length+64->DuS w w' Y Y'->Y'.p=Y.p/\Y'.u=Y.u->K (ci 0) w')(R:∀w' L,L.length<=64->DnM w' Y.p Y.u s.A L->SdP n i T s.A L->Ch (DF Y) w w'->K (ci 8) w'):call Q 188 #[pB Y.u,.agg (mgC x.k ((x.f:Int)+1) ((x.t:Int)+1) x.V (.slice (if x.k=1 then a else none) (if x.k=1 then x.L.length else 0) (if x.k=1 then c else 0)) x.n x.a).toArray,u6 O] K w:=by
 have hP:x.f<s.P.length:=by rw[h.rp.rp.e.l6];exact m.f6
 have j:s.P[x.f]? = some s.P[x.f]:=gE hP;generalize s.P[x.f]=Af at j;have C:x.f≠i:=λe=>m.ft (e.trans U.symm);rw[U];rcases m.kd with⟨k1,n0,Z,N⟩|⟨k2,l0,nn,ab⟩
 .rw[k1,n0,Z];simp only[if_true];refine zb0 h hi g.d.pi g.d.hk oo hv M (λe S=>⟨(m.ev e S).may,(m.ev e S).fit⟩) g.d.fw N m.f6 C m.v6 m.vle j oo (λw' Y' l' F fu' _ v y D E _ r=>?_) λw' l' W' F _ v E I H=>?_
  .refine J w' Y' _ fu' T .refl rfl (λ_ _=>rfl) y (g.hear m.ev E) ?_ D r;show (s.A++F).length<=_;rw[oT];omega
  .obtain⟨_,_,_,a4,_,_⟩:=E.inv g.d.pi g.d.hk.puts;exact R w' F v I (g.offH a4 (g.hrd m.ev E).2) H
 .rw[k2];simp only[show ¬((2:Int)=1)by decide,if_false];refine ziJ h hi g.d.pi hG oo nn ab m.f6 C m.v6 m.vle j oo (λw' Y' fu' _ y D W' r=>?_) (λw' Y' z fu' _ B y D W' r=>?_) λw' z _ B I H=>?_
  .refine J w' Y' ⟨s.l,s.A,s.P.set x.f (jV Af x.V)⟩ fu' T .refl rfl (λ_ _=>rfl) y ?_ (by show s.A.length<=_;omega) D r;rw[W'];exact {g with d:={g.d with st:=g.d.st} }
  .obtain⟨m1,m2⟩:=g.make (P':=s.P.set x.f (jV Af x.V)) (P:=T.P) (VS g.d.pi B) B (λ_ h=>h) (.inl (.inl rfl));refine J w' Y' _ fu' _ m1 rfl (λq a=>oI a) y ?_ ?_ D r
   .rw[W'];exact m2
   .show (s.A++[_]).length<=_;rw[oT,List.length_singleton];omega
  .exact R w' _ oB I (g.offM (VS g.d.pi B) B (.inl (.inl rfl))) H
end
def TT.ask(T:TT)(e:EV):TT:=⟨T.t,T.E,T.P++[e]⟩
def zam(T:TT)(i:Nat)(e:EV):TT:=T.add i e (T.P++[e])
section
variable {n:Nat}{T:TT}{Y:DuX}{s:RS}{fu:Int}
def zkI{x:AK}{t:Int}(h:DuM w i Y s s.A fu)(f:SiP n i T s Y.X.W)(hi:i<6)(hG:s.l.G.length<=1000000)(F:s.A.length<=29000)(q:Cv x)(o:∀S Y' e,NoP i s.l x e->DuM S i Y' s s.A fu->SiP n i T s Y'.X.W->DuS w S Y Y'->Y'.p=Y.p/\Y'.u=Y.u->K (.tuple #[evV evZ,ci e]) S)(g:∀S Y' s' fu',s'=⟨eff (mkP i s.l x) s.l,s.A++[mkP i s.l x],s.P⟩->gF (mkP i s.l x) s.l=0->wJ ((i:Int)+1) s.l x->(fu = -1->fu' = -1)->DuM S i Y' s' s'.A fu'->LeT T (zam T i (mkP i s.l x))->SiP n i (zam T i (mkP i s.l x)) s' Y'.X.W->DuS w S Y Y'->(x.r=0->Y'.X.ws=Y.X.ws)->Y'.p=Y.p/\Y'.u=Y.u->K (.tuple #[evV (mkP i s.l x),ci 0]) S)(B:∀S,gF (mkP i s.l x) s.l=0->wJ ((i:Int)+1) s.l x->fu≠-1->DnM S Y.p Y.u s.A [mkP i s.l x]->SdP n i (T.ask (mkP i s.l x)) s.A [mkP i s.l x]->Ch (DF Y) w S->K (.tuple #[evV evZ,ci 8]) S):call Q 184 #[pB Y.u,.agg (akC x).toArray,u6 t] K w:=by
 refine zki h hi f.d.pi hG oo q oo (λS Y' e C m v W' j=>?_) (λS Y' fu' c b a m v W' j=>?_) λS c b a z y=>?_
 .exact o S Y' e C m (by rw[W'];exact f) v j
 .obtain⟨D,E⟩:=f.make (P':=s.P) (P:=T.P++[mkP i s.l x]) q c (λ_ h=>List.mem_append_left _ h) (.inr oB);refine g S Y' _ fu' rfl c b a m D ?_ v W'.2 j;rw[W'.1];exact E
 .exact B S c b a z ((f.mono (LeT.P λ_ h=>List.mem_append_left _ h) (f.k.P λ_ h=>List.mem_append_left _ h) rfl).offM q c (.inr oB)) y
end
end
def zgt{A:List EV}{v:List Int}:(tl A v).length<=16/\∀e∈tl A v,e∈A:=by unfold tl;refine⟨by rw[oY,qA];omega,λe b=>?_⟩;obtain⟨p,c,rfl⟩:=qU.1 b;have a:p.1∈(zA A v).map (·.1):=List.mem_map_of_mem (List.mem_of_mem_take c);rw[zk1]at a;exact(qV.1 a).1
def TMok.msp{n:Nat}{T:TT}{s:RS}{W:HM}{x:MGT}(h:TMok 6 i s x)(j:SiP n i T s W)(hi:i<6):MsP T x.1:=by
 have g:=j.d.pi;refine⟨?_,by rw[h.f];exact hi,h.t,by rw[h.f];exact λe=>h.ne e.symm,by rw[h.V];exact g.v6,?_,λe a=>?_⟩
 .rcases h.is with⟨r,w,m,v,_,e⟩|⟨u,c,_,_,y,o,p⟩
  .exact .inl ⟨r,w,m,by rw[e];exact zgt.1⟩
  .exact .inr ⟨u,c,y,o,p⟩
 .rw[h.V];unfold leV;refine jS.2 λk b=>qF ?_;have b:=jQ.1 b
  have:=(g.vb k b).2
  rw[oN (l:=List.replicate 6 _),List.getElem?_replicate_of_lt b];exact Int.le_of_lt this
 .rcases h.is with⟨_,_,_,v,_,q⟩|⟨_,c,_⟩
  .rw[q]at a;exact j.tell e (zgt.2 e a)
  .rw[c]at a;cases a
section
open Go.ChangeMaps
def noBy.app{F G:List Nat}(h:noBy w F)(g:noBy w G):noBy w (F++G):=λk E a c b d=>(oU.1 d).elim (h k E a c b) (g k E a c b)
def PZ{B n k:Nat}{v:oF}(h:w.ownsRow B E s v n xs)(a:v.ownBlock=some k):∃cs,blk w k E cs:=(wg h a).1
def rwB(a:Option Addr):List Nat:=match a with|some a=>[a.block]|none=>[]
def wi{n k:Nat}(h:k∈rwB a){B:Nat}(f:w.ownsRow B E s (.slice a n c) m xs):(Value.slice a n c).ownBlock=some k:=by
 rcases f.2 with⟨b,_⟩|⟨g,d,e,b,_⟩
 .simp only[Value.slice.injEq]at b;rw[b.1]at h;cases h
 .simp only[Value.slice.injEq]at b;rw[b.1]at h |-;rw[mS h];rfl
def xJ{n k:Nat}(h:(Value.slice a n c).ownBlock=some k):k∈rwB a:=by
 cases a with
 | none=>cases h
 | some a =>
  simp only[Value.ownBlock,qD]at h;rw[<-h];exact List.mem_singleton.2 rfl
structure NM(w:oG) (T:TT) (p:Nat) (ra:Option Addr) (rc:Nat) (M:List MGT) (cut:List Bool):Prop where
 b:blk w p 100 (.slice ra M.length rc::cut.map .bool)
 row:w.ownsRow 0 282 12 (.slice ra M.length rc) M.length (M.flatMap tmC)
 ms:∀x∈M,MsP T x.1/\TMk 0 w x/\(x.1.k=2->x.2=(none,0))
 few:M.length<=128
 cut:cut.length=36
section
variable {n:Nat}{T T':TT}{x:SX}{F:List Nat}{p:Nat}{ra:Option Addr}{rc:Nat}{M:List MGT}{cut:List Bool}
def SxM.ty(h:SxM w n i T x){k:Nat}{cs:oE}(c:blk w k E cs)(l:E∉[156,160,214,166,292,106,143,118]):k∉x.F:=by
 simp only[oO,oR,or_false,not_or]at l;obtain⟨o,t,v,y,z,g,B,j⟩:=l;cases x with
 | up Y s fu =>
  intro a;obtain⟨m,e⟩:=h.1.jk.1.blk;rcases ru.1 a with a|a
  .exact h.1.rp.ty c (by simp[o,t,v,y,z]) a
  .simp only[oO,oR,or_false]at a;rcases a with a|a|a
   .exact c.ne e g a
   .exact c.ne h.1.jk.2 B a
   .exact c.ne h.1.b j a
 | dn p u A L =>
  intro a;obtain⟨_,f⟩:=h.1.dk;obtain⟨m,e⟩:=f.blk;obtain⟨r,q,d,C⟩:=h.1.b;rcases oO.1 a with a|a
  .exact c.ne e g a
  .exact c.ne C j (mS a)
def NM.rwt(h:NM w T p ra rc M cut){k:Nat}(a:k∈rwB ra):∃cs,blk w k 282 cs:=PZ h.row (wi a h.row)
def NM.lt(h:NM w T p ra rc M cut):∀k∈p::rwB ra,k<w.heap.size:=λk a=>by
 rcases oO.1 a with rfl|a
 .exact h.b.lt
 .obtain⟨cs,c⟩:=h.rwt a;exact c.lt
def TMk.kpA{B:Nat}{x:MGT}(h:TMk B w x)(c:∀b o,x.2.1=some ⟨b,o,none⟩->S.heap[b]? = w.heap[b]?):TMk B S x :=
 ⟨h.vr.kp c,λb o a=>by
  obtain⟨e,d,f⟩:=h.ev b o a;exact⟨e,d,f.kp (c b o a)⟩⟩
def NM.elt(h:NM w T p ra rc M cut){x:MGT}(d:x∈M)(a:x.2.1=some ⟨b,o,none⟩):b<w.heap.size:=by obtain⟨_,e,c⟩:=(h.ms x d).2.1.ev b o a;exact c.lt
def NM.chN(h:NM w T p ra rc M cut)(c:Ch F w S)(d:∀k∈p::rwB ra,k∉F)(g:∀x∈M,∀b o,x.2.1=some ⟨b,o,none⟩->b∉F)(i:LeT T T'):NM S T' p ra rc M cut :=
 ⟨h.b.ch c (d _ oL),cn h.row λk f=>c.block k (h.lt k (oH _ (xJ f))) (d k (oH _ (xJ f))),
  λx a=>⟨(h.ms x a).1.mono i,(h.ms x a).2.1.kpA λk o e=>by
   obtain⟨_,l,j⟩:=(h.ms x a).2.1.ev k o e;exact c.block k j.lt (g x a k o e),(h.ms x a).2.2⟩,h.few,h.cut⟩
def NM.ch(h:NM w T p ra rc M cut)(i:Ch F w S)(d:∀k E cs,blk w k E cs->E∈[100,282,54]->k∉F)(f:LeT T T'):NM S T' p ra rc M cut :=
 h.chN i (λk c=>(oO.1 c).elim (λe=>e ▸ d _ _ _ h.b dc) λc=>by obtain⟨cs,a⟩:=h.rwt c;exact d _ _ _ a dc) (λx j k o g=>by obtain⟨_,cs,a⟩:=(h.ms x j).2.1.ev k o g;exact d _ _ _ a dc) f
def NM.below(h:NM w T p ra rc M cut)(a:Below w.heap.size w S):NM S T p ra rc M cut:=h.ch (F:=[]) (Ch.of_below a) (λ_ _ _ _ _=>by simp) .refl
def NM.noBy(h:NM w T p ra rc M cut):Go.Proofs.YtpaghmnnhedccaaGreatDoor.noBy w (p::rwB ra):=λk E g d c a=>by
 rcases oO.1 a with e|a
 .exact d.ne h.b (λe=>by subst e;revert c;decide) e
 .obtain⟨i,f⟩:=h.rwt a;exact d.ne f (λe=>by subst e;revert c;decide) rfl
end
def doingsV:oE:=[.nilFunc,.bool false,.func (.func 171) #[] #[],.bool false,.func (.func 172) #[] #[],.bool false,.func (.func 173) #[] #[],.bool true,.func (.func 174) #[] #[],.bool true,.func (.func 175) #[] #[],.bool true,.func (.func 176) #[] #[],.bool true,.func (.func 177) #[] #[],.bool false,.func (.func 178) #[] #[],.bool true,.func (.func 179) #[] #[],.bool false,.func (.func 180) #[] #[],.bool false,.func (.func 181) #[] #[],.bool false,.func (.func 182) #[] #[],.bool false]
def GT:List Nat:=[1,0]
structure GD(w:oG):Prop where
 kd:KD w
 cd:∃E fr,w.heap[0]? = some (.cells doingsV.toArray E fr)
def GD.lt(h:GD w):∀g∈GT,g<w.heap.size:=by
 obtain⟨E,c,b⟩:=h.cd
 have:=(qM.1 b).1
 intro g a;simp only[GT,oO,oR,or_false]at a;rcases a with rfl|rfl
 .exact h.kd.lt
 .exact this
def GD.keep(h:GD w)(a:∀g∈GT,S.heap[g]? = w.heap[g]?):GD S :=
 ⟨h.kd.keep (a _ (by simp[GT])),by obtain⟨E,b,c⟩:=h.cd;exact⟨E,b,(a _ (by simp[GT])).trans c⟩⟩
def GD.ch{F:List Nat}(h:GD w)(b:Ch F w S)(hF:∀g∈GT,g∉F):GD S:=h.keep λg a=>b.block g (h.lt g a) (hF g a)
def GD.below(h:GD w)(a:Below w.heap.size w S):GD S:=h.keep λg b=>a.block g (h.lt g b)
structure CX where
 p:Nat
 np:Nat
 X:Nat->SX
 T:TT
 M:List MGT
 ra:Option Addr
 rc:Nat
 cut:List Bool
 now:Int
def gi(X:Nat->SX)(i:Nat)(x:SX):Nat->SX:=λj=>if j=i then x else X j
def Rf{X:Nat->SX}{x:SX}:gi X i x i=x:=oJ rfl
def zi7{X:Nat->SX}{x:SX}(h:j≠i):gi X i x j=X j:=oI h
def uh(x:SX):oE:=[ptr x.p,pB x.u]
def kH(n np:Nat)(X:Nat->SX)(a:Int):oE:=iv (n:Nat)::(((List.range 6).flatMap λk=>uh (X k))++[pB np,u6 a])
structure CM(w:oG) (B0 n b:Nat) (Z:List Nat) (c:CX):Prop where
 cb:blk w c.p 72 (kH n c.np c.X c.now)
 nm:NM w c.T c.np c.ra c.rc c.M c.cut
 st:∀i,i<6->SxM w n i c.T (c.X i)
 sep:∀i j,i<6->j<6->i≠j->∀k∈(c.X i).B,k∉(c.X j).F
 dis:∀i,i<6->∀k∈(c.X i).B,k≠c.p/\k∉c.np::rwB c.ra
 lp:∀k∈c.p::c.np::rwB c.ra,B0<=k
 lo:∀i,i<6->∀k∈(c.X i).F,B0<=k
 gt:∀g∈GT,g<B0
 kd:GD w
 own:∀t∈Z,t<w.heap.size/\B0<=t/\t≠c.p/\t∉c.np::rwB c.ra/\∀i,i<6->t∉(c.X i).B
 n1:1<=n
 n6:n<=6
 now:0<=c.now/\c.now<=1099511627776
 sz:∀i,i<6->(c.X i).n<=b
 mz:∀t∈Z,∀x∈c.M,∀b o,x.2.1=some ⟨b,o,none⟩->b≠t
structure CS(w w':oG) (B0:Nat) (Z:List Nat):Prop where
 bel:Below B0 w w'
 z:∀t∈Z,w'.heap[t]? = w.heap[t]?
section
variable {B0 n b' t:Nat}{Z Z':List Nat}{c:CX}{T':TT}{x':SX}{F:List Nat}
def CS.trans(h:CS w S B0 Z)(k:CS S O B0 Z):CS w O B0 Z:=⟨h.bel.trans k.bel,λt a=>(k.z t a).trans (h.z t a)⟩
def CS.blk(h:CS w S B0 Z)(b:t∈Z){cs:oE}(a:blk w t E cs):Go.Proofs.YtpaghmnnhedccaaGreatDoor.blk S t E cs:=by unfold Go.Proofs.YtpaghmnnhedccaaGreatDoor.blk at *;rw[h.z t b];exact a
def CS.sub(h:CS w S B0 Z)(b:∀t∈Z',t∈Z):CS w S B0 Z':=⟨h.bel,λt a=>h.z t (b t a)⟩
def CM.b0(h:CM w B0 n b Z c):B0<=w.heap.size:=qR (h.lp c.p oL) (Nat.le_of_lt h.cb.lt)
def CM.cs(h:CM w B0 n b Z c)(a:Ch F w S)(hF:∀k∈F,B0<=k/\k∉Z):CS w S B0 Z:=⟨a.below (λk e=>(hF k e).1) h.b0,λt d=>a.block t (h.own t d).1 λf=>(hF t f).2 d⟩
def CM.csx(h:CM w B0 n b Z c)(hi:i<6)(e:Ch ((c.X i).F++[c.p]) w S):CS w S B0 Z:=h.cs e λk a=>by
 rcases oU.1 a with a|a
 .exact⟨h.lo i hi k a,λd=>(h.own k d).2.2.2.2 i hi (SX.FB k a)⟩
 .rw[mS a];exact⟨h.lp _ oL,λd=>(h.own _ d).2.2.1 rfl⟩
def CM.csn(h:CM w B0 n b Z c)(d:Ch (c.np::rwB c.ra) w S):CS w S B0 Z:=h.cs d λk a=>⟨h.lp k (oH _ a),λe=>(h.own k e).2.2.2.1 a⟩
def CM.csb(h:CM w B0 n b Z c)(a:Below w.heap.size w S):CS w S B0 Z:=⟨a.mono h.b0,λt d=>a.block t (h.own t d).1⟩
def CM.site'(h:CM w B0 n b Z c)(hi:i<6)(C:blk w' c.p 72 (kH n c.np (gi c.X i x') c.now))(I:SxM w' n i T' x')(H:LeT c.T T')(A:∀q,q≠i->q<6->T' q=c.T q)(y:Ch ((c.X i).F++[c.p]) w w')(hF:∀k∈x'.F,k∈(c.X i).F\/w.heap.size<=k)(z:∀k∈x'.B,k∈GT\/k∈(c.X i).B\/w.heap.size<=k)(L:b<=b')(O:x'.n<=b'):CM w' B0 n b' Z {c with X:=gi c.X i x',T:=T'}:=by
 have Y:=h.kd.lt;have M:=h.b0;have P:=y.size;have D:noBy w ((c.X i).F++[c.p]):=(h.st i hi).noBy.app (noBy.of h.cb dc);have s:∀{j},j=i->gi c.X i x' j=x':=λe=>oJ e;have r:∀{j},j≠i->gi c.X i x' j=c.X j:=λe=>oI e
 refine⟨C,h.nm.ch y (λk E W l v f=>?_) H,λj m=>?_,λa j x m o k l=>?_,λj m k l=>?_,h.lp,λj m k l=>?_,h.gt,h.kd.ch y λg N f=>?_,λt R=>?_,h.n1,h.n6,h.now,λj m=>?_,h.mz⟩
 .rcases oU.1 f with f|f
  .exact(h.st i hi).ty l (by simp only[oO,oR,or_false]at v;rcases v with rfl|rfl|rfl<;>decide) f
  .exact l.ne h.cb (by simp only[oO,oR,or_false]at v;rcases v with rfl|rfl|rfl<;>decide) (mS f)
 .show SxM w' n j T' (gi c.X i x' j);by_cases d:j=i
  .rw[s d,d];exact I
  .rw[r d];refine((h.st j m).ch y D λk l f=>?_).mono H I.tok (A j d m);rcases oU.1 f with f|f
   .exact h.sep j i m hi d k l f
   .exact(h.dis j m k l).1 (mS f)
 .replace l:k∈(gi c.X i x' a).B:=l
  show k∉(gi c.X i x' j).F;by_cases u:a=i
  .subst u;rw[s rfl]at l;rw[r λe=>o e.symm];rcases z k l with l|l|l
   .exact λf=>by have:=h.lo j m k f;have:=h.gt k l;omega
   .exact h.sep a j x m o k l
   .exact λf=>by have:=(h.st j m).lt k (SX.FB k f);omega
  .rw[r u]at l;by_cases d:j=i
   .rw[s d];subst d;exact λf=>(hF k f).elim (h.sep a j x m o k l) λf=>by have:=(h.st a x).lt k l;omega
   .rw[r d];exact h.sep a j x m o k l
 .replace l:k∈(gi c.X i x' j).B:=l
  show k≠c.p/\k∉c.np::rwB c.ra;by_cases d:j=i
  .rw[s d]at l;rcases z k l with l|l|l
   .have G:=h.gt k l;exact⟨λe=>by have:=h.lp c.p oL;omega,λf=>by have:=h.lp k (oH _ f);omega⟩
   .exact h.dis i hi k l
   .exact⟨λe=>by have:=h.cb.lt;omega,λf=>by have:=h.nm.lt k f;omega⟩
  .rw[r d]at l;exact h.dis j m k l
 .replace l:k∈(gi c.X i x' j).F:=l
  by_cases d:j=i
  .rw[s d]at l;exact(hF k l).elim (h.lo i hi k) λf=>by omega
  .rw[r d]at l;exact h.lo j m k l
 .have G:=h.gt g N;rcases oU.1 f with f|f
  .have:=h.lo i hi g f;omega
  .have:=h.lp c.p oL
   rw[mS f]at G;omega
 .obtain⟨t1,S,U,V,J⟩:=h.own t R;refine⟨by omega,S,U,V,λj m f=>?_⟩
  replace f:t∈(gi c.X i x' j).B:=f
  by_cases d:j=i
  .rw[s d]at f;rcases z t f with f|f|f
   .have:=h.gt t f;omega
   .exact J i hi f
   .omega
  .rw[r d]at f;exact J j m f
 .show (gi c.X i x' j).n<=b';by_cases d:j=i
  .rw[s d];exact O
  .rw[r d];exact qR (h.sz j m) L
def zeD{X:Nat->SX}{now:Int}(a:x'.p=(X i).p)(b:x'.u=(X i).u):kH n np (gi X i x') now=kH n np X now:=by
 have:∀k,uh (gi X i x' k)=uh (X k):=λk=>by
  unfold gi;split
  .rename_i e;subst e;unfold uh;rw[a,b]
  .rfl
 unfold kH;simp only[this]
def CM.site(h:CM w B0 n b Z c)(hi:i<6)(s:SxM S n i T' x')(j:LeT c.T T')(d:∀q,q≠i->q<6->T' q=c.T q)(f:Ch (c.X i).F w S)(hF:∀k∈x'.F,k∈(c.X i).F\/w.heap.size<=k)(g:∀k∈x'.B,k∈(c.X i).B\/w.heap.size<=k)(o:x'.p=(c.X i).p)(r:x'.u=(c.X i).u)(l:b<=b')(m:x'.n<=b'):CM S B0 n b' Z {c with X:=gi c.X i x',T:=T'}/\CS w S B0 Z :=
 have a:=f.mono λk e=>List.mem_append_left [c.p] e
 ⟨h.site' hi (by rw[zeD o r];exact h.cb.ch f ((h.st i hi).ty h.cb dc)) s j d a hF (λk e=>.inr (g k e)) l m,h.csx hi a⟩
def CM.le(h:CM w B0 n b Z c)(a:b<=b'):CM w B0 n b' Z c:={h with sz:=λi d=>qR (h.sz i d) a}
def CM.sub(h:CM w B0 n b Z c)(d:∀t∈Z',t∈Z):CM w B0 n b Z' c:={h with own:=λt a=>h.own t (d t a),mz:=λt a=>h.mz t (d t a)}
def CM.below(h:CM w B0 n b Z c)(a:Below w.heap.size w S):CM S B0 n b Z c :=
 {h with cb:=ae a h.cb h.cb.lt,nm:=h.nm.below a,st:=λi e=>(h.st i e).below a,kd:=h.kd.below a,own:=λt d=>⟨qQ (h.own t d).1 a.size,(h.own t d).2⟩}
def CM.newL(h:CM w B0 n b Z c)(j:Below w.heap.size w S)(m:∀t∈Z',t∈Z\/(w.heap.size<=t/\t<S.heap.size)):CM S B0 n b Z' c :=
 have s:=h.b0
 have f:∀x∈Z',x<S.heap.size/\B0<=x/\x≠c.p/\x∉c.np::rwB c.ra/\∀i,i<6->x∉(c.X i).B:=λx a=>by
  rcases m x a with a|⟨u,q⟩
  .exact(h.below j).own x a
  .exact⟨q,by omega,λe=>by have:=h.cb.lt;omega,λd=>by have:=h.nm.lt x d;omega,λi r d=>by have:=(h.st i r).lt x d;omega⟩
 {h.below j with
  own:=f
  mz:=λx a y l k o g=>(m x a).elim (λa=>h.mz x a y l k o g) λv=>by have:=h.nm.elt l g;omega}
def CM.new(h:CM w B0 n b Z c)(f:Below w.heap.size w S)(a:w.heap.size<=t)(d:t<S.heap.size):CM S B0 n b (t::Z) c:=h.newL f λx g=>(oO.1 g).elim (λe=>.inr ⟨e ▸ a,e ▸ d⟩) .inl
def CM.othE(h:CM w B0 n b Z c)(o:Oth t w S)(m:t∈Z){cs:oE}(r:blk w t E cs)(p:E∉[5,3,180]):CM S B0 n b Z c:=by
 obtain⟨A,B,v,y,z⟩:=h.own t m;have f:Ch [t] w S:=Ch.of_oth o (List.mem_singleton.2 rfl);have d:∀{k:Nat},k≠t->k∉[t]:=λa u=>a (mS u);exact {h with
  cb:=h.cb.ch f (d λe=>v e.symm)
  nm:=h.nm.chN f (λk a=>d λe=>y (e ▸ a)) (λx j k o q=>d (h.mz t m x j k o q)) LeT.refl
  st:=λi l=>(h.st i l).ch f (noBy.of r p) λk a=>d λe=>z i l (e ▸ a)
  kd:=h.kd.ch f λg s=>d λe=>by have:=h.gt g s;omega
  own:=λx j=>⟨by rw[o.size];exact(h.own x j).1,(h.own x j).2⟩}
def CM.oth(h:CM w B0 n b Z c)(o:Oth t w S)(e:t∈Z){cs:oE}(d:blk w t E cs)(a:E∉[5,3,180]/\E≠54):CM S B0 n b Z c :=
 h.othE o e d a.1
def CM.net{ra:Option Addr}{rc:Nat}{M:List MGT}{cut:List Bool}(h:CM w B0 n b Z c)(u:NM S c.T c.np ra rc M cut)(j:Ch (c.np::rwB c.ra) w S)(m:∀k∈rwB ra,k∈rwB c.ra\/w.heap.size<=k)(a:∀x∈M,∀b o,x.2.1=some ⟨b,o,none⟩->(∃y∈c.M,y.2.1=some ⟨b,o,none⟩)\/w.heap.size<=b):CM S B0 n b Z {c with M:=M,ra:=ra,rc:=rc,cut:=cut}/\CS w S B0 Z:=by
 have F:=h.kd.lt;have q:=h.b0;have v:=j.size
 refine⟨{h with cb:=h.cb.ch j λa=>?_,nm:=u,st:=λi d=>(h.st i d).ch j h.nm.noBy λk f=>(h.dis i d k f).2,dis:=λi d k f=>⟨(h.dis i d k f).1,λa=>?_⟩,lp:=λk a=>?_,kd:=h.kd.ch j λg s a=>?_,own:=λt l=>?_,mz:=λt l x z b o e=>(a x z b o e).elim (λ⟨y,A,e⟩=>h.mz t l y A b o e) λG=>by have:=(h.own t l).1;omega},h.csn j⟩
 .rcases oO.1 a with e|a
  .exact h.cb.ne h.nm.b dc e
  .obtain⟨E,r⟩:=h.nm.rwt a;exact h.cb.ne r dc rfl
 .rcases oO.1 a with e|a
  .exact(h.dis i d k f).2 (e ▸ oL)
  .exact(m k a).elim (λa=>(h.dis i d k f).2 (oH _ a)) λa=>by have:=(h.st i d).lt k f;omega
 .rcases oO.1 a with e|a
  .exact h.lp k (e ▸ oL)
  .rcases oO.1 a with e|a
   .exact h.lp k (e ▸ oH _ oL)
   .exact(m k a).elim (λa=>h.lp k (oH _ (oH _ a))) λa=>by omega
 .have:=h.gt g s
  have:=h.lp g (oH _ a)
  omega
 .obtain⟨H,B,C,p,D⟩:=h.own t l;refine⟨by omega,B,C,λa=>?_,D⟩;rcases oO.1 a with e|a
  .exact p (e ▸ oL)
  .exact(m t a).elim (λa=>p (oH _ a)) λa=>by omega
def CM.tim{now:Int}(h:CM w B0 n b Z c)(o:Oth c.p w S)(f:blk S c.p 72 (kH n c.np c.X now))(r:0<=now/\now<=1099511627776):CM S B0 n b Z {c with now:=now}/\CS w S B0 Z:=by
 have e:Ch [c.p] w S:=Ch.of_oth o oB
 refine⟨{h with cb:=f,nm:=h.nm.ch e (λk E u a j d=>a.ne h.cb (by simp only[oO,oR,or_false]at j;rcases j with rfl|rfl|rfl<;>decide) (mS d)) LeT.refl,st:=λi l=>(h.st i l).ch e (noBy.of h.cb dc) λk a d=>(h.dis i l k a).1 (mS d),kd:=h.kd.ch e λg q d=>?_,own:=λt m=>⟨by rw[o.size];exact(h.own t m).1,(h.own t m).2⟩,now:=r},h.cs e λk a=>?_⟩
 .have:=h.gt g q
  have:=h.lp c.p oL
  rw[<-mS d]at this;omega
 .rw[mS a];exact⟨h.lp _ oL,λs=>(h.own _ s).2.2.1 rfl⟩
end
structure STP where
 d:Int
 who:Int
 kind:Int
 node:Int
 to:Int
 am:Int
 req:Int
 of_:Int
 k:Int
 j:Int
 n:Int
 picks:List Int
def stC(s:STP)(v:oF):oE:=[.int .u8 s.d,iv s.who,.int .u8 s.kind,u6 s.node,iv s.to,iv s.am,u6 s.req,u6 s.of_,iv s.k,iv s.j,iv s.n,v]
structure STW(s:STP):Prop where
 d:0<=s.d/\s.d<=255
 kind:0<=s.kind/\s.kind<=255
 node:0<=s.node/\s.node<=18446744073709551615
 req:0<=s.req/\s.req<=18446744073709551615
 of_:0<=s.of_/\s.of_<=18446744073709551615
def FG(x:Int):Prop := -9223372036854775808<=x/\x<=9223372036854775807
structure STI(s:STP):Prop where
 who:FG s.who
 to:FG s.to
 am:FG s.am
 k:FG s.k
 j:FG s.j
 n:FG s.n
def STP.ak(s:STP):AK:=⟨s.kind,s.node,s.to,s.am,s.req,s.of_⟩
structure S24 where
 s:STP
 near:Bool
 node:Int
 pa:Option Addr
 pc:Nat
def Qn(x:S24):oE:=stC x.s (.slice x.pa x.s.picks.length x.pc)++[.bool x.near,.int .u8 x.node]
structure ZV(w:oG) (x:S24):Prop where
 wd:STW x.s
 i:STI x.s
 r:RIn w x.pa x.s.picks.length x.pc x.s.picks
 le:x.s.picks.length<=x.pc
 mx:x.pc<=9223372036854775807
 nd:0<=x.node/\x.node<=255
structure S24R(w:oG) (a:Option Addr) (n c:Nat) (L:List S24):Prop where
 len:L.length=n
 some_:0<n->∃b o,a=some ⟨b,o,none⟩
 cell:∀(i:Nat) (x:S24),L[i]? = some x->∀b o,a=some ⟨b,o,none⟩->∀(j:Nat) (u:oF),(Qn x)[j]? = some u->w.cell? ⟨b,o+i*14+j,none⟩=some u
 ok:∀x∈L,ZV w x
def S24R.bel{B:Nat}{n:Nat}{L:List S24}(h:S24R w a n c L)(g:Below B w S)(f:w.heap.size<=B):S24R S a n c L :=
 ⟨h.len,h.some_,λi x d b o k j u l=>by
  have:=h.cell i x d b o k j u l
  have e:=zB w _ this
  rw[g.cell (p:=⟨b,o+i*14+j,none⟩) (qQ e f)];exact this,λx d=>{h.ok x d with r:=(h.ok x d).r.below g f}⟩
def BQ:fU Q 100 0 0 b o K w:=aJ kr
def MQ:fU Q 100 1 1 b o K w:=aJ kr
def ZA:(Tryz.prog.info? 54).map (λi=>(i.zero,i.size,i.bytes))=some (some (evV evZ),14,112):=by kernel_rfl
def VR.flat{n:Nat}{a:Addr}{L:List EV}(h:VR w (some a) n c L):∀k u,(L.flatMap evC)[k]? = some u->w.cell? (a.add k)=some u:=λk u d=>by
 have i:(L.flatMap evC).length=L.length*14:=qa (enc:=evC) (s:=14) (λ_=>rfl) L;have j:k<L.length*14:=by rw[<-i];exact(gS d).1
 have f:=gE (show k / 14<L.length by omega);have e:=Ht (enc:=evC) (s:=14) (λ_=>rfl) L (k / 14) _ (k%14) f oo;rw[show k / 14*14+k%14=k by omega,d]at e;obtain⟨b,o,g⟩:=h.some_ (by have:=h.len;omega);cases g
 have:=h.cell (k / 14) _ f b o rfl (k%14) u e.symm
 rw[zw,show o+k=o+k / 14*14+k%14 by omega];exact this
structure NS(w w':oG) (p:Nat) (ra ra':Option Addr) (M M':List MGT):Prop where
 ch:Ch (p::rwB ra) w w'
 rw:∀k∈rwB ra',k∈rwB ra\/w.heap.size<=k
 mw:∀x∈M',∀b o,x.2.1=some ⟨b,o,none⟩->(∃y∈M,y.2.1=some ⟨b,o,none⟩)\/w.heap.size<=b
def NS.add{p:Nat}{M:List MGT}{x:MGT}(h:NS w S p a av M M)(d:∀b o,x.2.1=some ⟨b,o,none⟩->w.heap.size<=b):NS w S p a av M (M++[x]) :=
 ⟨h.ch,h.rw,λy c b o e=>(oU.1 c).elim (λc=>.inl ⟨y,c,e⟩) λc=>.inr (d b o (mS c ▸ e))⟩
section
variable {T:TT}{p:Nat}{ra:Option Addr}{rc:Nat}{M:List MGT}{cut:List Bool}
def QJ(h:K (.bool false) w):bin Q .eql 64 cx cy (pB b) (.pointer none) K w :=
 dZ (by unfold eqG eqGuard;rfl) kr h
def zbs(h:K (.bool true) w):bin Q .neq 64 cx cy (pB b) (.pointer none) K w :=
 dZ (by unfold eqG eqGuard;rfl) kr h
def zkl{n:Nat}{L:List EV}(g:VR w a n c L)(C:n<=1000)(h:∀S d c',VR S d n c' L->(∀b o,d=some ⟨b,o,none⟩->w.heap.size<=b/\∃cs,blk S b 54 cs)->(a=none->d=none/\c'=0)->Below w.heap.size w S->K (.slice d n c') S):call Q 225 #[.slice a n c] K w:=by
 refine aj (goK func225) (zR (Z9 underlying30 ?_));cases a with
 | none =>
  obtain rfl:n=0:=by
   rcases Nat.eq_zero_or_pos n with e|e
   .exact e
   .obtain⟨b,o,t⟩:=g.some_ e;cases t
  exact aV (h w none 0 ⟨g.len,λe=>qI e (qX _),λi x D b o k=>by cases k⟩ (λb o k=>by cases k) (λ_=>⟨rfl,rfl⟩) (jU _ _))
 | some ad =>
  obtain⟨i,p,v,f,l⟩:=info_parts ZA;refine aA (zis (base:=w.heap.size) underlying30 p f oA λE y j=>?_);have m:=g.bel j oA;refine zkU (base:=w.heap.size) (s:=14) underlying30 p v f l rfl oo y (by rw[qa (enc:=evC) (s:=14) (λ_=>rfl),g.len]) m.flat (Zn Cf _) oo oo j.size λd c' B z q=>?_
  obtain⟨A,r⟩:=zdH z g.len;exact h B d c' A r (λu=>by cases u) (j.trans q)
def zgp{x:MGT}{B:Nat}(M:TMk B w x)(I:x.1.L.length<=1000)(p:∀w' x',x'.1=x.1->TMk 0 w' x'->(x.2=(none,0)->x'.2=(none,0))->(∀b o,x'.2.1=some ⟨b,o,none⟩->w.heap.size<=b)->Below w.heap.size w w'->K (.agg (tmC x').toArray) w'):call Q 202 #[.agg (tmC x).toArray] K w:=by
 refine aj (goK func202) (zch (bu λA j m V=>bO (z:=.agg (mgC 0 0 0 (List.replicate 6 0) (.slice none 0 0) 0 0).toArray) kr λO l s W=>?_));have j:=cZ j
 have l:=cZ l
 have g:=ae s j j.lt;have f:=tB m s;refine Ee (lK (v:=.slice x.2.1 x.1.L.length x.2.2) g rfl ?_);refine zkl (M.vr.bel f oA) I λP a c N t J h=>?_;have D:=ae h g g.lt;have C:=ae h l l.lt;have X:=h.size;obtain⟨x',d⟩:∃x':MGT,x'=(x.1,a,c):=⟨_,rfl⟩
 refine Ee (cq kf D (by rw[dN];omega) rfl λR r q=>?_);have r:blk R w.heap.size 282 (tmC x'):=by rw[d];exact r
 have T:=q.blk C oo;refine ldA (n:=12) (vs:=tmC x') underlying282 rfl kr r (dTk (by rw[dN];omega)) (dN _) ?_;refine eW (n:=12) (vs:=tmC x') kr (dN _) T (by show 0+12<=12;omega) (wm _) λS E y=>?_;rw[qY,oV,oS (by show 12<=0+12;omega),oW]at E
 refine uT (v:=.agg (tmC x').toArray) (λ_ p=>ldA (n:=12) (vs:=tmC x') underlying282 rfl kr E (dTk (by rw[dN];omega)) (dN _) p) ?_;refine p S x' (by rw[d]) (TMk.kp (w:=P) ?_ λk U u=>?_) (λH=>by rw[d];obtain⟨F,G⟩:=J (by rw[H]);rw[F,G]) (λb o i=>by rw[d]at i;have:=(t b o i).1;have:=f.size;omega) (aD (aD (tB f h) q oA) y m.size)
 .rw[d];exact⟨N,λb o i=>⟨qG _,(t b o i).2⟩⟩
 .rw[y.other k λe=>qI e (u.ne C dc),q.other k λe=>qI e (u.ne D dc)]
def zjV{x:MGT}{B:Nat}(a:MsP T x.1)(u:TMk B w x)(p:x.1.k=2->x.2=(none,0))(h:nX w (K (.bool true))):call Q 201 #[.agg (tmC x).toArray] K w:=by
 have v:=a.f6;have y:=a.t6;have i:bB ((x.1.f:Int)+1)=true:=by simp only[bB,oM,oP];omega
 have j:bB ((x.1.t:Int)+1)=true:=by simp only[bB,oM,oP];omega
 have b:(x.1.f:Int)+1≠(x.1.t:Int)+1:=λe=>a.ft oo;rw[Qv a.v6];rcases a.kd with⟨o,r,l,d⟩|⟨c,q,s,m⟩
 .rw[o,r,l];exact zbr u.vr d (λe n=>(a.ev e n).may) a.v6 a.vle i j b h
 .have g:=p c;rw[c,q,show x.2.1=none by rw[g],show x.2.2=0 by rw[g]];exact zdv s m a.v6 a.vle i j b h
def NM.cell(h:NM w T p ra rc M cut){t:Nat}(a:f<6)(b:t<6):(.slice ra M.length rc::cut.map Value.bool)[1+f*6+t]? = some (.bool (cut.getD (6*f+t) false)):=by
 rw[show 1+f*6+t=(6*f+t)+1 by omega,qK,qC]
 have:6*f+t<cut.length:=by rw[h.cut];omega
 rw[gE this];simp[List.getD,this]
def zdA{S:oG->Prop}{x:MGT}(J:X1=pB p)(h:NM w T p ra rc M cut)(u:MsP T x.1/\TMk 0 w x/\(x.1.k=2->x.2=(none,0)))(aa:M.length<128)(Y:∀w',Below w.heap.size w w'->S w')(t:∀w' B rc',NM w' T p B rc' (M++[x]) cut->NS w w' p ra B M M->K (ci 0) w'):(aX S λS=>bM Q 97 1 #[(0,.agg (tmC x).toArray)] λO=>aX S λ_=>blt Q .append #[97,97] 97 #[false,false] #[.slice ra M.length rc,O] λP=>aF λS w=>hN S X1 (λR=>hF S 100 R 0 λU=>sto Q 97 U P (λ_=>K (ci 0)) w)) w:=by
 subst J;obtain⟨mi,G,I,H,F⟩:=info_parts SW;refine aB (Y w (jU _ _)) (nV [.agg (tmC x).toArray] underlying97 (s:=12) kr kr oo rfl oB dc rfl (by
  intro v hv;rw[mS hv]
  have:=dN x
  simpa[Value.cells]using this) λC L r s9=>?_)
 have L:=cZ L
 have j:=h.below r;have x9:=u.2.1.below r;refine aB (Y C r) (wK (enc:=tmC) (x:=x) underlying97 G I H F rfl oo dN j.row L (wm x) oo oo (qG _) λV W w10 m a _ A=>?_);have g:blk w10 p 100 (.slice ra M.length rc::cut.map .bool):=by
  have:=a.block p j.b.lt λe=>by obtain⟨X,q⟩:=PZ j.row e.symm;exact j.b.ne q dc rfl
  have q:=j.b;unfold blk at q |-;rw[this];exact q
 refine aw (λy=>blk y p 100 (.slice ra M.length rc::cut.map .bool)) g (hZ (hW BQ (cq kf g oB rfl λi n l=>?_)));have n:blk i p 100 (.slice V (M.length+1) W::cut.map .bool):=n;have E:(M++[x]).length=M.length+1:=by simp
 have D:Ch (p::rwB ra) w w10:=by
  have c:Ch (p::rwB ra) C w10:=⟨a.os,a.tape,a.output,a.size,λk f b=>a.block k f λe=>b (oH _ (xJ e.symm))⟩
  exact(Ch.of_below r).trans c λk f=>.inl f
 have N:=cn m (w':=i) λk f=>l.other k λe=>by
  obtain⟨X,q⟩:=PZ m f;exact q.ne g dc e
 refine t i V W ⟨by rw[E];exact n,by rw[E];exact N,λy z=>?_,by rw[E];omega,h.cut⟩ ⟨D.trans (Ch.of_oth l oB) λk f=>.inl f,λk f=>?_,λx u b o e=>.inl ⟨x,u,e⟩⟩
 .have Z:∀{y:MGT},TMk 0 C y->TMk 0 i y:=λty=>(ty.grow j.row a).kp λk X f=>l.other k λe=>qI e (f.ne g dc);rcases oU.1 z with z|z
  .obtain⟨y1,y2,y3⟩:=j.ms y z;exact⟨y1,Z y2,y3⟩
  .rw[mS z];exact⟨u.1,Z x9,u.2.2⟩
 .have f:=wi f m;rcases A with A|A
  .exact .inl (xJ (A ▸ f))
  .rw[A,qD]at f;exact .inr (by have:=r.size;omega)
end
def Qa(cut:List Bool)(L:List MG)(g:MG):List MG:=if cut.getD (6*g.f+g.t) false=true\/128<=L.length then L else L++[g]
section
variable {T:TT}{p:Nat}{ra:Option Addr}{rc:Nat}{M:List MGT}{cut:List Bool}
def NS.refl(a:Below w.heap.size w S):NS w S p ra ra M M:=⟨Ch.of_below a,λ_ c=>.inl c,λx d b o e=>.inl ⟨x,d,e⟩⟩
def NS.trans{M' M2:List MGT}(h:NS w S p ra a M M')(k:NS S O p a av M' M2):NS w O p ra av M M2 :=
 have g:=h.ch.size
 ⟨h.ch.trans k.ch λx c=>(oO.1 c).elim (λe=>.inl (e ▸ oL)) λc=>(h.rw x c).imp (oH _) id,λx c=>(k.rw x c).elim (h.rw x) λd=>.inr oo,λx c b o e=>(k.mw x c b o e).elim (λ⟨y,f,e⟩=>h.mw y f b o e) λd=>.inr oo⟩
def NS.pre{M':List MGT}(b:Below w.heap.size w S)(k:NS S O p ra a M M'):NS w O p ra a M M':=(NS.refl b).trans k
def NM.fst(h:NM w T p ra rc M cut)(a:K (.slice ra M.length rc) w):ao Q 100 (pB p) 0 (λu=>ld Q 97 u K) w:=BQ (lK (v:=.slice ra M.length rc) h.b rfl a)
def zjl{x:MGT}{B:Nat}(h:NM w T p ra rc M cut)(u:MsP T x.1)(O:TMk B w x)(N:x.1.k=2->x.2=(none,0))(a:∀w' j m M' (e:Int),NM w' T p j m M' cut->M'.map (·.1)=Qa cut (M.map (·.1)) x.1->NS w w' p ra j M M'->K (ci e) w'):call Q 186 #[pB p,.agg (tmC x).toArray] K w:=by
 refine aj (goK func186) (WG (bu λw1 A C s1=>QJ (aA ?_)));have A:=cZ A
 have U:=u.f6;have t6:=u.t6;have z:∀{y:oG} {K:KV},blk y w.heap.size 282 (tmC x)->K (.agg (tmC x).toArray) y->ld Q 282 (pB w.heap.size) K y:=λhy a=>ldA (n:=12) (vs:=tmC x) underlying282 rfl kr hy (dTk (by rw[dN];omega)) (dN _) a;refine z A (zjV u (O.below C) N λq G=>bc (aA ?_));have l:=tB C G;have V:=h.below l;have E:=ae G A A.lt
 have c:=V.below (jU _ q).drew;refine ah (λ_=>BP) (ah (v:=iv ((x.1.f:Int)+1)) (λ_=>lK E.drew rfl) (ah (v:=iv (x.1.f:Nat)) (λK a=>bL oo oo (by rw[show (x.1.f:Int)+1-1=(x.1.f:Nat)by omega];exact a)) ?_))
 refine ah (λ_=>yO) (ah (v:=iv ((x.1.t:Int)+1)) (λ_=>lK E.drew rfl) (ah (v:=iv (x.1.t:Nat)) (λK a=>bL oo oo (by rw[show (x.1.t:Int)+1-1=(x.1.t:Nat)by omega];exact a)) ?_));refine ah (λ_=>aq) (ah (λ_=>MQ) (ah (v:=pA p (1+x.1.f*6)) (λK a=>fg underlying98 (s:=6) kf oo oo a) ?_))
 refine ah (v:=pA p (1+x.1.f*6+x.1.t*1)) (λK a=>fg underlying35 (s:=1) kf oo oo a) <|ah (v:=.bool (cut.getD (6*x.1.f+x.1.t) false)) (λ_=>lK c.b (by rw[Nat.mul_one];exact c.cell U t6)) ?_;have r:=l.trans ((jU _ q).drew.mono l.size);cases J:cut.getD (6*x.1.f+x.1.t) false with
 | true=>exact aV (a _ ra rc M 0 c (by unfold Qa;rw[oJ (.inl J)]) (.refl r))
 | false =>
  refine aA (aq (c.fst (bv underlying97 (bR ?_))));by_cases Y:128<=M.length
  .exact ay oo (a _ ra rc M 7 c (by unfold Qa;rw[oJ (.inr (by rw[oY];exact Y))]) (.refl r))
  refine ax oo ?_;have F:=E.drew;have i:Below q.drew.heap.size q.drew q.drew.drew:=(jU _ _).drew;have W:=c.below i;refine aw (λy=>blk y p 100 (.slice ra M.length rc::cut.map .bool)/\blk y w.heap.size 282 (tmC x)) ⟨W.b,F.drew⟩ ?_;refine hZ (hW BQ (ac (v:=.slice ra M.length rc) (λy d _ a=>lK d.1 rfl a) (ac (λy d _ a=>z d.2 a) ?_)))
  have hl:x.1.L.length<=1000:=by rcases u.kd with h|h<;>simp_all<;>omega
  refine zgp ((O.below r).below i) hl λw4 x' D t4 n4 S R=>?_;have g:=i.trans R;have I:=c.below g;refine zdA rfl I ⟨by rw[D];exact u,t4,λZ=>n4 (N (by rw[<-D];exact Z))⟩ oo (λP H=>⟨(I.below H).b,ae (tB g H) F F.lt⟩) λP j m X s5=>?_
  refine a P j m _ 0 X ?_ ((NS.pre (tB r g) s5).add λb o e=>by have:=S b o e;have:=r.size;have:=i.size;omega);unfold Qa;rw[oI (by rw[J,oY];simp;omega),jJ,List.map_singleton,D]
def zjh{k:Nat}(V:w.ownsRow 0 282 12 (.slice ra M.length rc) M.length (M.flatMap tmC))(p:k<M.length)(hM:M.length<=128)(h:∀w',w'.ownsRow 0 282 12 (.slice ra (M.eraseIdx k).length rc) (M.eraseIdx k).length ((M.eraseIdx k).flatMap tmC)->Ch (rwB ra) w w'->K (.slice ra (M.eraseIdx k).length rc) w'):call Q 204 #[.slice ra M.length rc,iv (k:Nat),iv ((k+1:Nat))] K w:=by
 obtain⟨g,F,rfl,d⟩:=gy V oo;have R:=d.nc;have I:=d.len;have D:∀w,(sizeOf 282).run Q w=.ok 12 w:=λ_=>by kernel_rfl
 obtain⟨mi,r,O,N,Z⟩:=info_parts SW;have Y:(M.flatMap tmC).length=M.length*12:=qa dN M;refine aj (goK func204) (xe (bv underlying97 ?_));refine zbD underlying97 D (zgG oo oo R) (aT (ax oo (bv underlying97 ?_)));refine hRT (ac (λy _ _ G=>VG underlying97 D (m:=k) oo G) (ac (λy _ _ G=>Yx underlying97 D (q:=k+1) oo R G) ?_))
 obtain⟨E,n⟩:∃E:Addr,(if rc=k+1 then some (⟨g,0,none⟩:Addr)else (some (⟨g,0,none⟩:Addr)).map (·.add ((k+1)*12)))=some E/\(M.length-(k+1)=0\/E=⟨g,(k+1)*12,none⟩):=by
  by_cases e:rc=k+1
  .exact⟨_,oJ e,.inl oo⟩
  .exact⟨_,oI e,.inr (by simp[Addr.add])⟩
 rw[n.1];have ab:=V.drew;have S:w.drew.ownsRow 0 282 12 (.slice (some ⟨g,0,none⟩) k rc) k ((M.take k).flatMap tmC):=by
  refine⟨by rw[qa dN,qA,Nat.min_eq_left oo],.inr ⟨g,rc,F.toArray,rfl,qG _,d.blk.drew,by omega,d.cm,by simpa using I,?_⟩⟩;rw[<-Pv dN, <-d.take,List.take_take,Nat.min_eq_left oo]
 have A:((M.drop (k+1)).flatMap tmC).length=(M.length-(k+1))*12:=by rw[qa dN,qB]
 refine zet (s:=12) underlying97 r N S A (λj u x=>?_) (Zn wm _) oo λw1 B i=>?_
 .have L:j<(M.length-(k+1))*12:=by rw[<-A];exact(gS x).1
  rcases n.2 with e|e
  .rw[e]at L;omega
  .rw[e,zw,d.blk.drew.cell];rw[<-Pu dN,jM, <-d.take,List.getElem?_take]at x;split at x
   .exact x
   .cases x
 have T:(M.eraseIdx k).length=k+(M.length-(k+1)):=by rw[List.length_eraseIdx_of_lt p];omega
 have X:(M.take k).flatMap tmC++(M.drop (k+1)).flatMap tmC=(M.eraseIdx k).flatMap tmC:=by rw[<-List.flatMap_append, <-List.eraseIdx_eq_take_drop_succ]
 rw[X, <-T]at B;rw[<-T];obtain⟨c,b,a,C,_,J,aa,U,t,v⟩:∃(c b:Nat) (a:Array oF),Value.slice (some ⟨g,0,none⟩) (M.eraseIdx k).length rc=.slice (some ⟨c,0,none⟩) (M.eraseIdx k).length b/\0<=c/\w1.heap[c]? = some (.cells a 282 (0,0))/\(M.eraseIdx k).length<=b/\b<=maxLen/\a.size=b*12/\a.toList.take ((M.eraseIdx k).length*12)=(M.eraseIdx k).flatMap tmC:=by
  rcases B.2 with⟨C,_⟩|h
  .cases C
  .exact h
 simp only[Value.slice.injEq,qD,Addr.mk.injEq,and_true,true_and]at C;obtain⟨rfl,rfl⟩:=C;have H:blk w1 g 282 a.toList:=by unfold blk;simpa using J
 have f:a.toList.length=rc*12:=by simpa using t
 refine hRT (bv underlying97 ?_);refine zbD (l:=(M.eraseIdx k).length) (h:=M.length) (m:=rc) underlying97 D (zit oo R) ?_;rw[oI oo,oK,show M.length-(M.eraseIdx k).length=0+1 by omega]
 refine ziz (z:=.agg (mgC 0 0 0 (List.replicate 6 0) (.slice none 0 0) 0 0).toArray) (zs:=mgC 0 0 0 (List.replicate 6 0) (.slice none 0 0) 0 0) underlying97 r O kr H (by rw[f];show (M.eraseIdx k).length*12+12<=_;omega) dc λw2 o o2=>?_;generalize hz:mgC 0 0 0 (List.replicate 6 0) (.slice none 0 0) 0 0=zs at o;have P:zs.length=12:=by rw[<-hz];rfl
 refine h w2 ⟨qa dN _,.inr ⟨g,rc,_,rfl,qG _,by have:=o;unfold blk at this;exact this,by omega,d.cm,?_,?_⟩⟩ ?_
 .simp only[List.size_toArray,oT,qA,qB,f,P];omega
 .simp only[jE];rw[List.take_left' (by rw[qA,f];omega),v]
 .have W:Ch (rwB (some ⟨g,0,none⟩)) w w1:=(Ch.of_below (jU _ w).drew).trans ⟨i.os,i.tape,i.output,i.size,λj L a=>i.block j L λe=>a (by rw[qD]at e;rw[<-e];exact List.mem_singleton.2 rfl)⟩ λk p=>.inl p;exact W.trans (Ch.of_oth o2 (List.mem_singleton.2 rfl)) λk p=>.inl p
end
abbrev msgZ:oE:=mgC 0 0 0 (List.replicate 6 0) (.slice none 0 0) 0 0
section
variable {T:TT}{p:Nat}{ra:Option Addr}{rc:Nat}{M:List MGT}{cut:List Bool}
def ZT{k:Int}(h:NM w T p ra rc M cut)(c:K (.bool (decide (0<=k)&&decide (k<M.length))) w):call Q 203 #[pB p,iv k] K w:=by
 refine aj (goK func203) (Tp (zbs (kN (bR (cA ?_)))));by_cases a:k≥0
 .rw[show decide (0<=k)=true from qF a,qZ]at c;exact bU a (aq (BQ (lK (v:=.slice ra M.length rc) h.b rfl (bv underlying97 (aL (bI a c))))))
 .rw[show decide (0<=k)=false from qE a,jA]at c;exact cJ a (bw a c)
def NM.row'{M':List MGT}(h:NM w T p ra rc M cut)(j:Ch (rwB ra) w O)(n:O.ownsRow 0 282 12 (.slice a M'.length c) M'.length (M'.flatMap tmC))(f:∀x∈M',x∈M)(C:M'.length<=M.length)(o:Oth p O S)(u:blk S p 100 (.slice a M'.length c::cut.map .bool))(v:rwB a=rwB ra):NM S T p a c M' cut/\NS w S p ra a M M':=by
 have r:=h.few;have y:∀k g E,blk w k E g->E≠100->E≠282->S.heap[k]? = w.heap[k]? := λk g E d s t=>by
  rw[o.other k λe=>qI e (d.ne h.b s),j.block k d.lt λf=>by obtain⟨q,l⟩:=h.rwt f;exact qI rfl (d.ne l t)]
 refine⟨⟨u,cn n λk d=>o.other k λe=>?_,λx m=>?_,by omega,h.cut⟩,⟨(j.mono λk d=>oH _ d).trans (Ch.of_oth o oB) λk d=>.inl d,λk d=>.inl (v ▸ d),λx m b o e=>.inl ⟨x,f x m,e⟩⟩⟩
 .obtain⟨g,i⟩:=PZ n d
  have:=h.b.ch j λf=>by obtain⟨q,l⟩:=h.rwt f;exact h.b.ne l dc rfl
  exact i.ne this dc e
 .obtain⟨z,A,B⟩:=h.ms x (f x m);exact⟨z,A.kp λk g d=>y k g _ d dc dc,B⟩
def WH{k:Int}(h:NM w T p ra rc M cut)(no:∀w',¬(0<=k/\k<M.length)->Below w.heap.size w w'->K (.tuple #[.agg msgZ.toArray,cF]) w')(u:∀w' x,M[k.toNat]? = some x->NM w' T p ra rc (M.eraseIdx k.toNat) cut->MsP T x.1/\TMk 0 w' x/\(x.1.k=2->x.2=(none,0))->NS w w' p ra ra M (M.eraseIdx k.toNat)->K (.tuple #[.agg (tmC x).toArray,cT]) w'):call Q 187 #[pB p,iv k] K w:=by
 refine aj (goK func187) (Vl (bO (z:=.agg msgZ.toArray) kr λN H D s1=>?_));have H:=cZ H
 have l:=h.below D;have P:=h.few;have q:∀{y:oG} {K:KV} {b:Nat} {f:oE},f.length=12->blk y b 282 f->K (.agg f.toArray) y->ld Q 282 (pB b) K y:=λV E m=>ldA (n:=12) underlying282 rfl kr E dTk V m
 have t:∀{y:oG} {K:KV} {b:Nat} {f B:oE},f.length=12->B.length=12->(∀v∈f,v.oneCell'=true)->blk y b 282 B->(∀G,blk G b 282 f->Oth b y G->K undef G)->sto Q 282 (pB b) (.agg f.toArray) K y:=λ{y K b f B} V ac l E m=>eW (n:=12) kr V E oo l λG F o' => m G (by
  rw[qY,oV,oS oo,oW]at F;exact F) o'
 refine ZT l (bc ?_);by_cases a:0<=k/\k<M.length
 .rw[qF a.1,qF a.2];obtain⟨j,rfl⟩:=Int.eq_ofNat_of_zero_le a.1;have U:j<M.length:=by omega
  obtain⟨x,C⟩:=gX U;have u:=λw' => u w' x C;obtain⟨m1,m2,m3⟩:=l.ms x (mO C);refine aA (aq (l.fst ?_));refine BE (i:=j) (enc:=tmC) (s:=12) (L:=M) (x:=x) underlying97 kf underlying282 rfl kr dN l.row rfl C λ_=>?_;refine bO (z:=.agg msgZ.toArray) kr λZ I b2 s2=>?_
  have I:=cZ I
  refine t (dN _) rfl (wm x) I λw3 z3 o3=>?_;have d:=aD b2 o3 oA;have g:=l.below d;have aa:=ae d H H.lt;refine aq (g.fst (aR oo oo ?_));rw[show (j:Int)+1=((j+1:Nat):Int)by push_cast;rfl];refine zjh g.row U P λw4 Y c4=>?_;have R:=g.b.ch c4 λc=>by obtain⟨ds,S⟩:=g.rwt c;exact g.b.ne S dc rfl
  refine aq (BQ (cq kf R oB rfl λw5 z5 o5=>?_));have z5:blk w5 p 100 (.slice ra (M.eraseIdx j).length rc::cut.map .bool):=z5;obtain⟨n5,J⟩:=g.row' c4 Y (λy E=>List.mem_of_mem_eraseIdx E) (by rw[List.length_eraseIdx_of_lt U];omega) o5 z5 rfl;have W:∀k,w.heap.size<=k->k∉p::rwB ra:=λk a c=>by have:=h.lt k c;omega
  have ab:=z3.ch J.ch (W _ D.size);have A:=aa.ch J.ch (W _ oA);refine q (dN x) ab (t (dN _) rfl (wm x) A λw6 z6 X=>?_);refine ze (v:=.agg (tmC x).toArray) (λ_ m=>q (dN x) z6 m) ?_;have O:=tB D d;have r:=(NS.refl O).trans J
  have n6:=n5.chN (T':=T) (Ch.of_oth X (List.mem_singleton.2 rfl)) (λk a c=>W _ oA (mS c ▸ a)) (λx C k o b c=>by obtain⟨_,B,a⟩:=(n5.ms x C).2.1.ev k o b;exact a.ne A dc (mS c)) LeT.refl
  have kp:TMk 0 w6 x:=((m2.below d).kp λk B a=>(J.ch.block k a.lt λc=>?_)).kp λk B a=>X.other k λe=>qI e (a.ne A dc);exact u w6 n6 ⟨m1,kp,m3⟩ ⟨r.ch.add (aD (jU _ w5) X oA),r.rw,r.mw⟩;rcases oO.1 c with e|c
  .exact a.ne g.b dc e
  .obtain⟨ds,S⟩:=g.rwt c;exact a.ne S dc rfl
 .have:(decide (0<=k)&&decide (k<(M.length:Int)))=false:=by
   rw[Bool.eq_false_iff];intro hh;simp only[oM,oP]at hh;exact a hh
  rw[this];refine aV (ck (vs:=msgZ) kr (t rfl rfl dc H λZ I b=>ze (v:=.agg msgZ.toArray) (λ_ m=>q rfl I m) (no Z a (aD D b oA))))
def zhs{k:Int}(h:NM w T p ra rc M cut)(l:∀S M' (b:Bool),NM S T p ra rc M' cut->NS w S p ra ra M M'->K (.bool b) S):call Q 189 #[pB p,iv k] K w:=by
 refine aj (goK func189) (Vj (WH h (λg _ d=>?_) λg x _ m r o=>?_))
 .refine bo (bj (bO (z:=.agg msgZ.toArray) kr λi c e q=>?_));have c:=cZ c
  refine eW (n:=12) (vs:=msgZ) kr rfl c (by show 0+12<=12;omega) dc λj _ f=>?_;have a:=aD e f oA;exact l j M false ((h.below d).below a) (.refl (tB d a))
 .refine bo (bj (bO (z:=.agg msgZ.toArray) kr λi c e q=>?_));have c:=cZ c
  refine eW (n:=12) (vs:=tmC x) kr (dN x) c (by show 0+12<=12;omega) (wm x) λj _ f=>?_;have a:=aD e f oA;exact l j _ true (m.below a) (o.trans (.refl a))
def zfv{k:Int}(h:NM w T p ra rc M cut)(a:∀w' c f M' (e:Int),NM w' T p c f M' cut->NS w w' p ra c M M'->K (ci e) w'):call Q 190 #[pB p,iv k] K w:=by
 refine aj (goK func190) (To (QJ (aA (ZT h (bc ?_)))));by_cases m:0<=k/\k<M.length
 .rw[qF m.1,qF m.2];obtain⟨j,rfl⟩:=Int.eq_ofNat_of_zero_le m.1;have J:j<M.length:=by omega
  obtain⟨x,A⟩:=gX J;refine aA (aq (h.fst (bv underlying97 (bR ?_))));by_cases V:128<=M.length
  .exact ay oo (a _ ra rc M 7 h (.refl (jU _ _)))
  refine ax oo ?_;have t:=bDr w;have i:=h.below t;obtain⟨E,O,P⟩:=i.ms x (mO A);obtain⟨g,u,z,q⟩:=gy i.row oo;subst z;have W:=i.row;refine aw (λy=>blk y p 100 (.slice (some ⟨g,0,none⟩) M.length rc::cut.map .bool)/\blk y g 282 u) ⟨i.b,q.blk⟩ ?_;refine hZ (hW BQ (ac (v:=.slice (some ⟨g,0,none⟩) M.length rc) (λy d _ a=>lK d.1 rfl a) ?_))
  refine hZ (hW BQ (ac (v:=.slice (some ⟨g,0,none⟩) M.length rc) (λy d _ a=>lK d.1 rfl a) ?_))
  refine ac (v:=pA g (0+((j:Nat):Int).toNat*12)) (λy d _ a=>fQ underlying97 (s:=12) kf oo oo a) <|ac (v:=.agg (tmC x).toArray) (λy d _ a=>ldA (n:=12) (vs:=tmC x) underlying282 rfl kr d.2 (by rw[oQ,oK];exact q.elem dN rfl A) (dN _) a) ?_
  have N:x.1.L.length<=1000:=by rcases E.kd with h|h<;>simp_all<;>omega
  refine zgp O N λX Y C U R H r=>?_;have D:=i.below r;have G:=ae r q.blk q.blk.lt;refine zdA rfl D ⟨by rw[C];exact E,U,λl=>R (P (by rw[<-C];exact l))⟩ oo (λF B=>⟨(D.below B).b,ae B G G.lt⟩) λF c f I S=>?_;exact a F c f _ 0 I ((NS.pre (t.trans r) S).add λb o e=>by have:=H b o e;have:=t.size;omega)
 .have:(decide (0<=k)&&decide (k<(M.length:Int)))=false:=by
   rw[Bool.eq_false_iff];intro l;simp only[oM,oP]at l;exact m l
  rw[this];exact aV (a w ra rc M 4 h (.refl (jU _ _)))
def zji(h:NM w T p ra rc M cut)(a:K (iv (M.length:Nat)) w):call Q 28 #[pB p] K w :=
 aj (goK func28) (WF (QJ (aA (aq (h.fst (bv underlying97 a))))))
def NM.cuts{cs:List Bool}(h:NM w T p ra rc M cut)(o:Oth p w S)(d:blk S p 100 (.slice ra M.length rc::cs.map .bool))(g:cs.length=36):NM S T p ra rc M cs/\NS w S p ra ra M M:=by refine⟨⟨d,cn h.row λk a=>o.other k λe=>?_,λx c=>⟨(h.ms x c).1,(h.ms x c).2.1.kp λk b a=>o.other k λe=>qI e (a.ne h.b dc),(h.ms x c).2.2⟩,h.few,g⟩,Ch.of_oth o oB,λk a=>.inl a,λx c b o e=>.inl ⟨x,c,e⟩⟩;obtain⟨i,f⟩:=PZ h.row a;exact f.ne h.b dc e
def zht(h:NM w T p ra rc M cut)(f:∀S cs,NM S T p ra rc M cs->NS w S p ra ra M M->K (.tuple #[]) S):call Q 161 #[pB p] K w:=by
 refine aj (goK func161) (Vk (zbs (aV (ck (vs:=List.replicate 36 (.bool false)) kr (aq (MQ (eW (n:=36) (vs:=List.replicate 36 (.bool false)) kr rfl h.b (by simp[h.cut]) dc λc a g=>?_)))))));have a:blk c p 100 (.slice ra M.length rc::(List.replicate 36 false).map .bool):=by
  have e:List.take 1 (.slice ra M.length rc::cut.map Value.bool)++List.replicate 36 (Value.bool false)++List.drop (1+36) (Value.slice ra M.length rc::cut.map Value.bool)=.slice ra M.length rc::(List.replicate 36 false).map .bool:=by
   rw[oS (by simp[h.cut]),oW];rfl
  rw[<-e];exact a
 obtain⟨d,i⟩:=h.cuts g a rfl;exact f c _ d i
def XE{o:Int}(h:K (.bool (bB o)) w):call Q 207 #[iv o] K w:=by
 refine aj (goK func207) (Yg (bR ?_));unfold bB at h;by_cases a:o≥1
 .rw[show decide (1<=o)=true from qF a,qZ]at h;exact bU a (iG (bI a h))
 .rw[show decide (1<=o)=false from qE a,jA]at h;exact cJ a (bw a h)
def zjf{i j:Int}(h:NM w T p ra rc M cut)(c:∀S cs (e:Int),NM S T p ra rc M cs->NS w S p ra ra M M->K (ci e) S):call Q 191 #[pB p,iv i,iv j] K w:=by
 refine aj (goK func191) (WE (QJ (aA (XE (bc ?_)))));refine Tm ?_;have r:∀(z:oD),lC K (qc (pB p) (iv i) (iv j) cT z) w:=λz=>IV (aV (c w cut 10 h (.refl (jU _ _))));cases C:bB i with
 | false=>exact aV (r _)
 | true =>
 refine aA (XE (bc ?_));cases D:bB j with
 | false=>exact aV (r _)
 | true =>
 refine aA (aT (IV ?_));by_cases f:i=j
 .exact ay f (c w cut 10 h (.refl (jU _ _)))
 refine ax f (Tn ?_);simp only[bB,oM,oP]at C D;obtain⟨a,rfl⟩:∃a:Nat,i=(a:Int)+1:=⟨(i-1).toNat,by omega⟩
 obtain⟨b,rfl⟩:∃b:Nat,j=(b:Int)+1:=⟨(j-1).toNat,by omega⟩
 have l:=bDr w;have m:=h.below l;have t:∀{w:oG} {K:KV},K (iv (a:Nat)) w->bT .sub 3 (iv ((a:Int)+1)) (ci 1) K w:=λc=>bL oo oo (by rw[show (a:Int)+1-1=(a:Nat)by omega];exact c);have u:∀{w:oG} {K:KV},K (iv (b:Nat)) w->bT .sub 3 (iv ((b:Int)+1)) (ci 1) K w:=λc=>bL oo oo (by rw[show (b:Int)+1-1=(b:Nat)by omega];exact c)
 have n:∀{w:oG} {K:KV} {x:Nat},x<6->K (pA p (1+x*6)) w->aW Q 98 (pA p 1) (iv (x:Nat)) K w:=λE c=>fg underlying98 (s:=6) kf oo oo c
 have q:∀{w:oG} {K:KV} {o x:Nat},x<6->K (pA p (o+x)) w->aW Q 35 (pA p o) (iv (x:Nat)) K w:=λ{w K o x} E c=>fg underlying35 (s:=1) kf oo oo (by rw[oQ,Nat.mul_one];exact c);refine hRT (ac (λy _ _ c=>t c) (ac (λy _ _ c=>u c) (ac (λy _ _ c=>u c) (ac (λy _ _ c=>t c) ?_))))
 refine hZ (hW MQ (ac (λy _ _ c=>n oo c) (ac (λy _ _ c=>q oo c) ?_)));refine hZ (hW MQ (ac (λy _ _ c=>n oo c) ?_));have d:∀{cs:List Bool} {x:Nat},Value.slice ra M.length rc::(cs.set x true).map Value.bool=(Value.slice ra M.length rc::cs.map Value.bool).set (x+1) (.bool true):=λ{cs x} => by rw[List.set_cons_succ,List.map_set]
 have g:=h.cut;refine cq kf m.b (by simp[g];omega) rfl λL k F=>?_;rw[show 1+a*6+b=(a*6+b)+1 by omega, <-d]at k;obtain⟨A,H⟩:=m.cuts F k (by simp[g]);refine aB trivial (ac (λy _ _ c=>q oo c) (cq kf k (by simp[g];omega) rfl λJ v G=>?_));rw[show 1+b*6+a=(b*6+a)+1 by omega, <-d]at v
 obtain⟨B,I⟩:=A.cuts G v (by simp[g]);exact c J _ 0 B ((NS.pre l H).trans I)
end
end
end
end Go.Proofs.YtpaghmnnhedccaaGreatDoor
