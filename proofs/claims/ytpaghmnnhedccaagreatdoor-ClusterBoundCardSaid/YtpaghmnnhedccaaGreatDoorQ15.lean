import Derived.Test.YtpaghmnnhedccaaGreatDoorQ14
set_option linter.all false
namespace Go.Proofs.YtpaghmnnhedccaaGreatDoor
set_option maxRecDepth 100000
set_option maxHeartbeats 4000000
open Go.Proofs.Tryz
open Go.RowKit
variable {w w' w0 w2 S O:oG}{K:KV}{zf:Nat->oF}{b c o i g m s j f z d c2 D gc B' hi np:Nat}{a av a2:Option Addr}{x v r P0:Int}{E t e:TypeId}{A:List Int}{B1 N R:KE}{vs:oE}{cx cy:Bool}{T:List (Int×Int)}{X0:List Nat}{X1 Z1 N2 O2 P2 Q2 R2 T2 H Z U Y J C:oF}
def Ln(c b a:oF)(zf:oD):=c::zT zf 1 3 (b::zT zf 5 14 (a::zT zf 20 24 ([])))
def Lo(a:oF)(zf:oD):=zT zf 0 4 (a::zT zf 5 39 ([]))
def pU(K:KV):KE:=kZ f7 [1,1,1,1] K
def zG(K:KV):KE:=ai Q (cd f7 (b1 122)) (pU K) (xx xf (pU K) 0) (rk f7 K)
def VY(h:bT .lss 3 H (ci 1) (λb w=>aM b false (λf=>bT .gtr 3 H (ci 6) (λa=>f [H,a]) w) (λk=>k [uu,uu] w) λa=>pick b cT (gd a 1) λf w=>cond f (K (.tuple #[.pointer none,ci 1]) w) (call Q 17 #[] (λc=>bld Q 72 #[(0,H),(2,c)] λd=>box Q 72 d λe=>zG K (Ln H e (ci 0) (zV (zV zu 2 [.pointer none,ci 0]) 9 [H,b,b,gd a 0,gd a 1,f,H,c,d,e]))) w)) w):Gives Q 7 #[H] w K:=au func7 kr (mpK h)
def Sm(Inv:oF->oG->Prop)(μ:oF->oG->Nat)(q:Inv U w)(r:∀(a:oF) (p:oD) (w:oG) (m:Nat),Inv a w->m=μ a w ->
  bT .lss 3 a (ci 6) (λb w=>cond b (call Q 18 #[] (λc=>nC a λg=>call Q 19 #[H,g,c] λd=>ext Q d 0 λi=>ext Q d 1 λe=>bT .neq 26 e (ci 0) λj w=>cond j (K (.tuple #[.pointer none,e]) w) (bld Q 69 #[(0,c),(1,i)] (λk=>aU Z λl=>ao Q 72 l 1 λn=>aW Q 70 n a λo=>sto Q 69 o k λ_=>nC a λf w=>(Inv f w)/\((μ f w)<m)) w)) w) (pU K (Lo Z (zV (zV p 0 [H]) 19 [a,b])) w)) w):zG K (Ln H Z U zf) w:=by refine lV (cd f7 (b1 244)) [(2,2),(5,4),(19,24)] 19 zf q r ?_;intro s t;exact mpF
def Sn(h:K (.tuple #[H,ci 0]) w):pU K (Lo H zf) w:=mpK h
attribute [irreducible] pU zG
def OX(h:aU H (λa=>ao Q 69 a 0 λg=>ld Q 66 g λi=>call Q 33 #[i] λe w=>aM e true (λf=>aU H (λa=>ao Q 69 a 1 λb=>ld Q 67 b λc=>call Q 34 #[c] λd=>un Q .not d λe=>f [H,a,b,c,d,e]) w) (λk=>k [uu,uu,uu,uu,uu,uu] w) λd=>pick e (gd d 5) cF K) w):Gives Q 21 #[H] w K:=au func21 kr (mpK h)
def Rl(h:bT .geq 3 H (ci 1) (λb w=>aM b true (λb=>bT .leq 3 H (ci 6) (λc=>b [H,c]) w) (λk=>k [uu,uu] w) λa=>pick b (gd a 1) cF K) w):Gives Q 20 #[H] w K:=au func20 kr (mpK h)
def HH(h:alc Q 42 (λa=>bT .eql 25 Z (.pointer none) λy w=>aM y false (λz=>call Q 20 #[H] (λa=>un Q .not a λl=>z [H,a,l]) w) (λk=>k [uu,uu,uu] w) λx=>pick y cT (gd x 2) λb w=>aM b false (λj=>bT .sub 3 H (ci 1) (λc=>aU Z λd=>ao Q 72 d 1 λe=>aW Q 70 e c λf=>call Q 21 #[f] λg=>un Q .not g λm=>j [Z,H,c,d,e,f,g,m]) w) (λk=>k [uu,uu,uu,uu,uu,uu,uu,uu] w) λi=>pick b cT (gd i 7) λn w=>cond n (bld Q 42 #[] (λo=>sto Q 42 a o λ_=>aY Q [(some 42,a),(none,cF)] K) w) (bT .sub 3 H (ci 1) (λp=>aU Z λq=>ao Q 72 q 1 λr=>aW Q 70 r p λs=>ao Q 69 s 1 λt=>ld Q 67 t λu=>call Q 22 #[u] λv=>sto Q 42 a v λ_=>aY Q [(some 42,a),(none,cT)] K) w)) w):Gives Q 8 #[Z,H] w K:=au func8 kr (mpK h)
def Ks(h:bT .eql 25 H (.pointer none) (λa w=>cond a (K (ci 0) w) (aU H (λa=>ao Q 72 a 2 λb=>ld Q 64 b λc=>call Q 28 #[c] K) w)) w):Gives Q 16 #[H] w K:=au func16 kr (mpK h)
def Ut(h:alc Q 56 (λa=>bld Q 56 #[(1,H)] λb=>sto Q 56 a b λ_=>aY Q [(some 56,a)] K) w):Gives Q 23 #[H] w K:=au func23 kr (mpK h)
def vH(h:box Q 49 Z (λc=>alc Q 56 λd=>bT .eql 25 H (.pointer none) λE w=>cond E (call Q 23 #[ci 2] (λF=>sto Q 56 d F λ_=>aY Q [(some 56,d)] K) w) (ao Q 49 c 0 (λG=>ld Q 5 G λm=>bT .eql 5 m (cb 0) λa w=>aM a false (λj=>ao Q 49 c 0 (λa=>ld Q 5 a λb=>conv Q 5 3 b λc=>bT .geq 3 c (ci 13) λn=>j [a,b,c,n]) w) (λk=>k [uu,uu,uu,uu] w) λf=>pick a cT (gd f 3) λo w=>cond o (call Q 23 #[ci 1] (λp=>sto Q 56 d p λ_=>aY Q [(some 56,d)] K) w) (ao Q 49 c 0 (λq=>ld Q 5 q λr=>aW Q 88 (pA 0 0) r λs=>ld Q 87 s λt=>alc Q 87 λi=>sto Q 87 i t λ_=>ao Q 87 i 1 λu=>ld Q 4 u λv=>un Q .not v λb w=>aM b true (λl=>ao Q 49 c 1 (λc=>ld Q 3 c λd=>call Q 20 #[d] λe=>un Q .not e λx=>l [c,d,e,x]) w) (λk=>k [uu,uu,uu,uu] w) λg=>pick b (gd g 3) cF λy w=>cond y (call Q 23 #[ci 10] (λz=>sto Q 56 d z λ_=>aY Q [(some 56,d)] K) w) (ao Q 87 i 0 (λA=>ld Q 85 A λB=>ld Q 49 c λC=>bA Q B #[H,C] λD=>sto Q 56 d D λ_=>aY Q [(some 56,d)] K) w)) w)) w)) w):Gives Q 10 #[H,Z] w K:=au func10 kr (mpK h)
def Kw(h:box Q 49 Z (λa w=>sF 49 a 1 (λb=>sL 3 b λc=>sti (bT .sub 3 c (ci 1)) λd=>sN H λe=>sF 72 e 1 λa=>sI 70 a d K) w.drew) w):Gives Q 183 #[H,Z] w K:=au func183 kr (mpK h)
def Kt(h:box Q 49 Z (λa=>alc Q 56 λh=>ld Q 49 a λr=>call Q 183 #[H,r] λg=>call Q 21 #[g] λl=>un Q .not l λb w=>cond b (call Q 23 #[ci 8] (λa=>sto Q 56 h a λ_=>aY Q [(some 56,h)] K) w) (aF (λS w=>hN S g λm=>hF S 69 m 1 λn=>hL S 67 n λi=>hF S 49 a 2 λo=>hL S 46 o λj=>hN S H λp=>hF S 72 p 3 λq=>hL S 36 q λk=>(call Q 184 #[i,j,k] (λb=>aF λS w=>hld S (ext Q b 0) λc=>hld S (ext Q b 1) λd=>alc Q 54 (λa=>aX S λS=>sto Q 54 a c λ_=>aX S λ_=>ld Q 54 a λe=>bld Q 56 #[(0,e),(1,d)] λf=>sto Q 56 h f λ_=>aY Q [(some 56,h)] K) w) w)/\(alc Q 54 (λa=>aX S λ_=>call Q 184 #[i,j,k] λb=>aF λS w=>hld S (ext Q b 0) λc=>hld S (ext Q b 1) λd=>sto Q 54 a c (λ_=>aX S λ_=>ld Q 54 a λe=>bld Q 56 #[(0,e),(1,d)] λf=>sto Q 56 h f λ_=>aY Q [(some 56,h)] K) w) w)) w.drew)) w):Gives Q 171 #[H,Z] w K:=au func171 kr (mpK h)
def Ak(c0 t4 a b c:oF)(zf:oD):=c0::zT zf 1 3 (t4::zT zf 5 18 (a::b::c::zT zf 26 11 ([])))
def Al(t4:oF)(zf:oD):=zT zf 0 4 (t4::zT zf 5 32 ([]))
def gQ(K:KV):KE:=kZ f172 [1,1,1,1] K
def pF(K:KV):KE:=ai Q (cd f172 (b1 122)) (gQ K) (xx xf (gQ K) 0) (rk f172 K)
def Jq(h:box Q 49 Y (λh=>alc Q 56 λZ=>ld Q 49 h λj=>call Q 183 #[H,j] λa=>call Q 21 #[a] λb=>un Q .not b λk w=>cond k (call Q 23 #[ci 8] (λa=>sto Q 56 Z a λ_=>aY Q [(some 56,Z)] K) w) (aF (λS w=>hN S a λc=>hF S 69 c 1 λd=>hL S 67 d λe=>hN S H λf=>hF S 72 f 3 λg=>hL S 36 g λi=>call Q 185 #[e,i] (λU=>aF λS w=>hld S (blt Q .len #[97] 3 #[false] #[U]) λJ=>pF K (Ak H Z U J (ci 0) (zV (zV (zV (zV (zV zu 1 [Y]) 3 [h]) 5 [a]) 8 [H,j,a,a,b,k]) 15 [a,c,d,e,H,f,g,i])) w) w) w.drew)) w):Gives Q 172 #[H,Y] w K:=au func172 kr (mpK h)
def Gs(Inv:oF->oG->Prop)(μ:oF->oG->Nat)(n:Inv Y w)(o:∀(a:oF) (l:oD) (w:oG) (m:Nat),Inv a w->m=μ a w ->
  lS a Z (λb w=>cond b (aW Q 97 H a (λd=>ld Q 282 d λe=>alc Q 282 λk=>sto Q 282 k e λ_ w=>aF (λS w=>hN S U λf=>hF S 72 f 2 λg=>hL S 64 g λi=>hL S 282 k λj=>call Q 186 #[i,j] (λ_=>nC a λc w=>(Inv c w)/\((μ c w)<m)) w) w.drew) w) (gQ K (Al J (zV (zV l 0 [U]) 23 [H,Z,a,b])) w)) w):pF K (Ak U J H Z Y zf) w:=by refine lV (cd f172 (b1 244)) [(7,1),(25,11)] 25 zf n o ?_;intro p q;exact mpF
def Gt(h:call Q 23 #[ci 0] (λa=>sto Q 56 H a λ_=>aY Q [(some 56,H)] K) w):gQ K (Al H zf) w:=mpK h
attribute [irreducible] gQ pF
def Jr(h:box Q 49 Z (λa=>alc Q 56 λc w=>sF 49 a 5 (λF=>sL 3 F λG=>sti (bT .lss 3 G (ci 0)) λC w=>aM C false (λE=>sF 49 a 5 (λD=>sL 3 D λa=>sti (bT .gtr 3 a (ci 1099511627776)) λm=>E [D,a,m]) w) (λk=>k [uu,uu,uu] w) λB=>sti (pick C cT (gd B 2)) λb w=>aM b false (λl=>sN H (λb=>sF 72 b 3 λc=>sL 36 c λd=>sF 49 a 5 λe=>sL 3 e λf=>sti (conv Q 3 36 f) λg=>sti (bF .add 36 d g) λi=>sti (bT .gtr 36 i (cu 1099511627776)) λn=>l [H,b,c,d,e,f,g,i,n]) w) (λk=>k [uu,uu,uu,uu,uu,uu,uu,uu,uu] w) λj=>sti (pick b cT (gd j 8)) λo w=>cond o (call Q 23 #[ci 1] (λp=>sto Q 56 c p λ_=>aY Q [(some 56,c)] K) w) (sN H (λq=>sF 72 q 3 λr=>sL 36 r λs=>sF 49 a 5 λt=>sL 3 t λu=>sti (conv Q 3 36 u) λv=>sti (bF .add 36 s v) λx=>sN H λy=>sF 72 y 3 λz=>sto Q 36 z x λ_=>call Q 23 #[ci 0] λA=>sto Q 56 c A λ_=>aY Q [(some 56,c)] K) w.drew)) w.drew) w):Gives Q 173 #[H,Z] w K:=au func173 kr (mpK h)
def nk(c0 t4 a b:oF)(zf:oD):=c0::zT zf 1 3 (t4::a::zf 6::b::zT zf 8 35 ([]))
def fK(K:KV):KE:=ai Q (cd f174 [1,1,1,1]) (rk f174 K) xf (rk f174 K)
def FA(h:box Q 49 Y (λh=>alc Q 56 λU w=>aF (λS w=>hN S H λl=>hF S 72 l 2 λm=>hL S 64 m λk=>hF S 49 h 3 λn=>hL S 3 n λo=>(call Q 187 #[k,o] (λp=>aF λS w=>hld S (ext Q p 0) λb=>hld S (ext Q p 1) λa=>alc Q 282 (λZ=>aX S λS=>sto Q 282 Z b λ_=>aX S λ_=>un Q .not a λc w=>cond c (call Q 23 #[ci 4] (λn=>sto Q 56 U n λ_=>aY Q [(some 56,U)] K) w) (sF 282 Z 2 (λd=>sL 3 d λe=>sti (bT .sub 3 e (ci 1)) λf=>sN H λg=>sF 72 g 1 λi=>sI 70 i f λj=>fK K (nk H U Z j (zV (zV (zV (zV (zV zu 1 [Y]) 3 [h]) 6 [a]) 8 [p,H,l,m,k,n,o,p,b,a,a,c]) 21 [H,d,e,f,g,i,j]))) w.drew)) w) w)/\(alc Q 282 (λZ=>aX S λ_=>call Q 187 #[k,o] λp=>aF λS w=>hld S (ext Q p 0) λb=>hld S (ext Q p 1) λa=>sto Q 282 Z b (λ_=>aX S λ_=>un Q .not a λc w=>cond c (call Q 23 #[ci 4] (λn=>sto Q 56 U n λ_=>aY Q [(some 56,U)] K) w) (sF 282 Z 2 (λd=>sL 3 d λe=>sti (bT .sub 3 e (ci 1)) λf=>sN H λg=>sF 72 g 1 λi=>sI 70 i f λj=>fK K (nk H U Z j (zV (zV (zV (zV (zV zu 1 [Y]) 3 [h]) 6 [a]) 8 [p,H,l,m,k,n,o,p,b,a,a,c]) 21 [H,d,e,f,g,i,j]))) w.drew)) w) w)) w.drew) w):Gives Q 174 #[H,Y] w K:=by refine au func174 kr <|rpT [1,1,1,1] (cd f174 [1,1,1,1]) (cd f174 []) ?_;revert h;delta fK;generalize (cd f174 [1,1,1,1])=xc0;exact mpF
def DT(h:call Q 21 #[Z] (λa=>un Q .not a λb w=>cond b (call Q 23 #[ci 8] (λc=>sto Q 56 H c λ_=>aY Q [(some 56,H)] K) w) (aF (λS w=>hN S Z λd=>hF S 69 d 1 λe=>hL S 67 e λf=>hL S 282 U λg=>hN S Y λi=>hF S 72 i 3 λj=>hL S 36 j λk=>call Q 188 #[f,g,k] (λl=>aF λ_=>call Q 23 #[l] λm=>aF λ_=>sto Q 56 H m λ_=>aY Q [(some 56,H)] K) w) w.drew)) w):fK K (nk Y H U Z zf) w:=mpK h
attribute [irreducible] fK
def Jk(h:box Q 49 Z (λa=>alc Q 56 λh w=>aF (λS w=>hN S H λd=>hF S 72 d 2 λe=>hL S 64 e λf=>hF S 49 a 3 λg=>hL S 3 g λa=>call Q 189 #[f,a] (λb=>aF λS w=>hld S (un Q .not b) λc=>cond c (call Q 23 #[ci 4] (λa=>sto Q 56 h a λ_=>aY Q [(some 56,h)] K) w) (call Q 23 #[ci 0] (λa=>sto Q 56 h a λ_=>aY Q [(some 56,h)] K) w)) w) w.drew) w):Gives Q 175 #[H,Z] w K:=au func175 kr (mpK h)
def HL(h:box Q 49 Z (λa=>alc Q 56 λh w=>aF (λS w=>hN S H λd=>hF S 72 d 2 λe=>hL S 64 e λf=>hF S 49 a 3 λg=>hL S 3 g λa=>call Q 190 #[f,a] (λb=>aF λ_=>call Q 23 #[b] λc=>aF λ_=>sto Q 56 h c λ_=>aY Q [(some 56,h)] K) w) w.drew) w):Gives Q 176 #[H,Z] w K:=au func176 kr (mpK h)
def Ku(h:box Q 49 Z (λb=>alc Q 56 λh w=>aF (λS w=>hN S H λd=>hF S 72 d 2 λe=>hL S 64 e λf=>hF S 49 b 1 λg=>hL S 3 g λa=>hF S 49 b 4 λb=>hL S 3 b λc=>call Q 191 #[f,a,c] (λa=>aF λ_=>call Q 23 #[a] λa=>aF λ_=>sto Q 56 h a λ_=>aY Q [(some 56,h)] K) w) w.drew) w):Gives Q 177 #[H,Z] w K:=au func177 kr (mpK h)
def Jm(h:box Q 49 Z (λ_=>alc Q 56 λe=>aU H λb=>ao Q 72 b 2 λc=>ld Q 64 c λd=>call Q 161 #[d] λ_=>call Q 23 #[ci 0] λa=>sto Q 56 e a λ_=>aY Q [(some 56,e)] K) w):Gives Q 178 #[H,Z] w K:=au func178 kr (mpK h)
def Jl(h:box Q 49 Z (λa=>alc Q 56 λh w=>aF (λS w=>hL S 49 a λd=>hF S 49 a 5 λb=>hL S 3 b λc=>call Q 183 #[H,d] (λe=>aX S λS w=>hN S e λf=>hF S 69 f 0 λg=>hL S 66 g λa=>call Q 192 #[a,c] (λ_=>call Q 23 #[ci 0] λa=>sto Q 56 h a λ_=>aY Q [(some 56,h)] K) w) w) w.drew) w):Gives Q 179 #[H,Z] w K:=au func179 kr (mpK h)
def Kv(h:box Q 49 Z (λa=>alc Q 56 λg=>ld Q 49 a λc=>call Q 183 #[H,c] λd=>aU d λe=>ao Q 69 e 0 λf=>ld Q 66 f λa=>call Q 78 #[a] λ_=>call Q 23 #[ci 0] λb=>sto Q 56 g b λ_=>aY Q [(some 56,g)] K) w):Gives Q 180 #[H,Z] w K:=au func180 kr (mpK h)
def Cd(t4 c a b:oF)(zf:oD):=zT zf 0 4 (t4::c::zf 6::a::b::zT zf 9 36 ([]))
def Ce(t4 d b c a:oF)(zf:oD):=zT zf 0 4 (t4::d::zf 6::b::c::zT zf 9 29 (a::zT zf 39 6 ([])))
def vJ(t4 a:oF)(zf:oD):=zT zf 0 4 (t4::zT zf 5 3 (a::zT zf 9 36 ([])))
def nM(K:KV):KE:=ai Q (cd f181 [1,1,1,1]) (rk f181 K) xf (rk f181 K)
def iY(K:KV):KE:=kZ f181 (b1 63) K
def nN(K:KV):KE:=ai Q (cd f181 (b1 125)) (iY K) xf (rk f181 K)
def Lm(h:box Q 49 U (λh=>alc Q 56 λZ=>ld Q 49 h λd=>call Q 183 #[H,d] λa w=>aF (λS w=>hN S a λs=>hF S 69 s 0 λt=>hL S 66 t λu=>hF S 49 h 6 λe=>hL S 47 e λf=>call Q 193 #[u,f] (λb=>aF λ_=>bT .neq 26 b (ci 0) λg w=>cond g (call Q 23 #[b] (λs=>sto Q 56 Z s λ_=>aY Q [(some 56,Z)] K) w) (aF (λS w=>hN S H λi=>hF S 72 i 0 λj=>hL S 3 j λk=>hF S 49 h 1 λl=>hL S 3 l λm=>hN S a λn=>hF S 69 n 0 λo=>hL S 66 o λp=>call Q 19 #[k,m,p] (λc=>aF λS w=>hld S (ext Q c 0) λq=>hld S (ext Q c 1) λr=>nM K (Cd Z a q r (zV (zV (zV (zV (zV zu 0 [H,U]) 3 [h]) 6 [b]) 9 [H,d,a,a,s,t,u,e,f,b,b,g]) 23 [c,H,i,j,k,l,m,a,n,o,p,c,q,r])) w) w) w.drew)) w) w.drew) w):Gives Q 181 #[H,U] w K:=by refine au func181 kr <|rpT [1,1,1,1] (cd f181 [1,1,1,1]) (cd f181 []) ?_;revert h;delta nM;generalize (cd f181 [1,1,1,1])=xc0;exact mpF
def Jn(h:bT .eql 26 H (ci 0) (λU=>nN K (Ce Y J Z H U (zV zf 37 [H]))) w):nM K (Cd Y J Z H zf) w:=by delta nM;refine rpT [0,1] (cd f181 (b1 125)) (cd f181 [1,1,1,1]) ?_;revert h;delta nN iY;generalize (cd f181 (b1 125))=xc0;exact mpF
def Jo(h:cond U (aU Z (λa=>ao Q 69 a 1 λb=>sto Q 67 b H λ_=>iY K (vJ J Y (zV (zV (zV zf 5 [Z]) 7 [H]) 38 [U,Z,H,a,b]))) w) (iY K (vJ J Y (zV (zV (zV zf 5 [Z]) 7 [H]) 38 [U])) w)):nN K (Ce J Z H Y U zf) w:=by delta nN;revert h;exact mpF
def Jp(h:call Q 23 #[Z] (λa=>sto Q 56 H a λ_=>aY Q [(some 56,H)] K) w):iY K (vJ H Z zf) w:=mpK h
attribute [irreducible] nM iY nN
def yG(c0 t4 c b a:oF)(zf:oD):=c0::zT zf 1 3 (t4::c::b::a::zT zf 8 53 ([]))
def yH(c0 t4 d a b c:oF)(zf:oD):=c0::zT zf 1 3 (t4::d::zT zf 6 30 (a::b::c::zT zf 39 22 ([])))
def yI(t4:oF)(zf:oD):=zT zf 0 4 (t4::zT zf 5 56 ([]))
def kK(K:KV):KE:=ai Q (cd f182 [1,1,1,1]) (rk f182 K) xf (rk f182 K)
def gw(K:KV):KE:=kZ f182 (b1 127) K
def og(K:KV):KE:=ai Q (cd f182 (b1 506)) (gw K) (xx xf (gw K) 0) (rk f182 K)
def HJ(h:box Q 49 U (λh=>alc Q 56 λZ=>ld Q 49 h λo=>call Q 183 #[H,o] λp=>call Q 21 #[p] λb=>un Q .not b λc w=>cond c (call Q 23 #[ci 8] (λo=>sto Q 56 Z o λ_=>aY Q [(some 56,Z)] K) w) (aF (λS w=>hN S p λd=>hF S 69 d 1 λe=>hL S 67 e λf=>hF S 49 h 1 λi=>hL S 3 i λj=>hF S 49 h 4 λk=>hL S 3 k λl=>call Q 22 #[f] (λg=>aX S λ_=>call Q 194 #[g,j,l] λa=>aF λS w=>hld S (ext Q a 0) λm=>hld S (ext Q a 1) λn=>kK K (yG H Z p m n (zV (zV (zV (zV zu 1 [U]) 3 [h]) 12 [H,o,p,p,b,c]) 19 [a,p,d,e,f,g,i,j,k,l,a,m,n])) w) w) w.drew)) w):Gives Q 182 #[H,U] w K:=by refine au func182 kr <|rpT [1,1,1,1] (cd f182 [1,1,1,1]) (cd f182 []) ?_;revert h;delta kK;generalize (cd f182 [1,1,1,1])=xc0;exact mpF
def xj(h:bT .neq 26 H (ci 0) (λa w=>cond a (call Q 23 #[H] (λb=>sto Q 56 U b λ_=>aY Q [(some 56,U)] K) w) (lN 31 Z (λJ=>og K (yH C U Y Z J (ci 0) (zV (zV zf 6 [Z,H]) 32 [H,a]))) w)) w):kK K (yG C U Y Z H zf) w:=mpK h
def FC(Inv:oF->oG->Prop)(μ:oF->oG->Nat)(x:Inv C w)(y:∀(a:oF) (v:oD) (w:oG) (m:Nat),Inv a w->m=μ a w ->
  lS a Y (λj w=>cond j (aW Q 31 U a (λo=>ld Q 46 o λp=>alc Q 46 λu=>sto Q 46 u p λ_ w=>aF (λS w=>hN S Z λq=>hF S 69 q 1 λr=>hL S 67 r λk=>hL S 46 u λl=>hN S J λs=>hF S 72 s 3 λt=>hL S 36 t λn=>(call Q 184 #[k,l,n] (λb=>aF λS w=>hld S (ext Q b 0) λf=>hld S (ext Q b 1) λc=>alc Q 54 (λe=>aX S λS=>sto Q 54 e f λ_=>aX S λ_=>bT .neq 26 c (ci 0) λg w=>cond g (call Q 23 #[c] (λi=>sto Q 56 H i λ_=>aY Q [(some 56,H)] K) w) (nC a (λd w=>(Inv d w)/\((μ d w)<m)) w)) w) w)/\(alc Q 54 (λe=>aX S λ_=>call Q 184 #[k,l,n] λb=>aF λS w=>hld S (ext Q b 0) λf=>hld S (ext Q b 1) λc=>sto Q 54 e f (λ_=>aX S λ_=>bT .neq 26 c (ci 0) λg w=>cond g (call Q 23 #[c] (λi=>sto Q 56 H i λ_=>aY Q [(some 56,H)] K) w) (nC a (λd w=>(Inv d w)/\((μ d w)<m)) w)) w) w)) w.drew) w) (gw K (yI H (zV (zV (zV v 0 [J]) 5 [Z]) 36 [U,Y,a,j])) w)) w):og K (yH J H Z U Y C zf) w:=by refine lV (cd f182 (b1 1012)) [(9,3),(38,22)] 38 zf x y ?_;intro z A;exact mpF
def FD(h:call Q 23 #[ci 0] (λa=>sto Q 56 H a λ_=>aY Q [(some 56,H)] K) w):gw K (yI H zf) w:=mpK h
attribute [irreducible] kK gw og
def zjp{F:List EV}{l:PL}(h:okL eff OK l F):∀e∈F,e.q<6:=λe a=>by
 have:=fZ (WM h e a)
 unfold EV.q;omega
def zdD:∀{F:List EV} {l:PL},PI l->okL eff OK l F->∀e∈F,l.V.getD e.q 0<e.s
 | [],_,_,_,_,a=>by cases a
 | x::F,l,hp,hok,e,a=>by
  rcases oO.1 a with rfl|a
  .have b:=hok.1.rdy;unfold fS at b;simp only[oM,oP]at b
   have:e.s=l.V.getD e.q 0+1:=b.2.1
   omega
  .have d:=zdD (F:=F) (hp.eff hok.1) hok.2 e a;have c:=XJ (i:=e.q) (F:=[x]) hp ⟨hok.1,trivial⟩;have c:l.V.getD e.q 0<=(eff x l).V.getD e.q 0:=c;omega
def zbt:∀{F:List EV} {l:PL},PI l->okL eff OK l F->F.Pairwise λa b=>a.q=b.q->a.s<b.s
 | [],_,_,_=>.nil
 | x::F,l,hp,hok=>by
  refine List.pairwise_cons.2 ⟨λe f g=>?_,zbt (hp.eff hok.1) hok.2⟩;have h:=zdD (F:=F) (hp.eff hok.1) hok.2 e f;have c:=hok.1.rdy;unfold fS at c;simp only[oM,oP]at c;have i:x.s=l.V.getD x.q 0+1:=c.2.1;have d:=congrFun (EL hp hok.1) e.q;unfold kV upD at d;rw[oJ g.symm]at d;omega
def ze4:∀{F:List EV} {l:PL},(dU eff l F).G.length<=l.G.length+F.length
 | [],_=>Nat.le_refl _
 | e::F,l=>by
  have a:(dU eff (eff e l) F).G.length<=(eff e l).G.length+F.length:=ze4;have b:(eff e l).G.length<=l.G.length+1:=by
   show ((gop e).ap l.G).length<=_;unfold gop;split
   .show (ky _ l.G).length<=_;rw[ZC];exact Nat.le_refl _
   .split
    .show (l.G.map _).length<=_;rw[oY];omega
    .exact Nat.le_succ _
  show (dU eff (eff e l) F).G.length<=_;rw[oZ];omega
section
variable {n:Nat}{T:TT}{s:RS}{W:HM}
def SiP.G(h:SiP n i T s W):s.l.G.length<=s.A.length:=by
 have:=ze4 (F:=s.A) (l:=pl0 n)
 rw[<-h.d.st]at this;have e:(pl0 n).G.length=0:=rfl;omega
def SiP.inc(h:SiP n i T s W):s.A.Pairwise λa b=>a.q=b.q->a.s<b.s:=zbt (Dd n) h.d.ok
def SiP.q6(h:SiP n i T s W):∀e∈s.A,e.q<6:=zjp h.d.ok
end
def Kf(s3 b a c:oF)(zf:oD):=zT zf 0 3 (s3::b::a::zT zf 6 3 (c::zT zf 10 36 ([])))
def Kg(e a b c d:oF)(zf:oD):=zT zf 0 9 (e::a::zT zf 11 21 (b::c::d::zT zf 35 11 ([])))
def Kh(a:oF)(zf:oD):=zT zf 0 9 (a::zT zf 10 36 ([]))
def uS(K:KV):KE:=ai Q (cd f194 [1,1,1,1]) (rk f194 K) xf (rk f194 K)
def ox(K:KV):KE:=kZ f194 (b1 127) K
def yf(K:KV):KE:=ai Q (cd f194 (b1 506)) (ox K) (xx xf (ox K) 0) (rk f194 K)
def Vd(h:box Q 42 U (λC=>box Q 3 Y λZ=>box Q 3 J λH=>ld Q 42 C λg=>call Q 209 #[g] λh=>ld Q 3 Z λe=>call Q 210 #[h,e] λf=>un Q .not f λc w=>aM c false (λn=>ld Q 3 H (λg=>call Q 210 #[h,g] λi=>un Q .not i λp=>n [h,g,i,p]) w) (λk=>k [uu,uu,uu,uu] w) λa=>pick c cT (gd a 3) λd w=>aM d false (λo=>ld Q 3 Z (λj=>ld Q 3 H λl=>bF .eql 3 j l λq=>o [j,l,q]) w) (λk=>k [uu,uu,uu] w) λb=>pick d cT (gd b 2) λm w=>cond m (K (.tuple #[cN,ci 10]) w) (alc Q 31 (λi=>uS K (Kf C Z H i (zV (zV (zV zu 0 [U,Y,J]) 6 [cN,ci 0,h]) 13 [g,h,h,e,f,c,c,gd a 0,gd a 1,gd a 2,gd a 3,d,d,gd b 0,gd b 1,gd b 2,m]))) w)) w):Gives Q 194 #[U,Y,J] w K:=by refine au func194 kr <|rpT [1,1,1,1] (cd f194 [1,1,1,1]) (cd f194 []) ?_;revert h;delta uS;generalize (cd f194 [1,1,1,1])=xc0;exact mpF
def RH(h:ao Q 42 J 3 (λa=>ld Q 39 a λY=>lN 39 Y λC=>yf K (Kg Z (.func (.func 211) #[] #[U,Z,H]) Y C (ci 0) (zV (zV zf 3 [J,U,H]) 30 [.func (.func 211) #[] #[U,Z,H],a]))) w):uS K (Kf J U H Z zf) w:=mpK h
def RJ(Inv:oF->oG->Prop)(μ:oF->oG->Nat)(j:Inv J w)(k:∀(a:oF) (i:oD) (w:oG) (m:Nat),Inv a w->m=μ a w ->
  lS a U (λc w=>cond c (aW Q 39 Z a (λe=>ld Q 83 e λf=>alc Q 83 λb=>sto Q 83 b f λ_=>ld Q 83 b λg=>bA Q H #[g] λ_=>nC a λd w=>(Inv d w)/\((μ d w)<m)) w) (ox K (Kh Y (zV (zV i 10 [H]) 32 [Z,U,a,c])) w)) w):yf K (Kg Y H Z U J zf) w:=by refine lV (cd f194 (b1 1012)) [(12,1),(34,8)] 34 zf j k ?_;intro l n;exact mpF
def RK(h:ld Q 31 H (λa=>bld Q 46 #[(0,cb 7)] λb=>bM Q 31 1 #[(0,b)] λc=>blt Q .append #[31,31] 31 #[false,false] #[a,c] λd=>K (.tuple #[d,ci 0])) w):ox K (Kh H zf) w:=mpK h
attribute [irreducible] uS ox yf
def RG(h:box Q 83 U (λg=>ao Q 83 g 2 λj=>ld Q 81 j λk=>ld Q 3 Y λl=>call Q 212 #[k,l] λi=>bT .gtr 2 i (ci 0) λa w=>cond a (ld Q 31 H (λb=>ao Q 83 g 0 λa=>ld Q 36 a λa=>ld Q 3 Z λd=>blt Q .min #[2,2] 2 #[false,true] #[i,ci 1125899906842624] λc=>bld Q 46 #[(0,cb 5),(1,a),(2,d),(3,c)] λd=>bM Q 31 1 #[(0,d)] λe=>blt Q .append #[31,31] 31 #[false,false] #[b,e] λf=>sto Q 31 H f λ_=>K (.tuple #[])) w) (K (.tuple #[]) w)) w):Gives Q 211 #[U,Y,H,Z] w K:=au func211 kr (mpK h)
section
attribute [local irreducible] bin un conv call bA blt slc ao fld aW idx lkp fk mW eSt rng nxt ent ext alc box bld bM ld sto aU fl mkS ifc pick rdy wts aM sti cond aY Gives ai iy ke cOp
section
open Go.ChangeMaps
def zeK:fU Q 72 0 0 b o K w:=aJ kr
def DY:fU Q 72 1 1 b o K w:=aJ kr
def BL:fU Q 72 2 13 b o K w:=aJ kr
def BM:fU Q 72 3 14 b o K w:=aJ kr
def Ie:fU Q 69 0 0 b o K w:=aJ kr
def yP:fU Q 69 1 1 b o K w:=aJ kr
def tc:fU Q 49 0 0 b o K w:=aJ kr
def wQ:fU Q 49 1 1 b o K w:=aJ kr
def SM:fU Q 49 2 2 b o K w:=aJ kr
def SN:fU Q 49 3 8 b o K w:=aJ kr
def Zj:fU Q 49 4 9 b o K w:=aJ kr
def If:fU Q 49 5 10 b o K w:=aJ kr
def Zk:fU Q 49 6 11 b o K w:=aJ kr
def anC(e:EV)(x:Int):oE:=evC e++[ci x]
abbrev anV(e:EV)(x:Int):oF:=.agg (anC e x).toArray
theorem zgB{e:EV}:(anC e x).length=15:=rfl
def VQ{e:EV}:∀v∈anC e x,v.oneCell'=true:=λv a=>(oU.1 a).elim (Cf e v) λh=>by rw[mS h];rfl
def yF{n:Nat}{X:Nat->SX}{now:Int}(hi:i<6):(kH n np X now)[1+i*2]? = some (ptr (X i).p)/\(kH n np X now)[1+i*2+1]? = some (pB (X i).u):=by
 match i,hi with
 | 0,_=>exact⟨rfl,rfl⟩
 | 1,_=>exact⟨rfl,rfl⟩
 | 2,_=>exact⟨rfl,rfl⟩
 | 3,_=>exact⟨rfl,rfl⟩
 | 4,_=>exact⟨rfl,rfl⟩
 | 5,_=>exact⟨rfl,rfl⟩
theorem YQ{n:Nat}{X:Nat->SX}{a:Int}:(kH n np X a).length=15:=rfl
def SX.on:SX->Bool
 | .up _ _ _=>true
 | .dn _ _ _ _=>false
def Ny:SX->SX
 | .up Y s _=>.dn Y.p Y.u s.A []
 | x=>x
def fuX(N:Int):SX->SX
 | .up Y s _=>.up Y s (if 0<=N then N else -1)
 | x=>x
section
variable {B0 n t:Nat}{Z:List Nat}{c:CX}{s:STP}{v:oF}
def Rh{p:Nat}(d:s.who=(i:Int)+1)(hi:i<6)(a:nX w (K (pA p (1+i*2)))):call Q 183 #[pB p,.agg (stC s v).toArray] K w:=by
 refine aj (goK func183) (Kw (bu λe b c f=>?_));have b:=cZ b
 refine ah (λ_=>wQ) (ah (v:=iv s.who) (λ_=>lK b.drew rfl) (ah (v:=iv (i:Nat)) (λK a=>by rw[d];exact bL oo oo (by rw[show (i:Int)+1-1=(i:Nat)by omega];exact a)) ?_));refine ah (λ_=>aq) (ah (λ_=>DY) (ah (v:=pA p (1+i*2)) (λK a=>fg underlying70 (s:=2) kf oo oo a) (a _ c.drew)))
def DV(h:K (.bool false) w):bin Q .eql 25 cx cy (pB b) (.pointer none) K w :=
 dZ (by unfold eqG eqGuard;rfl) kr h
def P9{o:Int}(h:K (.bool (bB o)) w):call Q 20 #[iv o] K w:=by
 refine aj (goK func20) (Rl (bR ?_));unfold bB at h;by_cases a:o≥1
 .rw[show decide (1<=o)=true from qF a,qZ]at h;exact bU a (iG (bI a h))
 .rw[show decide (1<=o)=false from qE a,jA]at h;exact cJ a (bw a h)
def CM.ldp(h:CM w B0 n b Z c)(hi:i<6)(a:K (ptr (c.X i).p) w):ld Q 66 (pA c.p (1+i*2)) K w:=lK h.cb (yF hi).1 a
def CM.ldu(h:CM w B0 n b Z c)(hi:i<6)(a:K (pB (c.X i).u) w):ld Q 67 (pA c.p (1+i*2+1)) K w:=lK h.cb (yF hi).2 a
def zan(h:CM w B0 n b Z c)(hi:i<6)(a:K (.bool (c.X i).on) w):call Q 21 #[pA c.p (1+i*2)] K w:=by
 have d:=h.st i hi;refine aj (goK func21) (OX (aq (Ie (h.ldp hi ?_))));have f:∀{K:KV},K (pB (c.X i).u) w->ld Q 67 (pA c.p (1+i*2+1)) K w:=λa=>h.ldu hi a;cases e:c.X i with
 | up Y s fu =>
  rw[e]at d a f;exact YY d.1.jk.1 (kN (aq (yP (f (ziL d.1 (bc (cA a)))))))
 | dn p u A L =>
  rw[e]at d a;obtain⟨z,g⟩:=d.1.dk;exact YY g (kj (bZ a))
def Vq{e:Int}(a:nX w (K (anV evZ e))):call Q 23 #[ci e] K w:=by
 refine aj (goK func23) (Ut (bO (z:=anV evZ 0) kr λh b f i=>ck (vs:=anC evZ e) kr ?_));have b:=cZ b
 refine eW (n:=15) (vs:=anC evZ e) kr rfl b (by rw[zgB];omega) VQ λd c g=>?_;have c:blk d w.heap.size 56 (anC evZ e):=c;exact uT (v:=anV evZ e) (λ_ a=>ldA (n:=15) (vs:=anC evZ e) underlying56 rfl kr c rfl rfl a) (a d (aD f g oA))
def CM.pro{K2:oF->oF->oG->Prop}(h:CM w B0 n b Z c)(l:∀S d t4,CM S B0 n b (t4::d::Z) c->CS w S B0 Z->t4∉Z->t4≠d->blk S d 49 (stC s v)->blk S t4 56 (anC evZ 0)->K2 (pB d) (pB t4) S):box Q 49 (.agg (stC s v).toArray) (λa=>alc Q 56 λb=>K2 a b) w:=by
 refine bu λj a g o=>bO (z:=anV evZ 0) kr λk e i p=>?_;have a:=cZ a
 have e:=cZ e
 have f:=tB g i;refine l k w.heap.size j.heap.size ((h.new g oA a.lt).new i oA e.lt) (h.csb f) (λm=>by have:=(h.own _ m).1;omega) oo (ae i a a.lt) e
def CM.fin'{e:EV}{cs:oE}(h:CM w B0 n b (t::Z) c)(f:blk w t 56 cs)(m:cs.length=15)(j:t∉Z)(a:∀S,CM S B0 n b Z c->CS w S B0 Z->K (anV e x) S):sto Q 56 (pB t) (anV e x) (λ_=>aY Q [(some 56,pB t)] K) w:=by
 refine eW (n:=15) (vs:=anC e x) kr rfl f oo VQ λl g d=>?_;rw[qY,oV,oS oo,oW]at g;have k:=(h.own t oL).2.1
 exact uT (v:=anV e x) (λ_ a=>ldA (n:=15) (vs:=anC e x) underlying56 rfl kr g rfl rfl a) (a l ((h.oth d oL f dc).sub λ_ h=>oH _ h) ⟨(aD (jU _ w) d k),λx i=>d.other x λe=>j (e ▸ i)⟩)
def CM.fin{e:Int}{cs:oE}(h:CM w B0 n b (t::o::Z) c)(g:blk w t 56 cs)(k:cs.length=15)(m:t∉Z)(f:t≠o)(j:∀S,CM S B0 n b Z c->CS w S B0 Z->K (anV evZ e) S):call Q 23 #[ci e] (λa=>sto Q 56 (pB t) a λ_=>aY Q [(some 56,pB t)] K) w:=by refine Vq λr d=>?_;refine(h.below d).fin' (ae d g g.lt) k (λl=>(oO.1 l).elim f m) λq i p=>?_;exact j q (i.sub λ_ h=>oH _ h) (((h.csb d).sub λ_ h=>oH _ (oH _ h)).trans (p.sub λ_ h=>oH _ h))
def KQ(c:blk w b 49 (stC s v))(a:K (.agg (stC s v).toArray) w):ld Q 49 (pB b) K w:=ldA (n:=12) (vs:=stC s v) underlying49 rfl kr c rfl rfl a
def ziB(h:CM w B0 n b Z c)(hw:s.who=(i:Int)+1)(hi:i<6)(V:∀w',CM w' B0 n b Z {c with X:=gi c.X i (Ny (c.X i))}->CS w w' B0 Z->K (anV evZ 0) w'):call Q 180 #[pB c.p,.agg (stC s v).toArray] K w:=by
 refine aj (goK func180) (Kv (h.pro λw1 t3 I E s1 n4 ne z3 M=>KQ z3 (Rh hw hi λJ t=>aq (Ie ?_))));have m:=E.below t;have D:=ae t M M.lt;have g:=m.st i hi;have o:=m.sz i hi;have C:CS w J B0 Z:=s1.trans ((E.csb t).sub λ_ h=>oH _ (oH _ h))
 have l:∀{w3:oG},SxM w3 n i c.T (Ny (c.X i))->Oth (c.X i).p J w3->(Ny (c.X i)).F⊆(c.X i).F->(Ny (c.X i)).B⊆(c.X i).B->(c.X i).p∈(c.X i).F->(Ny (c.X i)).p=(c.X i).p->(Ny (c.X i)).u=(c.X i).u->(Ny (c.X i)).n<=b ->
   call Q 23 #[ci 0] (λa=>sto Q 56 (pB I) a λ_=>aY Q [(some 56,pB I)] K) w3:=λ{w3} y j U S hp N O hn=>by
  obtain⟨P,H⟩:=m.site hi y (LeT.refl) (λ_ _ _=>rfl) (Ch.of_oth j hp) (λk f=>.inl (U f)) (λk f=>.inl (S f)) N O oA hn;exact P.fin (H.blk oL D) rfl n4 ne λw4 R s4=>V w4 R ((C.trans (H.sub λ_ h=>oH _ (oH _ h))).trans s4)
 refine m.ldp hi ?_;cases G:c.X i with
 | up Y s' fu =>
  rw[G]at g l o;refine zcj g.1.jk.1 λw3 x j=>l ⟨g.1.dn x j,g.2.off⟩ j ?_ ?_ (ru.2 (.inr mp1)) rfl rfl o
  .intro k f;simp only[Ny,SX.F,oO,oR,or_false]at f;rcases f with rfl|rfl
   .exact ru.2 (.inr mp1)
   .exact ru.2 (.inr mp3)
  .intro k f;simp only[Ny,SX.B,oO,oR,or_false]at f;rcases f with rfl|rfl
   .exact pQ.2 (.inr mp1)
   .exact pQ.2 (.inr mp3)
 | dn p u A L =>
  rw[G]at g l o;obtain⟨z,f⟩:=g.1.dk;refine zcj f λw3 x j=>l ⟨⟨⟨-1,x⟩,?_⟩,g.2⟩ j (λ_ h=>h) (λ_ h=>h) oL rfl rfl o;obtain⟨r,q,d,W⟩:=g.1.b;exact⟨r,q,d,j.blk W λe=>g.1.ne e.symm⟩
def zgI(h:CM w B0 n b Z c)(hw:s.who=(i:Int)+1)(hi:i<6)(hN:FG s.n)(f:∀w',CM w' B0 n b Z {c with X:=gi c.X i (fuX s.n (c.X i))}->CS w w' B0 Z->K (anV evZ 0) w'):call Q 179 #[pB c.p,.agg (stC s v).toArray] K w:=by
 refine aj (goK func179) (Jl (h.pro λD t3 R N s1 n4 ne I U=>?_));have M:=bDr D;have x:=N.below M;refine aw (λy=>blk y t3 49 (stC s v)/\blk y c.p 72 (kH n c.np c.X c.now)) ⟨I.drew,x.cb⟩ ?_;refine ac (λy d _ f=>KQ d.1 f) (hW If (ac (v:=iv s.n) (λy d _ f=>lK d.1 rfl f) ?_));refine Rh hw hi λS m=>?_;have t:=x.below m;have J:=ae m U.drew U.drew.lt
 have g:=t.st i hi;have C:=t.sz i hi;have H:CS w S B0 Z:=s1.trans ((N.csb (M.trans m)).sub λ_ h=>oH _ (oH _ h));refine aB ⟨ae m I.drew I.drew.lt,t.cb⟩ (hZ (hW Ie (ac (v:=ptr (c.X i).p) (λy d _ f=>lK d.2 (yF hi).1 f) ?_)))
 have o:∀{w3:oG},SxM w3 n i c.T (fuX s.n (c.X i))->Oth (c.X i).p S w3->(fuX s.n (c.X i)).F=(c.X i).F->(fuX s.n (c.X i)).B=(c.X i).B->(c.X i).p∈(c.X i).F->(fuX s.n (c.X i)).p=(c.X i).p->(fuX s.n (c.X i)).u=(c.X i).u->(fuX s.n (c.X i)).n<=b ->
   call Q 23 #[ci 0] (λa=>sto Q 56 (pB R) a λ_=>aY Q [(some 56,pB R)] K) w3:=λ{w3} G j hF hB hp V W hn=>by
  obtain⟨h3,P⟩:=t.site hi G (LeT.refl) (λ_ _ _=>rfl) (Ch.of_oth j hp) (λk l=>.inl (hF ▸ l)) (λk l=>.inl (hB ▸ l)) V W oA hn;exact h3.fin (P.blk oL J) rfl n4 ne λw4 h4 s4=>f w4 h4 ((H.trans (P.sub λ_ h=>oH _ (oH _ h))).trans s4)
 cases O:c.X i with
 | up Y s' fu =>
  rw[O]at g o C;refine zde g.1.jk.1 hN λw3 E j=>o (w3:=w3) ⟨(g.1.jrn (Ch.of_oth j oL) ⟨E,?_⟩).1,g.2⟩ j rfl rfl (ru.2 (.inr mp1)) rfl rfl C;obtain⟨ds,x⟩:=g.1.jk.1.blk;exact j.blk g.1.jk.2 λe=>g.1.jk.2.ne x dc e
 | dn p u A L =>
  rw[O]at g o C;obtain⟨z,l⟩:=g.1.dk;refine zde l hN λw3 E j=>o (w3:=w3) ⟨⟨⟨_,E⟩,?_⟩,g.2⟩ j rfl rfl oL rfl rfl C;obtain⟨r,q,d,hb⟩:=g.1.b;exact⟨r,q,d,j.blk hb λe=>g.1.ne e.symm⟩
end
structure SP(c c':CX):Prop where
 p:c'.p=c.p
 m:∀e∈c.T.E,e∈c'.T.E
 r:∃X,c'.T.P=c.T.P++X/\∀e∈X,(e.k=5\/e.k=7)/\co e=true
def SP.of{c c':CX}(h:c'.p=c.p)(m:∀e∈c.T.E,e∈c'.T.E)(t:c'.T.P=c.T.P):SP c c':=⟨h,m,[],by rw[t,oW],by simp⟩
def SP.refl{c:CX}:SP c c:=.of rfl (λ_ h=>h) rfl
def SP.trans{a b c:CX}(h:SP a b)(k:SP b c):SP a c:=by obtain⟨X,e,g⟩:=h.r;obtain⟨Y,f,i⟩:=k.r;exact⟨k.p.trans h.p,λe d=>k.m e (h.m e d),X++Y,by rw[f,e,jE],λe d=>(oU.1 d).elim (g e) (i e)⟩
section
variable {B0 n:Nat}{Z:List Nat}{c:CX}{T':TT}{Y Y':DuX}{s s':RS}{fu fu':Int}{A L:List EV}{p u:Nat}
def CM.up(h:CM w B0 n b Z c)(hi:i<6)(a:c.X i=.up Y s fu)(l:LeT c.T T')(e:∀q,q≠i->T' q=c.T q)(m:DuM S i Y' s' s'.A fu')(r:SiP n i T' s' Y'.X.W)(t:DuS w S Y Y')(j:Y'.p=Y.p/\Y'.u=Y.u)(v:s'.A.length<=s.A.length+d):CM S B0 n (b+d) Z {c with X:=gi c.X i (.up Y' s' fu'),T:=T'}/\CS w S B0 Z:=by have g:=h.sz i hi;rw[a]at g;have g:s.A.length<=b:=g;refine h.site hi (x':=.up Y' s' fu') ⟨m,r⟩ l (λq o _=>e q o) (by rw[a];exact t.ch) (λk f=>by rw[a];exact t.nf k f) (λk f=>by rw[a];exact t.na k f) (by rw[a];exact j.1) (by rw[a];exact j.2) (Nat.le_add_right _ _) (by show s'.A.length<=_;omega)
def CM.down(h:CM w B0 n b Z c)(hi:i<6)(a:c.X i=.up Y s fu)(o:DnM S Y.p Y.u s.A L)(l:LeT c.T T')(g:∀q,T' q=c.T q)(r:SdP n i T' s.A L)(m:Ch (DF Y) w S)(t:L.length<=d):CM S B0 n (b+d) Z {c with X:=gi c.X i (.dn Y.p Y.u s.A L),T:=T'}/\CS w S B0 Z:=by
 have j:=h.sz i hi;rw[a]at j;have j:s.A.length<=b:=j;have f:∀k∈[Y.p,Y.u],k∈[Y.p,Y.q,Y.u]:=λk e=>by simp only[oO,oR,or_false]at e |-; exact e.elim .inl λh=>.inr (.inr h)
 refine h.site hi (x':=.dn Y.p Y.u s.A L) ⟨o,r⟩ l (λq _ _=>g q) (by rw[a];exact m) (λk e=>.inl ?_) (λk e=>.inl ?_) (by rw[a];rfl) (by rw[a];rfl) (Nat.le_add_right _ _) (by show s.A.length+L.length<=_;omega)
 .rw[a];exact ru.2 (.inr (f k e))
 .rw[a];exact pQ.2 (.inr (f k e))
end
inductive AskR (i:Nat) (x:AK) (c:CX):CX->EV->Int->Prop
 | no {Y Y':DuX} {s:RS} {fu e:Int} (hX:c.X i=.up Y s fu) (hn:NoP i s.l x e):AskR i x c {c with X:=gi c.X i (.up Y' s fu)} evZ e
 | yes {Y Y':DuX} {s:RS} {fu fu':Int} (hX:c.X i=.up Y s fu) (h0:gF (mkP i s.l x) s.l=0) (hna:wJ ((i:Int)+1) s.l x) (hf:fu = -1->fu' = -1) (hw:x.r=0->Y'.X.ws=Y.X.ws) :
  AskR i x c {c with X:=gi c.X i (.up Y' ⟨eff (mkP i s.l x) s.l,s.A++[mkP i s.l x],s.P⟩ fu'),T:=zam c.T i (mkP i s.l x)} (mkP i s.l x) 0
 | off {Y:DuX} {s:RS} {fu:Int} (hX:c.X i=.up Y s fu) (h0:gF (mkP i s.l x) s.l=0) (hna:wJ ((i:Int)+1) s.l x) (hf:fu≠-1):AskR i x c {c with X:=gi c.X i (.dn Y.p Y.u s.A [mkP i s.l x]),T:=c.T.ask (mkP i s.l x)} evZ 8
def AskR.sp{B0 n:Nat}{c c':CX}{x:AK}{e:EV}{y:Int}(h:CM w B0 n b X0 c)(hi:i<6)(m:x.k=5\/x.k=7)(o:AskR i x c c' e y):SP c c'/\(y≠8->∃Y s fu,c'.X i=.up Y s fu):=by
 cases o with
 | no hX hn=>exact⟨.of rfl (λ_ h=>h) rfl,λ_=>⟨_,_,_,Rf⟩⟩
 | @yes Y Y' r fu fu' hX h0 hna a hw =>
  have g:=h.st i hi;rw[hX]at g;have j:=((mE g.2.d.pi).1 h0).may;exact⟨⟨rfl,λ_ h=>List.mem_append_left _ h,[mkP i r.l x],rfl,λf a=>by rw[mS a];exact⟨m,j⟩⟩,λ_=>⟨_,_,_,Rf⟩⟩
 | @off Y r fu hX h0 hna a =>
  have g:=h.st i hi;rw[hX]at g;have j:=((mE g.2.d.pi).1 h0).may;exact⟨⟨rfl,λ_ h=>h,[mkP i r.l x],rfl,λf a=>by rw[mS a];exact⟨m,j⟩⟩,λh=>qI rfl h⟩
section
variable {B0 n t:Nat}{Z:List Nat}{c:CX}{s:STP}{v:oF}
def CM.do_{x:AK}{Y:DuX}{r:RS}(h:CM w B0 n b Z c)(hi:i<6)(M:b<=20100)(a:c.X i=.up Y r P0)(I:Cv x)(s:∀S c' e y,AskR i x c c' e y->CM S B0 n (b+1) Z c'->CS w S B0 Z->K (.tuple #[evV e,ci y]) S):call Q 184 #[pB Y.u,.agg (akC x).toArray,u6 c.now] K w:=by
 have l:=h.st i hi;have v:=h.sz i hi;rw[a]at l v;have v:r.A.length<=b:=v;have L:=l.2.G;refine zkI l.1 l.2 hi oo oo I (λS Y' e E o k z m=>?_) (λS Y' N D C p f t o J k z H m=>?_) λS p f t B k c'=>?_
 .obtain⟨g,j⟩:=h.up hi a .refl (λ_ _=>rfl) o k z m (d:=1) oo;exact s S _ _ _ (.no a E) g j
 .subst C;obtain⟨g,j⟩:=h.up hi a J (λq F=>oI F) o k z m (d:=1) oB;exact s S _ _ _ (.yes a p f t H) g j
 .obtain⟨g,j⟩:=h.down hi a B (LeT.P λ_ h=>List.mem_append_left _ h) (λ_=>rfl) k c' (d:=1) oB;exact s S _ _ _ (.off a p f t) g j
abbrev sub2{Z:List Nat}{a b:Nat}:∀t∈Z,t∈a::b::Z:=λ_ h=>oH _ (oH _ h)
def zcV(h:CM w B0 n b Z c)(hb:b<=20000)(hw:s.who=(i:Int)+1)(hi:i<6)(hx:Cv s.ak)(h8:∀w',(c.X i).on=false->CM w' B0 n b Z c->CS w w' B0 Z->K (anV evZ 8) w')(a:∀w' c' e y,AskR i s.ak c c' e y->CM w' B0 n (b+1) Z c'->CS w w' B0 Z->K (anV e y) w'):call Q 171 #[pB c.p,.agg (stC s v).toArray] K w:=by
 refine aj (goK func171) (Kt (h.pro λw1 S x h1 s1 n4 ne V z4=>KQ V (Rh hw hi λJ F=>?_)));have G:=h1.below F;have s2:=s1.trans ((h1.csb F).sub sub2);have E:=ae F z4 z4.lt;have f:=ae F V V.lt;refine zan G hi (bc ?_);cases H:c.X i with
 | dn p u A L=>exact aV (G.fin E rfl n4 ne λU l D=>h8 U (by rw[H];rfl) l (s2.trans D))
 | up Y r fu =>
  refine aA ?_;have W:=bDr J;have o:=G.below W;have sd:=s2.trans ((G.csb W).sub sub2);have j:=E.drew;refine aw (λy=>blk y S 49 (stC s v)/\blk y c.p 72 (kH n c.np c.X c.now)) ⟨f.drew,o.cb⟩ ?_;refine hZ (hW yP (ac (v:=pB Y.u) (λy d _ a=>lK d.2 (by have:=(yF (n:=n) (np:=c.np) (X:=c.X) (now:=c.now) hi).2;rw[H]at this;exact this) a) ?_))
  refine hW SM (ac (v:=.agg (akC s.ak).toArray) (λy d _ a=>ldA (n:=6) (vs:=akC s.ak) underlying46 rfl kr d.1 rfl rfl a) ?_);refine hZ (hW BM (ac (v:=u6 c.now) (λy d _ a=>lK d.2 rfl a) ?_))
  have k:∀{w5:oG} {c':CX} {e:EV} {y:Int} {m:Nat} {cs:oE},AskR i s.ak c c' e y->CM w5 B0 n (b+1) (m::x::S::Z) c'->CS w w5 B0 Z->blk w5 x 56 (anC evZ 0)->blk w5 m 54 (evC evZ)->m≠x->m≠S->m∉Z ->
    sto Q 54 (pB m) (evV e) (λ_=>aX (λ_=>True) λ_=>ld Q 54 (pB m) λR=>bld Q 56 #[(0,R),(1,ci y)] λT=>sto Q 56 (pB x) T λ_=>aY Q [(some 56,pB x)] K) w5:=λ{w5 c' e y m cs} B q sm z5 zm N aa O=>by
   refine eX (e':=e) zm λw6 z6 I=>aB trivial (dh z6 (ck (vs:=anC e y) kr ?_));have zt:=I.blk z5 N.symm;have m0:=(q.own m oL).2.1;have h6:=(q.othE I oL zm dc).sub (Z':=x::Z) λt C=>(oO.1 C).elim (λe=>by simp[e]) λC=>oH _ (sub2 t C)
   have s6:CS w5 w6 B0 Z:=⟨aD (jU _ w5) I m0,λt C=>I.other t λe=>O (e ▸ C)⟩
   exact h6.fin' zt rfl n4 λw7 h7 s7=>a w7 c' e y B h7 ((sm.trans s6).trans s7)
  refine⟨?_,?_⟩
  .refine o.do_ hi oo H hx λU c' e y B l D=>?_;refine hRT (hE2 ((il λw4 m4 M l4=>aB trivial ?_)));have g:=D.blk oL j
   exact k (cs:=[]) B (l.new M oA m4.lt) (sd.trans ((D.sub sub2).trans ((l.csb M).sub sub2))) (ae M g g.lt) m4 (by have:=g.lt;omega) (by have:=(D.blk oB (f.drew)).lt;omega) (λq=>by have:=(l.own _ (sub2 _ q)).1;omega)
  .refine il λU m3 z l3=>aB ⟨ae z f.drew f.drew.lt,(o.below z).cb⟩ ?_;have l:=o.new z oA m3.lt;refine l.do_ hi oo H hx λw4 c' e y B h4 P=>?_;refine hRT (hE2 (?_));have g:=ae z j j.lt
   exact k (cs:=[]) B h4 (sd.trans (((o.csb z).sub sub2).trans (P.sub λ_ h=>oH _ (sub2 _ h)))) (P.blk oB g) (P.blk oL m3) (by have:=j.lt;omega) (by have:=f.drew.lt;omega) (λq=>by have:=(o.own _ (sub2 _ q)).1;omega)
end
def zeE{n:Nat}{X:Nat->SX}{now:Int}{x:SX}(hi:i<6)(a:x.p=(X i).p):(kH n np X now).set (1+i*2+1) (pB x.u)=kH n np (gi X i x) now:=by
 match i,hi with
 | 0,_=>unfold kH uh;simp[List.range,List.range.loop,gi,a]
 | 1,_=>unfold kH uh;simp[List.range,List.range.loop,gi,a]
 | 2,_=>unfold kH uh;simp[List.range,List.range.loop,gi,a]
 | 3,_=>unfold kH uh;simp[List.range,List.range.loop,gi,a]
 | 4,_=>unfold kH uh;simp[List.range,List.range.loop,gi,a]
 | 5,_=>unfold kH uh;simp[List.range,List.range.loop,gi,a]
section
variable {B0 n t:Nat}{Z:List Nat}{c:CX}{s:STP}{v:oF}
def CM.ns{M':List MGT}{cs:List Bool}(h:CM w B0 n b Z c)(d:NM S c.T c.np a o M' cs)(k:NS w S c.np c.ra a c.M M'):CM S B0 n b Z {c with M:=M',ra:=a,rc:=o,cut:=cs}/\CS w S B0 Z:=h.net d k.ch k.rw k.mw
def CM.ldn(h:blk w c.p 72 (kH n c.np c.X c.now))(a:K (pB c.np) w):ld Q 64 (pA c.p 13) K w:=lK (v:=pB c.np) h rfl a
def zgH(h:CM w B0 n b Z c)(a:∀S c' e,CM S B0 n b Z c'->CS w S B0 Z->SP c c'->K (anV evZ e) S):call Q 175 #[pB c.p,.agg (stC s v).toArray] K w:=by
 refine aj (goK func175) (Jk (h.pro λg E I m B z A G H=>?_));have l:=bDr g;have i:=m.below l;have D:=B.trans ((m.csb l).sub sub2);refine aw (λy=>blk y E 49 (stC s v)/\blk y c.p 72 (kH n c.np c.X c.now)) ⟨G.drew,i.cb⟩ ?_;refine hZ (hW BL (ac (v:=pB c.np) (λy d _ a=>CM.ldn d.2 a) ?_));refine hW SN (ac (v:=iv s.k) (λy d _ a=>lK d.1 rfl a) ?_)
 refine zhs i.nm λJ M' q x u=>?_;obtain⟨r,o⟩:=i.ns x u;have j:=o.blk oL H.drew;refine hRT (ac (λy _ _ a=>bc a) ?_);have f:=λe=>r.fin (K:=K) (e:=e) j rfl z A λF t C=>a F _ e t ((D.trans (o.sub sub2)).trans C) (.of rfl (λ_ h=>h) rfl);cases q with
 | true=>exact aA (f 0)
 | false=>exact aV (f 4)
def zeF(h:CM w B0 n b Z c)(a:∀S c' e,CM S B0 n b Z c'->CS w S B0 Z->SP c c'->K (anV evZ e) S):call Q 176 #[pB c.p,.agg (stC s v).toArray] K w:=by
 refine aj (goK func176) (HL (h.pro λg G L m D z A I J=>?_));have l:=bDr g;have j:=m.below l;have F:=D.trans ((m.csb l).sub sub2);refine aw (λy=>blk y G 49 (stC s v)/\blk y c.p 72 (kH n c.np c.X c.now)) ⟨I.drew,j.cb⟩ ?_;refine hZ (hW BL (ac (v:=pB c.np) (λy d _ a=>CM.ldn d.2 a) ?_));refine hW SN (ac (v:=iv s.k) (λy d _ a=>lK d.1 rfl a) ?_)
 refine zfv j.nm λM B C M' e x u=>?_;obtain⟨o,q⟩:=j.ns x u;have f:=q.blk oL J.drew;refine hRT (Vq λN i=>hRT ?_);refine(o.below i).fin' (ae i f f.lt) rfl (λt=>(oO.1 t).elim A z) λH r E=>?_
 exact a H _ e (r.sub λ_ h=>oH _ h) ((F.trans (q.sub sub2)).trans (((o.csb i).sub sub2).trans (E.sub λ_ h=>oH _ h))) (.of rfl (λ_ h=>h) rfl)
def ziy(h:CM w B0 n b Z c)(a:∀S c' e,CM S B0 n b Z c'->CS w S B0 Z->SP c c'->K (anV evZ e) S):call Q 177 #[pB c.p,.agg (stC s v).toArray] K w:=by
 refine aj (goK func177) (Ku (h.pro λg E J m B z A G H=>?_));have l:=bDr g;have k:=m.below l;have D:=B.trans ((m.csb l).sub sub2);refine aw (λy=>blk y E 49 (stC s v)/\blk y c.p 72 (kH n c.np c.X c.now)) ⟨G.drew,k.cb⟩ ?_;refine hZ (hW BL (ac (v:=pB c.np) (λy d _ a=>CM.ldn d.2 a) ?_))
 refine hW wQ (ac (v:=iv s.who) (λy d _ a=>lK d.1 rfl a) (hW Zj (ac (v:=iv s.j) (λy d _ a=>lK d.1 rfl a) ?_)));refine zjf k.nm λL I e x u=>?_;obtain⟨o,q⟩:=k.ns x u;have f:=q.blk oL H.drew;refine hRT (Vq λM i=>hRT ?_);refine(o.below i).fin' (ae i f f.lt) rfl (λt=>(oO.1 t).elim A z) λF r C=>?_
 exact a F _ e (r.sub λ_ h=>oH _ h) ((D.trans (q.sub sub2)).trans (((o.csb i).sub sub2).trans (C.sub λ_ h=>oH _ h))) (.of rfl (λ_ h=>h) rfl)
def zgJ(h:CM w B0 n b Z c)(i:∀S c' e,CM S B0 n b Z c'->CS w S B0 Z->SP c c'->K (anV evZ e) S):call Q 178 #[pB c.p,.agg (stC s v).toArray] K w:=by refine aj (goK func178) (Jm (h.pro λz x y a o l m B t=>aq (BL (CM.ldn a.cb (zht a.nm λA u k j=>?_)))));obtain⟨f,d⟩:=a.ns k j;exact f.fin (d.blk oL t) rfl l m λr g q=>i r _ 0 g ((o.trans (d.sub sub2)).trans q) (.of rfl (λ_ h=>h) rfl)
def zig{a b:Int}(c:0<=a+b)(d:a+b<18446744073709551616)(h:K (u6 (a+b)) w):bin Q .add 36 cx cy (u6 a) (u6 b) K w :=
 xE (by rw[eJ,Int.emod_eq_of_lt c d];exact h)
def zgN(h:CM w B0 n b Z c)(d:∀w' c' e,CM w' B0 n b Z c'->CS w w' B0 Z->SP c c'->K (anV evZ e) w'):call Q 173 #[pB c.p,.agg (stC s v).toArray] K w:=by
 refine aj (goK func173) (Jr (h.pro λi I J j G E F r B=>?_));have R:=h.now;have l:∀{w:oG},Below w.heap.size w w.drew:=λ{w} => (jU _ w).drew;have f:∀{y:oG} {K:KV},blk y I 49 (stC s v)->K (iv s.n) y->ld Q 3 (pA I (0+10)) K y:=λx d=>lK (v:=iv s.n) x rfl d
 have k:∀{y:oG} {K:KV},blk y c.p 72 (kH n c.np c.X c.now)->K (u6 c.now) y->ld Q 36 (pA c.p (0+14)) K y:=λx d=>lK (v:=u6 c.now) x rfl d;have g:∀{S:oG},Below i.heap.size i S->call Q 23 #[ci 1] (λa=>sto Q 56 (pB J) a λ_=>aY Q [(some 56,pB J)] K) S:=λ{S} t =>
  (j.below t).fin (ae t B B.lt) rfl E F λz q O=>d z c 1 q ((G.trans ((j.csb t).sub sub2)).trans O) .refl
 refine ah (λ_=>If) (ah (λ_=>f r.drew) (ah (λ_=>aL) ?_));by_cases m:s.n<0
 .exact mF m (ah (λ_=>bI m) (iH (ah (λ_=>cA) (aV (g l)))))
 refine df m (ah (λ_=>If) (ah (λ_=>f r.drew) (ah (λ_=>cH) (ah (λ_=>bw m) ?_))));by_cases o:(1099511627776:Int)<s.n
 .exact mF o (ah (λ_=>bI o) (aV (g l)))
 have D:∀{y:oG} {K:KV},K (u6 s.n) y->conv Q 3 36 (iv s.n) K y:=λd=>zkV oo oo d
 refine df o (ah (λ_=>aq) (ah (λ_=>BM) (ah (λ_=>k (j.below l).cb) (ah (λ_=>If) (ah (λ_=>f r.drew) (ah (λ_=>D) (ah (λ_=>zig oo oo) (ah (λ_=>cH) (ah (λ_=>bw o) ?_)))))))));by_cases q:(1099511627776:Int)<c.now+s.n
 .exact ay q (g l)
 have C:Below i.heap.size i i.drew.drew:=(jU _ i).drew.drew;have u:=j.below C;refine ax q (ah (λ_=>aq) (ah (λ_=>BM) (ah (λ_=>k u.cb) (ah (λ_=>If) (ah (λ_=>f r.drew.drew) (ah (λ_=>D) (ah (λ_=>zig oo oo) (ah (λ_=>aq) (ah (λ_=>BM) ?_)))))))));refine cq kf u.cb (by rw[YQ];omega) rfl λS A N=>?_
 have A:blk S c.p 72 (kH n c.np c.X (c.now+s.n)):=A;obtain⟨L,H⟩:=u.tim N A oo;exact L.fin (H.blk oL B.drew.drew) rfl E F λz M P=>d z _ 0 M ((G.trans (((j.csb C).trans H).sub sub2)).trans P) (.of rfl (λ_ h=>h) rfl)
inductive OnR (n i:Nat) (c:CX):CX->Int->Prop
 | up (h:(c.X i).on=true):OnR n i c c 3
 | on {p u j:Nat} {A L:List EV} {Y:DuX} (hX:c.X i=.dn p u A L) (hw:Y.X.ws=[]) (hW:Y.X.W=[]) :
  OnR n i c {c with X:=gi c.X i (.up Y ⟨dU eff (pl0 n) (A++L.take j),A++L.take j,gp0⟩ (-1)),T:=c.T.on n i A (L.take j)} 0
def OnR.sp{c':CX}{e:Int}(h:OnR n i c c' e)(hi:i<6):SP c c':=by
 cases h with
 | up h=>exact .refl
 | on hX hw hW=>exact .of rfl (λ_ h=>List.mem_append_left _ h) rfl
def zkg{P:List Int}(h:CM w B0 n b Z c)(hb:b<=20000)(hw:s.who=(i:Int)+1)(hi:i<6)(hr:RIn w a m o P)(l:∀w' c' e,OnR n i c c' e->CM w' B0 n b Z c'->CS w w' B0 Z->K (anV evZ e) w'):call Q 181 #[pB c.p,.agg (stC s (.slice a m o)).toArray] K w:=by
 refine aj (goK func181) (Lm (bu λw0 y0 b0 l0=>bO (z:=anV evZ 0) kr λw1 y1 I l1=>?_));have O:blk w0 w.heap.size 49 (stC s (.slice a m o)):=by simpa[Value.cells]using y0
 have z4:blk w1 w0.heap.size 56 (anC evZ 0):=by simpa[Value.cells]using y1
 have H:=tB b0 I;have h1:=(h.new b0 oA O.lt).new I oA z4.lt;have s1:=h.csb H;have n4:w0.heap.size∉Z:=λC=>by have:=(h.own _ C).1;omega
 have ne:w0.heap.size≠w.heap.size:=by omega
 have O:=ae I O O.lt;refine KQ O (Rh hw hi λw2 b2=>?_);have R:Below w1.heap.size w1 w2.drew:=b2.trans ((jU _ w2).drew.mono b2.size);have x:=h1.below R;have s2:=s1.trans ((h1.csb R).sub sub2);have ag:=ae R z4 z4.lt;have af:=ae R O O.lt;have an:=hr.below (tB H R) oA;have hx:=x.st i hi
 refine aw (λy=>blk y w.heap.size 49 (stC s (.slice a m o))/\blk y c.p 72 (kH n c.np c.X c.now)) ⟨af,x.cb⟩ ?_;refine hZ (hW Ie (ac (v:=ptr (c.X i).p) (λy d _ l=>lK d.2 (yF hi).1 l) ?_));refine hW Zk (ac (v:=.slice a m o) (λy d _ l=>lK d.1 rfl l) ?_);cases D:c.X i with
 | up Y r fu =>
  rw[D]at hx;refine zjr hx.1.jk.1 rfl (hRT (aZ (ay dc ?_)));exact x.fin ag rfl n4 ne λw3 h3 s3=>l w3 c 3 (.up (by rw[D];rfl)) h3 (s2.trans s3)
 | dn p u A L =>
  rw[D]at hx;have sz:=x.sz i hi;rw[D]at sz;have sz:A.length+L.length<=b:=sz;refine zkk (p:=p) (u:=u) hx.1 an λw3 f j a1 a2 d3 U=>hRT (aZ (ax dc ?_));have ad:p∈(c.X i).B:=by rw[D];exact oL
  have N:p∈(c.X i).F:=by rw[D];exact oL
  have dp:=x.dis i hi p ad;have ao:GD w3:=x.kd.ch U λg hg C=>by have:=x.gt g hg;have:=x.lo i hi p N;rw[<-mS C]at this;omega
  have ah:blk w3 c.p 72 (kH n c.np c.X c.now):=x.cb.ch U λC=>dp.1 (mS C).symm;have zz:∀t∈w0.heap.size::w.heap.size::Z,t∉[p]:=λt ht C=>(x.own t ht).2.2.2.2 i hi (mS C ▸ ad);have ar:=af.ch U (zz _ oB);have J:=bDr w3;refine aw (λy=>blk y w.heap.size 49 (stC s (.slice a m o))/\blk y c.p 72 (kH n c.np c.X c.now)) ⟨ar.drew,ah.drew⟩ ?_
  refine hZ (hW zeK (ac (v:=iv (n:Nat)) (λy d _ l=>lK d.2 rfl l) ?_));refine hW wQ (ac (v:=iv ((i:Int)+1)) (λy d _ l=>lK (v:=iv ((i:Int)+1)) d.1 (by rw[<-hw];rfl) l) ?_);refine hZ (hW Ie (ac (v:=ptr p) (λy d _ l=>lK (v:=ptr p) d.2 (by have:=(yF (n:=n) (np:=c.np) (X:=c.X) (now:=c.now) hi).1;rw[D]at this;exact this) l) ?_));obtain⟨ak,G⟩:=hx.2.on j
  have am:p≠1:=λe=>by have:=x.gt p (by rw[e];simp[GT]);have:=x.lo i hi p N;omega
  have lj:(A++L.take j).length<=b:=by rw[oT,qA];omega
  refine zb2 (ao.below J).kd h.n1 h.n6 hi (d3.below J) a1 a2 am (λe a=>⟨WM G.d.ok e a,G.d.ft e a⟩) G.d.ok oo λw4 Y ab ai ap W4 c4 f4 aa=>?_;have V:Ch [p] w2.drew w3.drew:=U.add (J.mono U.size);have av:=V.size;have M:Ch [p] w2.drew w4:=V.trans c4 λk E=>.inl E;have W:=x.cb.ch M λC=>dp.1 (mS C).symm
  refine hRT (hE2 ((Jn (aT (Jo (ay rfl (aq (yP ?_))))))));refine cq (v:=pB Y.u) kf W (by rw[YQ];omega) rfl λw5 z5 o5=>Jp ?_;have S:Ch ((c.X i).F++[c.p]) w2.drew w5:=(M.mono λk E=>by rw[mS E];exact List.mem_append_left _ N).trans (Ch.of_oth o5 oB) λk E=>.inl E;have pu:Y.p≠c.p:=by rw[ab];exact dp.1
  have au:=M.size;have al:SxM w5 n i (c.T.on n i A (L.take j)) (.up Y ⟨dU eff (pl0 n) (A++L.take j),A++L.take j,gp0⟩ (-1)):=by
   refine SxM.ch (w:=w4) (F:=[c.p]) ⟨ai,by rw[W4];exact G⟩ (Ch.of_oth o5 oB) (noBy.of W dc) λk E C=>?_;have C:=mS C;subst C;rcases aa _ E with e|e|e
   .have:=x.gt c.p (by rw[e];simp[GT]);have:=x.lp c.p oL;omega
   .exact dp.1 e.symm
   .have:=x.cb.lt;omega
  have e5:(kH n c.np c.X c.now).set (1+i*2+1) (pB Y.u)=kH n c.np (gi c.X i (.up Y ⟨dU eff (pl0 n) (A++L.take j),A++L.take j,gp0⟩ (-1))) c.now:=by
   have ep:(SX.up Y ⟨dU eff (pl0 n) (A++L.take j),A++L.take j,gp0⟩ (-1)).p=(c.X i).p:=by rw[D];exact ab
   exact zeE hi ep
  have h5:=x.site' hi (by rw[<-e5];exact z5) al ak (λq a _=>oI a) S (λk E=>?_) (λk E=>?_) oA lj
  .have s5:=x.csx hi S;exact h5.fin (s5.blk oL ag) rfl n4 ne λw6 h6 s6=>l w6 _ 0 (.on D ap W4) h6 ((s2.trans (s5.sub sub2)).trans s6)
  .rcases f4 k E with e|e
   .rw[e,D];exact .inl oL
   .exact .inr oo
  .rcases aa k E with e|e|e
   .exact .inl (by rw[e];simp[GT])
   .rw[e,D];exact .inr (.inl oL)
   .exact .inr (.inr oo)
end
def zje{x:MGT}(c:x.1.V.length=6)(b:(x.1.k=1)\/(x.1.k=2/\x.1.L=[]/\x.2=(none,0))):tmC x=mgC x.1.k ((x.1.f:Int)+1) ((x.1.t:Int)+1) x.1.V (.slice (if x.1.k=1 then x.2.1 else none) (if x.1.k=1 then x.1.L.length else 0) (if x.1.k=1 then x.2.2 else 0)) x.1.n x.1.a:=by
 rw[Qv c];rcases b with h|⟨h,d,e⟩
 .rw[oJ h,oJ h,oJ h]
 .have : ¬x.1.k=1:=by rw[h];decide
  rw[oI this,oI this,oI this,d,e];rfl
section
variable {B0 n t:Nat}{Z:List Nat}{c:CX}{s:STP}{v:oF}
def CM.hear{x:MGT}{Y:DuX}{r:RS}(h:CM w B0 n b Z c)(R:b<=20000)(i:c.X x.1.t=.up Y r P0)(m:MsP c.T x.1)(B:TMk 0 w x)(M:x.1.k=2->x.2=(none,0))(v:∀S c' e,CM S B0 n (b+64) Z c'->CS w S B0 Z->SP c c'->K (ci e) S):call Q 188 #[pB Y.u,.agg (tmC x).toArray,u6 c.now] K w:=by
 have a:=m.t6;have d:=h.st _ a;have s:=h.sz _ a;rw[i]at d s;have s:r.A.length<=b:=s;have P:=d.2.G;rw[zje m.v6 (m.kd.imp (·.1) λj=>⟨j.1,j.2.1,M j.1⟩)];refine zhR d.1 d.2 a oo oo m rfl B.vr (λb o I=>?_) (λS Y' z E T' y H g F p l N D=>?_) λS L l C z c'=>?_
 .obtain⟨_,O,J⟩:=B.ev b o I;exact d.1.rp.ty J dc
 .obtain⟨f,q⟩:=h.up a i y g F p N D l;exact v S _ _ f q (.of rfl (λ_ h=>y.mem h) H)
 .obtain⟨f,q⟩:=h.down a i C .refl (λ_=>rfl) z c' l;exact v S _ _ f q (.of rfl (λ_ h=>h) rfl)
def zcW{b':Nat}{R:MGT->CX->CX->Int->Prop}(h:CM w B0 n b Z c)(hR:∀{w2:oG} {Z2:List Nat} {c2:CX} {x:MGT} {Y:DuX} {r:RS} {fu:Int} {K2:KV},c.M[s.k.toNat]? = some x->c2={c with M:=c.M.eraseIdx s.k.toNat}->CM w2 B0 n b Z2 c2->c2.X x.1.t=.up Y r fu->MsP c2.T x.1->TMk 0 w2 x->(x.1.k=2->x.2=(none,0))->(∀w' c' e,R x c2 c' e->CM w' B0 n b' Z2 c'->CS w2 w' B0 Z2->K2 (ci e) w')->call Q 188 #[pB Y.u,.agg (tmC x).toArray,u6 c.now] K2 w2)(no:∀w',¬(0<=s.k/\s.k<c.M.length)->CM w' B0 n b Z c->CS w w' B0 Z->K (anV evZ 4) w')(an:∀w' x,c.M[s.k.toNat]? = some x->(c.X x.1.t).on=false->CM w' B0 n b Z {c with M:=c.M.eraseIdx s.k.toNat}->CS w w' B0 Z->K (anV evZ 8) w')(f:∀w' c' x e,c.M[s.k.toNat]? = some x->R x {c with M:=c.M.eraseIdx s.k.toNat} c' e->CM w' B0 n b' Z c'->CS w w' B0 Z->K (anV evZ e) w'):call Q 174 #[pB c.p,.agg (stC s v).toArray] K w:=by
 refine aj (goK func174) (FA (h.pro λw1 t3 t4 h1 s1 n4 ne z3 z4=>?_));have bd:=bDr w1;have O:=h1.below bd;have sd:=s1.trans ((h1.csb bd).sub sub2);have I:=z4.drew;have am:∀{y:oG} {K:KV} {b:Nat} {g:oE},g.length=12->blk y b 282 g->K (.agg g.toArray) y->ld Q 282 (pB b) K y:=λhl hy f=>ldA (n:=12) underlying282 rfl kr hy dTk hl f
 have W:∀{y:oG} {K:KV} {b:Nat} {g cs:oE},g.length=12->cs.length=12->(∀v∈g,v.oneCell'=true)->blk y b 282 cs->(∀l,blk l b 282 g->Oth b y l->K undef l)->sto Q 282 (pB b) (.agg g.toArray) K y:=λ{y K b g cs} hl ap h1 hy f=>eW (n:=12) kr hl hy oo h1 λl ag o' => f l (by
  rw[qY,oV,oS oo,oW]at ag;exact ag) o'
 have ab:∀{y:oG} {K:KV},(∀l,blk l y.heap.size 282 msgZ->Below y.heap.size y l->K (pB y.heap.size) l)->alc Q 282 K y:=λ{y K} f=>bO (z:=.agg msgZ.toArray) kr λl z' b' _=>f l (by simpa[Value.cells]using z') b'
 have U:∀{y l:oG} {c':CX} {m:Nat} {cs:oE},CM y B0 n b (m::t4::t3::Z) c'->m≠t4->m∉Z->blk y m 282 cs->blk y t4 56 (anC evZ 0)->Oth m y l->CM l B0 n b (m::t4::t3::Z) c'/\CS y l B0 Z/\blk l t4 56 (anC evZ 0):=λ{y l c' m cs} C F hz hb z o =>
  ⟨C.oth o oL hb dc,⟨aD (jU _ y) o (C.own m oL).2.1,λt a=>o.other t λe=>hz (e ▸ a)⟩,o.blk z F.symm⟩
 have ai:∀{y:oG} {m:Nat},¬(0<=s.k/\s.k<c.M.length)->CM y B0 n b (m::t4::t3::Z) c->CS w y B0 Z->blk y t4 56 (anC evZ 0)->call Q 23 #[ci 4] (λa=>sto Q 56 (pB t4) a λ_=>aY Q [(some 56,pB t4)] K) y:=λP C sy z =>
  (C.sub λ_ h=>oH _ h).fin z rfl n4 ne λw3 h3 s3=>no w3 P h3 (sy.trans s3)
 have ak:∀{y:oG} {m:Nat} {x:MGT} {zf:oD},c.M[s.k.toNat]? = some x->CM y B0 n b (m::t4::t3::Z) {c with M:=c.M.eraseIdx s.k.toNat}->CS w y B0 Z->blk y t4 56 (anC evZ 0)->blk y m 282 (tmC x)->MsP c.T x.1/\TMk 0 y x/\(x.1.k=2->x.2=(none,0))->fK K (nk (pB c.p) (pB t4) (pB m) (pA c.p (1+x.1.t*2)) zf) y:=λ{y m x zf} hx C sy z zm g=>by
  have hi:=g.1.t6;refine DT (zan (c:={c with M:=c.M.eraseIdx s.k.toNat}) C hi (bc ?_));cases hX:c.X x.1.t with
  | dn p u A L =>
   exact aV ((C.sub λ_ h=>oH _ h).fin z rfl n4 ne λa b c=>an a x hx (by rw[hX];rfl) b (sy.trans c))
  | up Y r fu =>
   have al:({c with M:=c.M.eraseIdx s.k.toNat}:CX).X x.1.t=.up Y r fu:=hX;have bm:=bDr y;have af:=C.below bm;refine aA (aw (λu=>blk u m 282 (tmC x)/\blk u c.p 72 (kH n c.np c.X c.now)) ⟨zm.drew,af.cb⟩ ?_);refine hZ (hW yP (ac (v:=pB Y.u) (λy d _ f=>lK (v:=pB Y.u) d.2 (by have:=(yF (n:=n) (np:=c.np) (X:=c.X) (now:=c.now) hi).2;rw[hX]at this;exact this) f) ?_))
   refine ac (λy d _ f=>am (dN _) d.1 f) (hZ (hW BM (ac (v:=u6 c.now) (λy d _ f=>lK d.2 rfl f) ?_)));refine hR hx rfl af al g.1 (g.2.1.below bm) g.2.2 λw2 c' e hr B N=>?_;refine hRT (Vq λw3 j=>hRT ?_);have z2:=N.blk oB z.drew
   refine((B.sub λ_ h=>oH _ h).below j).fin' (ae j z2 z2.lt) rfl (λa=>(oO.1 a).elim ne n4) λG F V=>?_;refine f G c' x e hx hr (F.sub λ_ h=>oH _ h) ?_;have k1:CS y w2 B0 Z:=((C.csb bm).trans N).sub λ_ h=>oH _ (sub2 _ h);have k2:CS w2 w3 B0 Z:=(B.csb j).sub λ_ h=>oH _ (sub2 _ h)
   exact((sy.trans k1).trans k2).trans (V.sub λ_ h=>oH _ h)
 refine aw (λy=>blk y t3 49 (stC s v)/\blk y c.p 72 (kH n c.np c.X c.now)) ⟨z3.drew,O.cb⟩ ?_;refine hZ (hW BL (ac (v:=pB c.np) (λy d _ f=>CM.ldn d.2 f) ?_));refine hW SN (ac (v:=iv s.k) (λy d _ f=>lK d.1 rfl f) ?_);have aa:=z3.drew;refine⟨?_,?_⟩
 .refine WH O.nm (λw2 P J=>?_) λw2 x hx n2 g k2=>?_
  .have B:=O.below J;have N:=sd.trans ((O.csb J).sub sub2);have i:=ae J I I.lt;have ar:=ae J aa aa.lt;refine hRT (hE2 ((ab λw3 q j=>aB trivial (W rfl rfl dc q λG E S=>aB trivial (bc (aV ?_))))));obtain⟨F,V,D⟩:=U (B.new j oA q.lt) (by have:=i.lt;omega) (λC=>by have:=(B.own _ (sub2 _ C)).1;omega) q (ae j i i.lt) S
   exact ai P F ((N.trans ((B.csb j).sub sub2)).trans V) D
  .obtain⟨B,N⟩:=O.ns n2 k2;have ao:=sd.trans (N.sub sub2);have i:=N.blk oL I;refine hRT (hE2 ((ab λw3 q j=>aB trivial (W (dN x) rfl (wm x) q λG E S=>aB trivial (bc (aA ?_))))));obtain⟨F,V,D⟩:=U (B.new j oA q.lt) (by have:=i.lt;omega) (λC=>by have:=(B.own _ (sub2 _ C)).1;omega) q (ae j i i.lt) S;have t6:=g.1.t6
   have b4:=bDr G
   refine ah (λ_=>yO) (ah (v:=iv ((x.1.t:Int)+1)) (λ_=>lK (v:=iv ((x.1.t:Int)+1)) E.drew rfl) (ah (v:=iv (x.1.t:Nat)) (λK f=>bL oo oo (by rw[show (x.1.t:Int)+1-1=(x.1.t:Nat)by omega];exact f)) (ah (λ_=>aq) (ah (λ_=>DY) (ah (v:=pA c.p (1+x.1.t*2)) (λK f=>fg underlying70 (s:=2) kf oo oo f) ?_)))))
   exact ak hx (F.below b4) (((ao.trans ((B.csb j).sub sub2)).trans V).trans ((F.csb b4).sub λ_ h=>oH _ (sub2 _ h))) D.drew E.drew ⟨g.1,((g.2.1.below j).kp λk a P=>S.other k λe=>qI e (P.ne q dc)).below b4,g.2.2⟩
 .refine ab λw2 H J=>aB ⟨ae J aa aa.lt,(O.below J).cb⟩ ?_;have B:=O.new J oA H.lt;have N:=sd.trans ((O.csb J).sub sub2);have i:=ae J I I.lt;have mz:w1.drew.heap.size∉Z:=λC=>by have:=(O.own _ (sub2 _ C)).1;omega
  have m4:w1.drew.heap.size≠t4:=by have:=I.lt;omega
  refine WH B.nm (λw3 P j=>?_) λw3 x hx n3 g k3=>?_
  .have h3:=B.below j;refine hRT (hE2 ((W rfl rfl dc (ae j H H.lt) λG E S=>aB trivial (bc (aV ?_)))));obtain⟨F,V,D⟩:=U h3 m4 mz (ae j H H.lt) (ae j i i.lt) S;exact ai P F ((N.trans ((B.csb j).sub λ_ h=>oH _ (sub2 _ h))).trans V) D
  .obtain⟨h3,s3⟩:=B.ns n3 k3;have ad:=s3.blk oL H;refine hRT (hE2 ((W (dN x) rfl (wm x) ad λG E S=>aB trivial (bc (aA ?_)))));obtain⟨F,V,D⟩:=U h3 m4 mz ad (s3.blk oB i) S;have t6:=g.1.t6;have b4:=bDr G
   refine ah (λ_=>yO) (ah (v:=iv ((x.1.t:Int)+1)) (λ_=>lK (v:=iv ((x.1.t:Int)+1)) E.drew rfl) (ah (v:=iv (x.1.t:Nat)) (λK f=>bL oo oo (by rw[show (x.1.t:Int)+1-1=(x.1.t:Nat)by omega];exact f)) (ah (λ_=>aq) (ah (λ_=>DY) (ah (v:=pA c.p (1+x.1.t*2)) (λK f=>fg underlying70 (s:=2) kf oo oo f) ?_)))))
   exact ak hx (F.below b4) (((N.trans (s3.sub λ_ h=>oH _ (sub2 _ h))).trans V).trans ((F.csb b4).sub λ_ h=>oH _ (sub2 _ h))) D.drew E.drew ⟨g.1,(g.2.1.kp λk a P=>S.other k λe=>qI e (P.ne ad dc)).below b4,g.2.2⟩
end
def Vu(cut:List Bool)(L:List MG)(T:List MGT):List MG:=T.foldl (λL x=>Qa cut L x.1) L
def zcr{cut:List Bool}{L:List MG}{T:List MGT}{x:MGT}:Vu cut L (T++[x])=Qa cut (Vu cut L T) x.1:=by unfold Vu;rw[List.foldl_append];rfl
inductive TickR (i:Nat) (c:CX):CX->Prop
 | mk {Y Y':DuX} {s:RS} {fu:Int} {T:List MGT} {M:List MGT} {ra:Option Addr} {rc:Nat} (hX:c.X i=.up Y s fu) (hT:∀x∈T,TMok 6 i s x) (ha:(i:Int)+1∈mT s.l.I s.l.L 6->∀j:Nat,(j:Int)+1∈mT s.l.I s.l.L 6->j≠i->∃x∈T,x.1.k=1/\x.1.t=j)
  (hl:Y.X.ws=[]->T.length<=(mT s.l.I s.l.L 6).length-1) (hm:M.map (·.1)=Vu c.cut (c.M.map (·.1)) T):TickR i c {c with X:=gi c.X i (.up Y' s fu),M:=M,ra:=ra,rc:=rc}
def TickR.sp{c c':CX}(h:TickR i c c'):SP c c':=by cases h;exact .of rfl (λ_ h=>h) rfl
section
variable {B0 n t:Nat}{Z:List Nat}{c:CX}{s:STP}{v:oF}
def zaZ(h:CM w B0 n b Z c)(hb:b<=20000)(hw:s.who=(i:Int)+1)(hi:i<6)(h8:∀w',(c.X i).on=false->CM w' B0 n b Z c->CS w w' B0 Z->K (anV evZ 8) w')(a:∀w' c',TickR i c c'->CM w' B0 n b Z c'->CS w w' B0 Z->K (anV evZ 0) w'):call Q 172 #[pB c.p,.agg (stC s v).toArray] K w:=by
 refine aj (goK func172) (Jq (h.pro λw1 t3 t4 h1 s1 n4 ne z3 z4=>KQ z3 (Rh hw hi λw2 b2=>?_)));have h2:=h1.below b2;have s2:=s1.trans ((h1.csb b2).sub sub2);have af:=ae b2 z4 z4.lt;refine zan h2 hi (bc ?_);cases R:c.X i with
 | dn p u A L=>exact aV (h2.fin af rfl n4 ne λN O a=>h8 N (by rw[R];rfl) O (s2.trans a))
 | up Y r fu =>
  refine aA ?_;have bd:=bDr w2;have g:=h2.below bd;have sd:=s2.trans ((h2.csb bd).sub sub2);have au:=af.drew;have D:=g.st i hi;have sz:=g.sz i hi;rw[R]at D sz;have sz:r.A.length<=b:=sz;have hG:=D.2.G;refine aw (λy=>blk y c.p 72 (kH n c.np c.X c.now)) g.cb ?_
  refine hZ (hW yP (ac (v:=pB Y.u) (λy d _ a=>lK (v:=pB Y.u) d (by have:=(yF (n:=n) (np:=c.np) (X:=c.X) (now:=c.now) hi).2;rw[R]at this;exact this) a) ?_));refine hZ (hW BM (ac (v:=u6 c.now) (λy d _ a=>lK d rfl a) ?_));refine zgQ D.1 hi D.2.d.pi oo D.2.q6 D.2.inc oo λN Y' T J oc ag ap hT I P ro W' lo ep=>?_
  obtain⟨O,s3⟩:=g.up hi R (LeT.refl) (λ_ _=>rfl) ag (by rw[W'];exact D.2) ap ep (d:=0) oA;have ar:=s3.blk oL au
  have V:∀k∈rwB J,w2.drew.heap.size<=k/\k<N.heap.size:=λk f=>jT ro k (wi f ro);have az:=g.b0;have aa:∀k∈rwB J,k<N.heap.size/\B0<=k/\k≠c.p/\k∉c.np::rwB c.ra/\∀j,j<6->k∉(gi c.X i (.up Y' r fu) j).B:=λk f=>by
   obtain⟨k1,k2⟩:=V k f;refine⟨k2,by omega,λe=>by have:=g.cb.lt;omega,λm=>by have:=g.nm.lt k m;omega,λj hj m=>?_⟩;by_cases S:j=i
   .rw[S,Rf]at m
    have:=lo k m;omega
   .rw[zi7 S]at m
    have:=(g.st j hj).lt k m;omega
  have h4:CM N B0 n b (rwB J++t4::t3::Z) {c with X:=gi c.X i (.up Y' r fu)} := {O with
   own:=λk f=>(oU.1 f).elim (aa k) (O.own k)
   mz:=λk f x l j o I=>(oU.1 f).elim (λf=>by have:=g.nm.elt l I;have:=(V k f).1;omega) λf=>O.mz k f x l j o I}
  have ab:∀t∈Z,t∈rwB J++t4::t3::Z:=λt ht=>List.mem_append_right _ (sub2 t ht);refine hRT (ac (λy _ _ a=>bv underlying97 a) ?_)
  refine Gs (Inv:=λu a=>∃(q:Nat) (M:List MGT) (ra:Option Addr) (rc:Nat),u=ci (q:Nat)/\q<=T.length/\CM a B0 n b (rwB J++t4::t3::Z) {c with X:=gi c.X i (.up Y' r fu),M:=M,ra:=ra,rc:=rc}/\CS N a B0 (rwB J++t4::t3::Z)/\(∀x∈T,TMk 0 a x)/\M.map (·.1)=Vu c.cut (c.M.map (·.1)) (T.take q)) (μ:=mU T.length)
   ⟨0,c.M,c.ra,c.rc,rfl,qG _,h4,⟨jU _ _,λ_ _=>rfl⟩,λx l=>⟨(hT x l).2.vr,λb o I=>⟨qG _,((hT x l).2.ev b o I).2⟩⟩,rfl⟩ ?_
  rintro _ dd w5 mu ⟨q,M,ra,rc,rfl,hq,h5,s5,ad,hM⟩ al;refine aL ?_;by_cases F:q<T.length
  .have l:T[q]? = some T[q]:=gE F;have W:T.take (q+1)=T.take q++[T[q]]:=by rw[List.take_add_one,l];rfl
   have H:=List.getElem_mem F;generalize T[q]=x at l W H;have ao:=cn ro (w':=w5) λk f=>s5.z k (List.mem_append_left _ (xJ f));have U:=(hT x H).1;have ak:MsP c.T x.1:=U.msp D.2 hi;have ai:x.1.k=2->x.2=(none,0):=λf=>by
    rcases U.is with⟨h1,_⟩|⟨_,_,e1,e2,_⟩
    .omega
    .exact Prod.ext e1 e2
   have av:=P.1;refine ay oo (BE (i:=q) (enc:=tmC) (s:=12) (L:=T) (x:=x) underlying97 kf underlying282 rfl kr dN ao rfl l λ_=>?_);refine bO (z:=.agg msgZ.toArray) kr λw6 z6 b6 l6=>?_;have z6:=cZ z6
   refine eW (n:=12) (vs:=tmC x) kr (dN x) z6 (by show 0+12<=12;omega) (wm x) λw7 z7 o7=>?_;rw[qY,oV,oS (by show 12<=0+12;omega),oW]at z7;have C:=(aD b6 o7 oA).drew;have E:=h5.below C;refine aw (λy=>blk y w5.heap.size 282 (tmC x)/\blk y c.p 72 (kH n c.np (gi c.X i (.up Y' r fu)) c.now)) ⟨z7.drew,E.cb⟩ ?_
   refine hZ (hW BL (ac (v:=pB c.np) (λy d _ a=>lK (v:=pB c.np) d.2 rfl a) (ac (v:=.agg (tmC x).toArray) (λy d _ a=>ldA (n:=12) (vs:=tmC x) underlying282 rfl kr d.1 (dTk (by rw[dN];omega)) (dN x) a) ?_)));refine zjl E.nm ak ((ad x H).below C) ai λw8 am an M' e n8 ah k8=>?_;obtain⟨h8,s8⟩:=E.ns n8 k8
   refine aR oo oo ⟨⟨q+1,M',am,an,ivS,F,h8,(s5.trans (h5.csb C)).trans s8,λy hy=>((ad y hy).below C).kp λk cs f=>k8.ch.block k f.lt λm=>?_,by rw[ah,W,zcr,hM]⟩,mD al⟩;rcases oO.1 m with e|m
   .exact f.ne E.nm.b dc e
   .obtain⟨ds,g⟩:=E.nm.rwt m;exact f.ne g dc rfl
  .obtain rfl:q=T.length:=by omega
   rw[tL oA]at hM;refine ax oo (Gt ?_);have h6:=h5.sub (Z':=t4::t3::Z) λt ht=>List.mem_append_right _ ht;exact h6.fin (s5.blk oB ar) rfl n4 ne λw6 E s7=>a w6 _ (.mk R (λx l=>(hT x l).1) I P.2 hM) E (((sd.trans (s3.sub sub2)).trans (s5.sub ab)).trans s7)
end
def T00:TT:=⟨λ_=>0,[],[]⟩
def stZ:STA:=⟨List.replicate 6 false,List.replicate 6 false,List.replicate 6 0,[],none,0,.slice none 0 0⟩
def pcC(n np:Nat)(X:Nat->SX)(q:Nat):oE:=iv (n:Nat)::(((List.range 6).flatMap λk=>if k<q then uh (X k)else [.pointer none,.pointer none])++[pB np,u6 0])
def zjz{n q:Nat}{X:Nat->SX}{x:SX}(a:q<6):(pcC n np X q).take (1+q*2)++uh x++(pcC n np X q).drop (1+q*2+2)=pcC n np (gi X q x) (q+1):=by
 match q,a with
 | 0,_=>simp[pcC,List.range,List.range.loop,gi,uh]
 | 1,_=>simp[pcC,List.range,List.range.loop,gi,uh]
 | 2,_=>simp[pcC,List.range,List.range.loop,gi,uh]
 | 3,_=>simp[pcC,List.range,List.range.loop,gi,uh]
 | 4,_=>simp[pcC,List.range,List.range.loop,gi,uh]
 | 5,_=>simp[pcC,List.range,List.range.loop,gi,uh]
def zjy{n q:Nat}{X:Nat->SX}(a:q<6):(pcC n np X q).length=15:=by
 match q,a with
 | 0,_=>rfl
 | 1,_=>rfl
 | 2,_=>rfl
 | 3,_=>rfl
 | 4,_=>rfl
 | 5,_=>rfl
def zgi(n:Nat)(x:SX):Prop:=∃Y,x=.up Y ⟨pl0 n,[],gp0⟩ (-1)/\Y.X.ws=[]/\Y.X.W=[]
def zl7{n:Nat}(hi:i<6):SiP n i T00 ⟨pl0 n,[],gp0⟩ []:=by
 have z:∀q,(pl0 n).V.getD q 0=0:=λq=>by
  show (List.replicate 6 (0:Int)).getD q 0=0;rw[oN,jL];split<;>rfl
 exact⟨⟨Dd n,HK.nil,trivial,rfl,by simp,by simp,by simp⟩,⟨.nil,by simp[T00],by simp[T00]⟩,z i,LK.zero .nil,λq=>Int.le_of_eq (z q),by simp,by simp⟩
structure PC(w:oG) (B1 n p np q:Nat) (X:Nat->SX):Prop where
 cb:blk w p 72 (pcC n np X q)
 nm:NM w T00 np none 0 [] (List.replicate 36 false)
 st:∀i,i<q->SxM w n i T00 (X i)/\zgi n (X i)
 sep:∀i j,i<q->j<q->i≠j->∀k∈(X i).B,k∉(X j).F
 b:∀i,i<q->∀k∈(X i).B,k∈GT\/B1<=k
 f:∀i,i<q->∀k∈(X i).F,B1<=k
 kd:GD w
section
variable {B0 n t:Nat}{Z:List Nat}{c:CX}{s:STP}{v:oF}
def zjj{T:TT}(h:∀S,NM S T w.heap.size none 0 [] (List.replicate 36 false)->Below w.heap.size w S->K (pB w.heap.size) S):call Q 17 #[] K w:=by
 refine aj (goK func17) (zcg (ck (vs:=.slice none 0 0::(List.replicate 36 false).map .bool) kr (bu λb a c d=>?_)));have a:=cZ a
 exact h b ⟨a,World.ownsRow_nil _ _ _ _,by simp,by simp,rfl⟩ c
def zcX(af:GD w)(hg:∀g∈GT,g<B0)(ak:B0<=w.heap.size)(h1:1<=n)(h6:n<=6)(hK:∀w' c,CM w' B0 n 0 [] c->Below w.heap.size w w'->c.M=[]->c.cut=List.replicate 36 false->c.now=0->c.T=T00->(∀i,i<6->zgi n (c.X i))->K (.tuple #[pB c.p,ci 0]) w'):call Q 7 #[iv (n:Nat)] K w:=by
 refine aj (goK func7) (VY (aL (df oo (cH (bw oo (ax oo ?_))))));refine zjj (T:=T00) λI n1 b1=>ck (vs:=pcC n w.heap.size (λ_=>.dn 0 0 [] []) 0) kr (bu λw2 V b2 s2=>?_);have V:=cZ V
 have N:=tB b1 b2;have l1:=n1.b.lt;refine Sm (Inv:=λu a=>∃(q:Nat) (X:Nat->SX),u=ci (q:Nat)/\q<=6/\PC a w2.heap.size n I.heap.size w.heap.size q X/\Below w.heap.size w a/\w2.heap.size<=a.heap.size) (μ:=λu _=>6-(intOf u).toNat)
  ⟨0,_,rfl,qG _,⟨V,n1.below b2,λi m=>by omega,λi j m=>by omega,λi m=>by omega,λi m=>by omega,af.below N⟩,N,Nat.le_refl _⟩ ?_
 rintro _ dd G mu ⟨q,X,rfl,hq,l,W,s3⟩ ag;have l2:=V.lt;refine aL ?_;by_cases y:q<6
 .refine ay oo (zkA λw4 d4 Z=>aR oo oo ?_);have D:∀g∈GT,g<w.heap.size:=λg x=>by have:=hg g x;omega
  have ah:G.heap.size≠1:=λe=>by have:=D 1 (by simp[GT]);omega
  refine zb2 (n:=n) (i:=q) (A:=[]) (l.kd.below Z).kd h1 h6 y d4 dc rfl ah oB trivial oB λw5 Y ab ac ai W5 c5 f5 aa=>?_;have O:Ch [G.heap.size] G w5:=((Ch.of_below Z).trans c5 λ_ h=>.inl h)
  have al:=O.size;have s4:=Z.size;have r:Below G.heap.size G w5:=O.below (λk a=>by rw[mS a];exact Nat.le_refl _) oA;have hx:SxM w5 n q T00 (.up Y ⟨pl0 n,[],gp0⟩ (-1)):=⟨ac,by rw[W5];exact zl7 y⟩
  have J:=ae r l.cb l.cb.lt;refine bo (bj (aZ (ax dc (ck (vs:=uh (.up Y ⟨pl0 n,[],gp0⟩ (-1))) (by unfold uh;rw[show (SX.up Y ⟨pl0 n,[],gp0⟩ (-1)).p=G.heap.size from ab];kernel_rfl) (aq (DY (fg underlying70 (s:=2) kf oo oo ?_)))))));rw[oQ]
  refine eW (n:=2) (vs:=uh (.up Y ⟨pl0 n,[],gp0⟩ (-1))) kr rfl J (by rw[zjy y];omega) (λv a=>by simp only[uh,oO,oR,or_false]at a;rcases a with rfl|rfl<;>rfl) λw6 z6 o6=>?_;rw[oK,zjz y]at z6;have U:Ch [I.heap.size] w5 w6:=Ch.of_oth o6 oB;have l6:w6.heap.size=w5.heap.size:=o6.size
  have S:noBy w5 [I.heap.size]:=noBy.of J dc;have C:∀k∈GT,k<w.heap.size:=D;have P:∀{j},j=q->gi X q (.up Y ⟨pl0 n,[],gp0⟩ (-1)) j=.up Y ⟨pl0 n,[],gp0⟩ (-1):=λe=>oJ e;have L:∀{j},j≠q->gi X q (.up Y ⟨pl0 n,[],gp0⟩ (-1)) j=X j:=λe=>oI e;have z:∀k∈(SX.up Y ⟨pl0 n,[],gp0⟩ (-1)).B,k∈GT\/G.heap.size<=k:=λk a=>by
   rcases aa k a with e|e|e
   .exact .inl (by rw[e];simp[GT])
   .exact .inr oo
   .exact .inr oo
  have H:∀k∈(SX.up Y ⟨pl0 n,[],gp0⟩ (-1)).F,G.heap.size<=k:=λk a=>(f5 k a).elim (λe=>by omega) λe=>by omega
  refine aR oo oo ⟨⟨q+1,_,ivS,y,⟨z6,?_,λi m=>?_,λi j m hj ad k a=>?_,λi m k a=>?_,λi m k a=>?_,?_⟩,?_,by omega⟩,mD ag⟩
  .refine(l.nm.below r).ch U (λk E b a c o=>a.ne J (by simp only[oO,oR,or_false]at c;rcases c with rfl|rfl|rfl<;>decide) (mS o)) LeT.refl
  .by_cases d:i=q
   .rw[P d,d];refine⟨hx.ch U S λk a o=>?_,Y,rfl,ai,W5⟩;rw[mS o]at a;rcases z _ a with e|e
    .have:=C _ e;omega
    .omega
   .rw[L d];obtain⟨i1,i2⟩:=l.st i oo;refine⟨(i1.below r).ch U S λk a o=>?_,i2⟩;rw[mS o]at a;rcases l.b i oo _ a with e|e
    .have:=C _ e;omega
    .omega
  .by_cases d:i=q
   .rw[P d]at a;rw[L oo];intro o;have h7:=(l.st j oo).1.lt k (SX.FB k o);have h8:=l.f j oo k o;rcases z _ a with e|e
    .have:=C _ e;omega
    .omega
   .rw[L d]at a;by_cases R:j=q
    .rw[P R];exact λo=>by have:=H k o;have:=(l.st i oo).1.lt k a;omega
    .rw[L R];exact l.sep i j oo oo ad k a
  .by_cases d:i=q
   .rw[P d]at a;exact(z k a).imp id λe=>by omega
   .rw[L d]at a;exact l.b i oo k a
  .by_cases d:i=q
   .rw[P d]at a
    have:=H k a;omega
   .rw[L d]at a;exact l.f i oo k a
  .exact(l.kd.below r).ch U λg x o=>by have:=C g x;rw[mS o]at this;omega
  .exact aD (tB W r) o6 oo
 .obtain rfl:q=6:=by omega
  refine ax oo (Sn ?_);have D:∀g∈GT,g<w.heap.size:=λg x=>by have:=hg g x;omega
  refine hK G ⟨I.heap.size,w.heap.size,X,T00,[],none,0,List.replicate 36 false,0⟩ ⟨l.cb,l.nm,λi m=>(l.st i m).1,l.sep,λi m k a=>?_,λk a=>?_,λi m k a=>?_,hg,l.kd,(λt a=>by cases a),h1,h6,(by show (0:Int)<=0/\(0:Int)<=1099511627776;decide),λi m=>?_,λt a=>by cases a⟩ W rfl rfl rfl rfl λi m=>(l.st i m).2
  .rcases l.b i m k a with e|e
   .have:=D k e
    exact⟨λe=>by have e:k=I.heap.size:=e;omega,λo=>by have e:=mS (show k∈[w.heap.size]from o);omega⟩
   .exact⟨λe=>by have e:k=I.heap.size:=e;omega,λo=>by have e:=mS (show k∈[w.heap.size]from o);omega⟩
  .have a:k∈[I.heap.size,w.heap.size]:=a;simp only[oO,oR,or_false]at a;rcases a with rfl|rfl<;>omega
  .have:=l.f i m k a;omega
  .obtain⟨Y,e,_⟩:=(l.st i m).2;show (X i).n<=0;rw[e];exact Nat.le_refl _
def ziI(h:CM w B0 n b Z c)(a:K (iv (c.M.length:Nat)) w):call Q 16 #[pB c.p] K w :=
 aj (goK func16) (Ks (DV (aA (aq (BL (CM.ldn h.cb (zji h.nm a)))))))
def SO.base{B:Nat}{l:PL}{t:STA}(h:SO w B l t a gc)(b:B'<=B):SO w B' l t a gc:={h with nd:=wC h.nd b,gr:=wC h.gr b}
def MD(h:CM w B0 n b Z c)(hb:b<=20000)(hw:FG x)(dn:∀w',Below w.heap.size w w'->(∀i:Nat,i<6->x=(i:Int)+1->(c.X i).on=false)->K (.tuple #[.agg (saC stZ).toArray,cF]) w')(up:∀w' (i:Nat) Y (r:RS) fu t H gc,i<6->x=(i:Int)+1->c.X i=.up Y r fu->SO w' w.heap.size r.l t H gc->Below w.heap.size w w'->K (.tuple #[.agg (saC t).toArray,cT]) w'):call Q 8 #[pB c.p,iv x] K w:=by
 refine aj (goK func8) (HH (bO (z:=.agg (saC stZ).toArray) kr λN k m s1=>?_));have k:=cZ k
 have D:=h.below m;have g:∀v∈saC stZ,v.oneCell'=true:=by decide
 have a:∀{y:oG},Below N.heap.size N y->(∀i:Nat,i<6->x=(i:Int)+1->(c.X i).on=false)->bld Q 42 #[] (λM=>sto Q 42 (pB w.heap.size) M λ_=>aY Q [(some 42,pB w.heap.size),(none,cF)] K) y:=λ{y} q hn=>by
  refine ck (vs:=saC stZ) kr (eW (n:=20) (vs:=saC stZ) kr rfl (ae q k k.lt) dc g λW z2 o2=>?_);exact ze (v:=.agg (saC stZ).toArray) (λ_ f=>ldA (n:=20) (vs:=saC stZ) underlying42 rfl kr z2 rfl rfl f) (dn W (aD (tB m q) o2 oA) hn)
 refine DV (fF (P9 (bc (bZ ?_))));cases S:bB x with
 | false=>exact iH (cA (aV (a (jU _ _) λi o e=>by
   have:bB x=true:=by rw[e];simp only[bB,oM,oP];omega
   rw[S]at this;cases this)))
 | true =>
  simp only[bB,oM,oP]at S;obtain⟨i,rfl⟩:∃i:Nat,x=(i:Int)+1:=⟨(x-1).toNat,by omega⟩
  have o:i<6:=by omega
  have R:∀{K:KV} {y:oG},K (pA c.p (1+i*2)) y->aW Q 70 (pA c.p 1) (iv (i:Nat)) K y:=λf=>fg underlying70 (s:=2) kf oo oo f;have U:∀{K:KV} {y:oG},K (iv (i:Nat)) y->bT .sub 3 (iv ((i:Int)+1)) (ci 1) K y:=λf=>bL oo oo (by rw[show (i:Int)+1-1=(i:Nat)by omega];exact f)
  refine fF (U (aq (DY (R (zan D o (bc (bZ ?_)))))));cases E:c.X i with
  | dn p u A L=>exact aV (a (jU _ _) λj a e=>by rw[show j=i by omega,E];rfl)
  | up Y r fu =>
   have B:=D.st i o;have J:=D.sz i o;rw[E]at B J;have J:r.A.length<=b:=J;have hG:=B.2.G;refine aA (U (aq (DY (R (yP (lK (v:=pB Y.u) D.cb (by have:=(yF (n:=n) (np:=c.np) (X:=c.X) (now:=c.now) o).2;rw[E]at this;exact this) ?_))))));refine YZ B.1 B.2.d.pi oo λW t H gc C P=>?_;have I:=B.2.d.pi
   have V:(saC t).length=20:=rD (by rw[C.eI];exact I.i6) (by rw[C.eL];exact I.l6) (by rw[C.eV];exact I.v6);have g:∀v∈saC t,v.oneCell'=true:=by
    intro v F;unfold saC at F;rw[C.gv]at F;simp only[oU,qU,oO,oR,or_false]at F;rcases F with((⟨_,_,rfl⟩|⟨_,_,rfl⟩)|⟨_,_,rfl⟩)|(rfl|rfl)<;>rfl
   have O:=ae P k k.lt;refine eW (n:=20) (vs:=saC t) kr V O dc g λw3 z3 T=>?_;rw[qY,oV,oS dc,oW]at z3;have aa:=m.size;refine ze (v:=.agg (saC t).toArray) (λ_ f=>ldA (n:=20) (vs:=saC t) underlying42 rfl kr z3 dTk V f) ?_
   exact up w3 i Y r fu t H gc o rfl E ((C.oth T (by have:=k.lt;omega)).base oo) (aD (tB m P) T oA)
end
def Zz:(Tryz.prog.info? 46).map (λi=>(i.zero,i.size,i.bytes))=some (some (.agg (akC ⟨0,0,0,0,0,0⟩).toArray),6,48):=by kernel_rfl
theorem QD(x:AK):(akC x).length=6:=rfl
def VP(x:AK):∀u∈akC x,u.oneCell'=true:=λu a=>by
 simp only[akC,oO,oR,or_false]at a;rcases a with rfl|rfl|rfl|rfl|rfl|rfl<;>rfl
def ldC{P:Program}{n:Nat}{d:TypeDesc}(f:P.underlying t=some d)(c:d.isRow=true)(hi:(P.info? t).map (·.size)=some n)(a:∀(j:Nat) v,vs[j]? = some v->w.cell? ⟨b,o+j,none⟩=some v)(e:vs.length=n)(h:K (.agg vs.toArray) w):ld P t (pA b o) K w :=
 UX (run_loadVar_mid w b o t vs d a f c (by rw[e];exact hi)) h
def Lf{p:Prop}(h:p):¬¬p:=λk=>k h
def z64:(0:Int)<=0/\(0:Int)<M64:=by decide
abbrev AKR(w:oG)(B:Nat)(a:Option Addr)(c:Nat)(L:List AK):Prop:=w.ownsRow B 46 6 (.slice a L.length c) L.length (L.flatMap akC)
def okLv(L:List AK):Prop:=∀x∈L,(x.k=5\/x.k=7)/\Cv x
def okLv.snoc{L:List AK}{x:AK}(h:okLv L)(b:(x.k=5\/x.k=7)/\Cv x):okLv (L++[x]):=λy a=>(oU.1 a).elim (h y) λa=>by rw[mS a];exact b
section
variable {B:Nat} {L:List AK}
def zg4{x:AK}(o:AKR w B a c L)(m:B<=w.heap.size)(D:L.length<=1000)(h:∀S d c',AKR S B d c' (L++[x])->Below B w S->(∀k E cs,blk w k E cs->E≠46->blk S k E cs)->K (.slice d (L++[x]).length c') S):bM Q 31 1 #[(0,.agg (akC x).toArray)] (λt=>blt Q .append #[31,31] 31 #[false,false] #[.slice a L.length c,t] K) w:=by
 obtain⟨F,g,j,i,f⟩:=info_parts Zz;refine nV [.agg (akC x).toArray] underlying31 (s:=6) kr kr oo rfl oB dc rfl (by
  intro v A;rw[mS A];simp[Value.cells,akC]) λq l e G=>?_
 have l:=cZ l
 have b:AKR q B a c L:=cn o λk z=>e.block k (jT o k z).2;refine wK (enc:=akC) (x:=x) underlying31 g j i f rfl oo QD b l (VP x) oo oo (qR m e.size) λd c' C p u r _=>?_;rw[show L.length+1=(L++[x]).length by simp]at p |-;exact h C d c' p ((e.mono m).trans r) λk E cs n y=>uz (ae e n n.lt) b y u
def zeW{y:ND}{i:Int}(z:y.A.length=54)(E:0<=y.id/\y.id<M64)(t:blk w b 3 [iv i])(R:blk w o 31 [.slice a L.length c])(S:blk w g 3 [iv r])(N:AKR w B a c L)(X:L.length<=500)(C:B<=w.heap.size)(D:B<=o)(ok:okLv L)(M:∀w' j c' L',blk w' b 3 [iv i]->blk w' o 31 [.slice j L'.length c']->blk w' g 3 [iv r]->AKR w' B j c' L'->L'.length<=L.length+1->okLv L'->Below B w w'->K (.tuple #[]) w'):call Q 211 #[.agg (ndC y).toArray,pB b,pB o,pB g] K w:=by
 refine aj (goK func211) (RG (bu λV p u Y=>?_));have p:=cZ p
 refine Zf (ldA (n:=54) (vs:=y.A.map iv) underlying81 rfl kr p (by show (y.A.map iv).take 54=_;rw[tL (by simp[z])]) (by simp[z]) ?_);refine lK (v:=iv i) (ae u t t.lt) rfl (Jf z λO I=>cH ?_);have d:=tB u I;have W:=ae I p p.lt;have l:AKR O B a c L:=cn N λk U=>d.block k (jT N k U).2;have h:=ae d t t.lt
 have e:=ae d R R.lt;have f:=ae d S S.lt;generalize (if bB i then Ik y.A (i-1).toNat else 0)=v;by_cases J:(0:Int)<v
 .refine ay J (lK (v:=.slice a L.length c) e rfl (SH (lK (v:=u6 y.id) W rfl (lK (v:=iv r) f rfl (Vf ?_)))));generalize (if (1125899906842624:Int)<v then (1125899906842624:Int)else v)=m;refine ck (vs:=akC (AK.mk 5 y.id r m 0 0)) kr (zg4 (x:=AK.mk 5 y.id r m 0 0) l (qR C d.size) oo λZ j c' G T F=>?_);have q:=F _ _ _ e dc
  refine cq kf q oB rfl λP H s=>?_;have H:blk P o 31 [.slice j (L++[AK.mk 5 y.id r m 0 0]).length c']:=H
  refine M P j c' _ (s.blk (F _ _ _ h dc) (h.ne e dc)) H (s.blk (F _ _ _ f dc) (f.ne e dc)) (Eo G q dc s) oB (okLv.snoc (x:=AK.mk 5 y.id r m 0 0) ok ⟨.inl rfl,E,z64,z64⟩) (aD ((d.mono C).trans T) s D)
 .exact ax J (M O a c L h e f l oo ok (d.mono C))
def zfp{b:STA}{i:Int}(p:SK w b)(Y:∀y∈b.nodes,0<=y.id/\y.id<M64)(am:b.nodes.length<=60)(no:nX w (K (.tuple #[cN,ci 10])))(ag:∀w' a c L,okLv L->L.length<=61->AKR w' w.heap.size a c L->Below w.heap.size w w'->K (.tuple #[.slice a L.length c,ci 0]) w'):call Q 194 #[.agg (saC b).toArray,iv i,iv r] K w:=by
 have hn:=p.nr;have H:=p.len;refine aj (goK func194) (Vd (bu λw1 C b1 s1=>bu λw2 P b2 s2=>bu λw3 R U s3=>?_));have C:=cZ C
 have P:blk w2 w1.heap.size 3 [iv i]:=by simpa[Value.cells,iv]using P
 have R:blk w3 w2.heap.size 3 [iv r]:=by simpa[Value.cells,iv]using R
 have g:=tB b2 U;have o:=tB b1 g;refine ldA (n:=20) (vs:=saC b) underlying42 rfl kr (ae g C C.lt) dTk H ?_;refine zds (p.bel o oA) λA la lc lo N=>?_;have ao:(mT b.I b.L 6).length<=6:=Tb _ _ 6;have e:=tB o N;have m:=ae N R R.lt;have l:=ae (tB U N) P P.lt;have M:=ae (tB g N) C C.lt
 refine lK (v:=iv i) l rfl (zbZ lo rfl oo (bc ?_));by_cases h1:i∈mT b.I b.L 6
 rotate_left
 .rw[qE h1];exact iH (cA (iH (cA (aV (no A e)))))
 rw[qF h1];refine fF (lK (v:=iv r) m rfl (zbZ lo rfl oo (bc (bZ ?_))));by_cases h2:r∈mT b.I b.L 6
 rotate_left
 .rw[qE h2];exact iH (cA (aV (no A e)))
 rw[qF h2];refine fF (lK (v:=iv i) l rfl (lK (v:=iv r) m rfl (aT (bZ ?_))));by_cases h3:i=r
 .exact ay h3 (no A e)
 refine ax h3 (bO (z:=.slice none 0 0) kr λw5 z5 O s5=>RH ?_);have z5:=cZ z5
 have T:=tB e O;have ah:=ae O M M.lt;have X:=Et (t:=b) p.i6 p.l6 p.v6;have aa:w.heap.size<=A.heap.size:=e.size;refine pZ (lK (v:=.slice b.na b.nodes.length b.nc) ah X (bv underlying39 ?_))
 refine RJ (Inv:=λu J=>∃(q:Nat) (a:Option Addr) (c:Nat) (L:List AK),u=ci (q:Nat)/\q<=b.nodes.length/\blk J w1.heap.size 3 [iv i]/\blk J A.heap.size 31 [.slice a L.length c]/\blk J w2.heap.size 3 [iv r]/\AKR J w.heap.size a c L/\L.length<=q/\okLv L/\Below w.heap.size w J) (μ:=mU b.nodes.length)
  ⟨0,none,0,[],rfl,qG _,ae O l l.lt,z5,ae O m m.lt,⟨rfl,.inl ⟨rfl,rfl⟩⟩,Nat.le_refl _,(λx a=>by cases a),T⟩ ?_
 rintro _ dd w6 mu ⟨q,a,c,L,rfl,hq,zi,zl,zt,ro,hL,ok,D⟩ Z;refine aL ?_;by_cases h:q<b.nodes.length
 .have hy:b.nodes[q]? = some b.nodes[q]:=gE h;have G:=Y _ (List.getElem_mem h);have d:=hn.A54 _ (List.getElem_mem h);generalize b.nodes[q]=y at hy G d;obtain⟨nb,ab,E⟩:=hn.some_ oo;refine ay oo ?_;rw[E];refine fQ underlying39 (s:=56) kf oo oo ?_;rw[oQ]
  refine ldC (n:=56) (vs:=ndC y) underlying83 rfl kr (λj v a=>(hn.bel D oA).cell q y hy nb ab E j v a) (Hy d) ?_;refine bO (z:=.agg (ndE ⟨0,0,z54⟩).toArray) kr λw7 z7 V s7=>?_;have z7:=cZ z7
  refine eW (n:=56) (vs:=ndC y) kr (Hy d) z7 (by rw[Cp];omega) (by rw[<-Vi d];exact WC y) λw8 z8 o8=>?_;rw[qY,oV,oS (by rw[Cp];omega),oW]at z8;have f:=aD V o8 oA;have F:=D.size;refine ldA (n:=56) (vs:=ndC y) underlying83 rfl kr z8 (dTk (by rw[Hy d];omega)) (Hy d) ?_
  refine bS rfl (zeW (B:=w.heap.size) d G (ae f zi zi.lt) (ae f zl zl.lt) (ae f zt zt.lt) (cn ro λk a=>f.block k (jT ro k a).2) oo (qR F f.size) aa ok λw9 S W L' ai ak al ad an ac b9=>?_);exact aR oo oo ⟨⟨q+1,S,W,L',ivS,h,ai,ak,al,ad,by omega,ac,(D.trans (f.mono F)).trans b9⟩,mD Z⟩
 .refine ax oo (RK (lK (v:=.slice a L.length c) zl rfl (ck (vs:=akC (AK.mk 7 0 0 0 0 0)) kr (zg4 (x:=AK.mk 7 0 0 0 0 0) ro D.size oo λw7 S W af V _=>?_))));exact ag w7 S W _ (okLv.snoc (x:=AK.mk 7 0 0 0 0 0) ok ⟨.inr rfl,z64,z64,z64⟩) (by simp;omega) af (D.trans V)
end
def PI.idb{l:PL}(b:PI l):∀x∈l.N,0<=x.id/\x.id<M64:=λx c=>by
 obtain⟨o,q,d,e,f,g,a,_⟩:=b.ids x c;rw[a];simp only[M40,M64]at *;omega
section
variable {B0 n t:Nat}{Z:List Nat}{c:CX}{s:STP}{v:oF}
def zeC(h:CM w B0 n b Z c)(hb:b<=20000)(hw:s.who=(i:Int)+1)(hi:i<6)(f:∀w' c' y,SP c c'->CM w' B0 n (b+64) Z c'->CS w w' B0 Z->K (anV evZ y) w'):call Q 182 #[pB c.p,.agg (stC s v).toArray] K w:=by
 refine aj (goK func182) (HJ (h.pro λw1 l g h1 s1 n4 ne z3 z4=>KQ z3 (Rh hw hi λw2 U=>?_)));have h2:=h1.below U;have s2:=s1.trans ((h1.csb U).sub sub2);have ag:=ae U z4 z4.lt;have av:=ae U z3 z3.lt;refine zan h2 hi (bc ?_);cases hX:c.X i with
 | dn p u A L=>exact aV (h2.fin ag rfl n4 ne λa V b=>f a c 8 .refl (V.le oo) (s2.trans b))
 | up Y r fu =>
  refine aA ?_;have bd:=bDr w2;have hd:=h2.below bd;have sd:=s2.trans ((h2.csb bd).sub sub2);have ai:=ag.drew;have S:=av.drew;have hs:=hd.st i hi;have sz:=hd.sz i hi;rw[hX]at hs sz;have sz:r.A.length<=b:=sz;have hG:=hs.2.G;have hp:=hs.2.d.pi;refine aw (λy=>blk y l 49 (stC s v)/\blk y c.p 72 (kH n c.np c.X c.now)) ⟨S,hd.cb⟩ ?_
  refine hZ (hW yP (ac (v:=pB Y.u) (λy d _ f=>lK d.2 (by have:=(yF (n:=n) (np:=c.np) (X:=c.X) (now:=c.now) hi).2;rw[hX]at this;exact this) f) ?_));refine hW wQ (ac (v:=iv s.who) (λy d _ f=>lK d.1 rfl f) (hW Zj (ac (v:=iv s.j) (λy d _ f=>lK d.1 rfl f) ?_)));refine YZ hs.1 hp oo λw3 st ga gc so b3=>aB ⟨ae b3 S S.lt,(hd.below b3).cb⟩ ?_;have V:=hd.below b3
  have s3:=sd.trans ((hd.csb b3).sub sub2);have E:=ae b3 ai ai.lt;refine zfp (so.sk hp) (by rw[so.eN];exact hp.idb) (by rw[so.eN];have:=hp.len30;omega) (λM N=>?_) λM a pc L ok aC ro N=>?_
  .refine hRT (hE2 ((xj (aZ (ay dc ?_)))));exact(V.below N).fin (ae N E E.lt) rfl n4 ne λw5 W s5=>f w5 c 10 .refl (W.le oo) ((s3.trans ((V.csb N).sub sub2)).trans s5)
  have am:∀k∈rwB a,w3.heap.size<=k/\k<M.heap.size:=λk hk=>jT ro k (wi hk ro);have h4:CM M B0 n b (rwB a++g::l::Z) c:=V.newL N λt o=>(oU.1 o).elim (λo=>.inr (am t o)) .inl;have s4:=s3.trans ((V.csb N).sub sub2);have ah:=ae N E E.lt;have H:∀t∈Z,t∈rwB a++g::l::Z:=λt o=>List.mem_append_right _ (sub2 t o)
  have I:∀t∈g::l::Z,t∈rwB a++g::l::Z:=λt o=>List.mem_append_right _ o;refine hRT (hE2 ((xj (aZ (ax dc (bv underlying31 ?_))))));refine FC (Inv:=λu d=>∃(q:Nat) (c':CX),u=ci (q:Nat)/\q<=L.length/\CM d B0 n (b+q) (rwB a++g::l::Z) c'/\SP c c'/\(∃Y s fu,c'.X i=.up Y s fu)/\CS M d B0 (rwB a++g::l::Z)) (μ:=mU L.length)
   ⟨0,c,rfl,qG _,h4,.refl,⟨_,_,_,hX⟩,⟨jU _ _,λ_ _=>rfl⟩⟩ ?_
  rintro _ dd w5 mu ⟨q,B,rfl,hq,W,D,⟨Y1,r1,az,P⟩,s5⟩ ak;have T:=s5.blk (List.mem_append_right _ oL) ah;have ao:=s4.trans (s5.sub H);refine aL ?_;by_cases R:q<L.length
  rotate_left
  .exact ax oo (FD ((W.sub I).fin T rfl n4 ne λa b c=>f a B 0 D (b.le oo) (ao.trans c)))
  have hx:L[q]? = some L[q]:=gE R;have C:=ok _ (List.getElem_mem R);generalize L[q]=x at hx C;have an:AKR w5 w3.heap.size a pc L:=cn ro λk hk=>s5.z k (List.mem_append_left _ (xJ hk));refine ay oo (BE (i:=q) (enc:=akC) (s:=6) (L:=L) (x:=x) underlying31 kf underlying46 rfl kr QD an rfl hx λ_=>?_)
  refine bO (z:=.agg (akC ⟨0,0,0,0,0,0⟩).toArray) kr λw6 z6 b6 l6=>?_;have z6:=cZ z6
  refine eW (n:=6) (vs:=akC x) kr rfl z6 dc (VP x) λw7 z7 o7=>?_;have z7:blk w7 w5.heap.size 46 (akC x):=z7;have O:=(aD b6 o7 oA).drew;have F:=W.below O;have k7:CS M w7.drew B0 (rwB a++g::l::Z):=s5.trans (W.csb O);have aE:=ae O T T.lt;have ab:=D.p;rw[<-ab]
  refine aw (λy=>blk y w5.heap.size 46 (akC x)/\blk y B.p 72 (kH n B.np B.X B.now)) ⟨z7.drew,F.cb⟩ ?_;refine hZ (hW yP (ac (v:=pB Y1.u) (λy d _ f=>lK d.2 (by have:=(yF (n:=n) (np:=B.np) (X:=B.X) (now:=B.now) hi).2;rw[P]at this;exact this) f) ?_));refine ac (v:=.agg (akC x).toArray) (λy d _ f=>JT d.1 f) (hZ (hW BM (ac (v:=u6 B.now) (λy d _ f=>lK d.2 rfl f) ?_)))
  have J:∀{w5:oG} {c':CX} {e:EV} {y:Int} {m:Nat},AskR i x B c' e y->CM w5 B0 n (b+q+1) (m::(rwB a++g::l::Z)) c'->CS M w5 B0 (rwB a++g::l::Z)->blk w5 m 54 (evC evZ)->m∉rwB a++g::l::Z ->
    sto Q 54 (pB m) (evV e) (λ_=>aX (λ_=>True) λ_=>bT .neq 26 (ci y) (ci 0) λd w=>cond d (call Q 23 #[ci y] (λa=>sto Q 56 (pB g) a λ_=>aY Q [(some 56,pB g)] K) w) (nC (ci (q:Nat)) (λd w=>(∃(q:Nat) (c':CX),d=ci (q:Nat)/\q<=L.length/\CM w B0 n (b+q) (rwB a++g::l::Z) c'/\SP c c'/\(∃Y s fu,c'.X i=.up Y s fu)/\CS M w B0 (rwB a++g::l::Z))/\L.length-(intOf d).toNat<mu) w)) w5:=λ{w5 c' e y m} ha hm sm zm al=>by
   refine eX (e':=e) zm λw6 z6 o6=>aB trivial (aZ ?_);have m0:=(hm.own m oL).2.1;obtain⟨ad,au⟩:=ha.sp W hi C.1;have h6:=(hm.othE o6 oL zm dc).sub (Z':=rwB a++g::l::Z) λt o=>oH _ o;have s6:CS M w6 B0 (rwB a++g::l::Z):=sm.trans ⟨aD (jU _ w5) o6 m0,λt o=>o6.other t λe=>al (e ▸ o)⟩;by_cases hy:y=0
   .exact ax (Lf hy) (aR oo oo ⟨⟨q+1,c',ivS,R,h6,D.trans ad,au oo,s6⟩,mD ak⟩)
   .exact ay hy ((h6.sub I).fin (s6.blk (List.mem_append_right _ oL) ah) rfl n4 ne λa F b=>f a c' y (D.trans ad) (F.le oo) ((s4.trans (s6.sub H)).trans b))
  have aa:∀{y:oG} {c2:CX} {U:Nat},CM y B0 n U (rwB a++g::l::Z) c2->y.heap.size∉rwB a++g::l::Z:=λhm hh=>by have:=(hm.own _ hh).1;omega
  refine⟨?_,?_⟩
  .refine F.do_ hi oo P C.2 λw8 c' e y ha h8 s8=>?_;refine hRT (hE2 ((il λw9 m9 b9 l9=>aB trivial ?_)));exact J ha (h8.new b9 oA m9.lt) ((k7.trans s8).trans (h8.csb b9)) m9 (aa h8)
  .refine il λw8 m8 b8 l8=>aB ⟨ae b8 z7.drew z7.drew.lt,(F.below b8).cb⟩ ?_;have h8:=F.new b8 oA m8.lt;refine h8.do_ hi oo P C.2 λw9 c' e y ha h9 s9=>?_;refine hRT (hE2 (?_));exact J ha h9 ((k7.trans (F.csb b8)).trans (s9.sub λ_ h=>oH _ h)) (s9.blk oL m8) (aa F)
end
end
end
end Go.Proofs.YtpaghmnnhedccaaGreatDoor
