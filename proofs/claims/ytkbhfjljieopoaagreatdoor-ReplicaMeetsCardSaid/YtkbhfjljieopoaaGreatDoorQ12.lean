import Derived.Test.YtkbhfjljieopoaaGreatDoorQ11
import Derived.Test.YtkbhfjljieopoaaGreatDoorQ6
import Derived.Test.YtkbhfjljieopoaaGreatDoorQ3
import Derived.Test.YtkbhfjljieopoaaGreatDoorMtF
import Derived.Test.YtkbhfjljieopoaaGreatDoorQ4
import Derived.Test.YtkbhfjljieopoaaGreatDoorRows
import Derived.WalkKit
import Derived.ProofKit
import Derived.OpenShut
import Derived.ShutString
import Derived.ChangeOld
import Derived.Below
import Derived.JoinedCond
import Derived.Deep.Matrix
import Derived.Deep.Slices
import Derived.Test.YtkbhfjljieopoaaGreatDoorQ10
namespace Go.Proofs.YtkbhfjljieopoaaGreatDoor
set_option maxRecDepth 100000
set_option maxHeartbeats 4000000
open Go.Proofs.Tryz
variable {w w' w0:World}{K:KV}{zf dd:Nat→Value}{b n c o k B i g p j m s z f d D gc c2 hi:Nat}{x r Y0 Z1:Int}{a av:Option Addr}{cs:List Value}{E t e:TypeId}{xs v:List Int}{T:List (Int×Int)}{F:List Nat}{X4:Nat→Int}{Y5 Z5 K6 W6 X6 Y6 Z6 u7 B7 K7 W7 X7 Y7 Z7 B8 K8 W8 X8 Y8 Z8 l9 n9 u9 B9 K9 W9 X9 Y9 Z9 ia ja ka qa ua xa ya:Value}
section
attribute [local irreducible] bin un conv call bY blt slc aT fld aV idx lkp dO gY eSt rng nxt ent ext alc box bld bT ld sto aU dE mkS ifc pick rdy wts aI sti cond bp Gives ae fh fT cOp
open Go.RowKit
structure AK where
 k:Int
 n:Int
 t:Int
 a:Int
 r:Int
 f:Int
def akC (x:AK):List Value:=[kv8 x.k,u6 x.n,iv x.t,iv x.a,u6 x.r,u6 x.f]
def mkE (i s:Int)(V:List Int)(x:AK):EV:=⟨i,s,V.getD 0 0,V.getD 1 0,V.getD 2 0,V.getD 3 0,V.getD 4 0,V.getD 5 0,x.k,x.n,x.t,x.a,x.r,x.f⟩
theorem NM {i s:Int}{V:List Int}{x:AK}(h:V.length=6):(mkE i s V x).V=V:=by
 obtain⟨_,_,_,_,_,_,rfl⟩:=rU h;rfl
theorem QW (h:K (.pointer (some ⟨b,o+0,none⟩)) w):aT Tryz.prog 33 (.pointer (some ⟨b,o,none⟩)) 0 K w:=aK (by kernel_rfl) h
theorem QX (h:K (.pointer (some ⟨b,o+1,none⟩)) w):aT Tryz.prog 33 (.pointer (some ⟨b,o,none⟩)) 1 K w:=aK (by kernel_rfl) h
theorem QY (h:K (.pointer (some ⟨b,o+2,none⟩)) w):aT Tryz.prog 33 (.pointer (some ⟨b,o,none⟩)) 2 K w:=aK (by kernel_rfl) h
theorem QZ (h:K (.pointer (some ⟨b,o+3,none⟩)) w):aT Tryz.prog 33 (.pointer (some ⟨b,o,none⟩)) 3 K w:=aK (by kernel_rfl) h
theorem Lw (h:K (.pointer (some ⟨b,o+4,none⟩)) w):aT Tryz.prog 33 (.pointer (some ⟨b,o,none⟩)) 4 K w:=aK (by kernel_rfl) h
theorem Bs (h:K (.pointer (some ⟨b,o+5,none⟩)) w):aT Tryz.prog 33 (.pointer (some ⟨b,o,none⟩)) 5 K w:=aK (by kernel_rfl) h
theorem nl (e:EV):jD Tryz.prog 6 54 (evC e)=true:=by kernel_rfl
section
variable {w:World}{K:KV}{x:AK}
theorem Ij (j:blk w b 33 (akC x))(h:K (.agg (akC x).toArray) w):ld Tryz.prog 33 (pB b) K w:=ldA (n:=6) (vs:=akC x) underlying33 rfl (by kernel_rfl) j rfl rfl h
theorem FM (h:∀w',blk w' w.heap.size 33 (akC x)→Below w.heap.size w w'→w'.heap.size=w.heap.size+1→K (pB w.heap.size) w'):box Tryz.prog 33 (.agg (akC x).toArray) K w:=cv fun w' j b s=>h w' (by simpa[Value.cells]using j) b s
theorem Kv {G:List GR}{f:Value}(U:w.ownsRow B 126 5 (.slice a n c) n (G.flatMap grC))(hl:G.length=n)(hn:n≤1000000)(hf:∀g (j:World) (K1:KV),Below w.heap.size w j→(∀I b,Below j.heap.size j I→K1 (.bool b) I)→bY Tryz.prog f #[.agg (grC g).toArray] K1 j)(h:∀w' (v:Int),(v<0∨∃k:Nat,v=(k:Nat)∧k<n)→Below w.heap.size w w'→K (iv v) w'):call Tryz.prog 134 #[.slice a n c,f] K w:=by
 refine aj (goK func134) (kG (bj underlying43 ?_));refine ku (Inv:=fun i wr=>∃k:Nat,i=iv (k:Nat)∧k≤n∧Below w.heap.size w wr) (μ:=fun i _=>n-(intOf i).toNat) ⟨0,rfl,Nat.zero_le _,Below.refl _ _⟩ ?_;rintro _ dd j mu ⟨k,rfl,O,b1⟩ J;refine aM ?_;by_cases C:k<n
 ·have hx:G[k]? = some G[k]:=List.getElem?_eq_getElem (by omega);generalize G[k]=g at hx;have M:=cJ U (w':=j) fun k O=>b1.block k (World.ownsRow.lt U k O).2;refine ax (by omega) (Ge (i:=k) (enc:=grC) (s:=5) (L:=G) (x:=g) underlying43 (fun _=>by kernel_rfl) underlying126 rfl (by kernel_rfl) iI M hl hx fun _=>hf g j _ b1 fun I b b2=>?_);have u:=b1.trans (b2.mono b1.size);cases b with
  | true=>exact bu (h I k (.inr ⟨k,rfl,C⟩) u)
  | false =>
   refine aO (aW (by omega) (by omega) ⟨⟨k+1,congrArg iv (by push_cast;rfl),C,u⟩,?_⟩);rw[J];show n-((k:Int)+1).toNat<n-(k:Int).toNat;omega
 ·exact aq (by omega) (kw (h j (-1) (.inl (by omega)) b1))
theorem EC {g:GR}{i:Int}(hi:blk w n 3 [iv i])(J:blk w c 33 (akC x))(h:∀w' b,Below w.heap.size w w'→K (.bool b) w'):call Tryz.prog 135 #[.agg (grC g).toArray,pB n,pB c] K w:=by
 refine aj (goK func135) (xP (cv fun I u b1 O=>?_));have u:blk I w.heap.size 126 (grC g):=by simpa[Value.cells]using u
 have M:=ac b1 hi hi.lt;have a1:=ac b1 J J.lt;refine wA (lK (v:=iv g.o) u rfl (lK (v:=iv i) M rfl (cA ?_)));by_cases j:g.o=i
 ·refine dD j (CX (lK (v:=u6 g.q) u rfl (Lw (lK (v:=u6 x.r) a1 rfl (cA ?_)))));by_cases C:g.q=x.r
  ·exact jy C (dD j (bO C (bO j (h I true b1))))
  ·refine dX C (GP (lK (v:=u6 g.b) u rfl (Lw (lK (v:=u6 x.r) a1 rfl (cA ?_)))));exact dD j (bw C (bO j (h I _ b1)))
 ·exact dY j (Cm (by simp[asB,gd,undef]) (dY j (bw j (h I false b1))))
theorem xK {b q:Bool}(M:K (.tuple #[cT,ci 14]) w)(J:K (.tuple #[cT,ci 0]) w):un Tryz.prog .not (.bool b) (fun h w=>aI h true (fun u=>un Tryz.prog .not (.bool q) (fun C=>u [.bool q,C]) w) (fun k=>k [uu,uu] w) fun j=>pick h (gd j 1) cF fun I w=>cond I (K (.tuple #[cT,ci 14]) w) (K (.tuple #[cT,ci 0]) w)) w:=by
 cases b with
 | true=>exact dB (mE (dA (aO J)))
 | false =>
  refine dB (kS (dB (bX ?_)));cases q with
  | true=>exact aO J
  | false=>exact bu M
theorem xi {b:Bool}{g:GR}(J:blk w n 126 (grC g))(I:blk w c 33 (akC x))(M:X6=pB c)(O:u7=pB n)(U:B7=.bool b)(u:K (.tuple #[cT,ci 14]) w)(C:K (.tuple #[cT,ci 0]) w):kc K ((rX Y5 Z5 K6 W6 X6 Y6 Z6 u7 B7 K7 W7 X7 Y7 Z7 B8 K8 W8 X8 Y8 Z8 l9 n9 u9 B9 K9 W9 X9 Y9 Z9 ia ja ka qa ua xa ya zf)) w:=by
 subst M O U;refine xT (QW (lK (v:=kv8 x.k) I rfl (cA ?_)));by_cases h:x.k=4
 ·refine dD h (GP (lK (v:=u6 g.b) J rfl (Lw (lK (v:=u6 x.r) I rfl (cA (bO h ?_))))));by_cases j:g.b=x.r
  ·refine dD j (CX (lK (v:=u6 g.q) J rfl (Bs (lK (v:=u6 x.f) I rfl (cA (bO j ?_))))));exact xK u C
  ·exact dY j (bw j (xK (q:=false) u C))
 ·exact dY h (bw h (mE (dA (xK (q:=false) u C))))
theorem AY {s:PL}{t:STA}{v:Int}(u:SO w B s t a gc)(hi:PI s)(hs:blk w c 45 (saC t))(ha:blk w o 33 (akC x))(O:v<0∨∃k:Nat,v=(k:Nat)∧k<s.G.length)(hG:s.G.length≤1000000)(e1:K6=pB c)(e2:X6=pB o)(e3:Z6=iv v)(h:∀w' b e,Below w.heap.size w w'→K (.tuple #[.bool b,ci e]) w'):AH K ((rX Y5 Z5 K6 W6 X6 Y6 Z6 u7 B7 K7 W7 X7 Y7 Z7 B8 K8 W8 X8 Y8 Z8 l9 n9 u9 B9 K9 W9 X9 Y9 Z9 ia ja ka qa ua xa ya zf)) w:=by
 subst e1 e2 e3;refine xR (aM ?_);rcases O with O|⟨k,rfl,hk⟩
 ·exact ax O (h w false 0 (Below.refl _ _))
 have M:(saC t)[19]? = some (.slice a s.G.length gc):=by
  rw[←u.gv];exact Oc (by rw[u.eI];exact hi.i6) (by rw[u.eL];exact hi.l6) (by rw[u.eV];exact hi.v6)
 have hx:s.G[k]? = some s.G[k]:=List.getElem?_eq_getElem hk;generalize s.G[k]=g at hx;refine aq (by omega) (fj (lK (v:=.slice a s.G.length gc) hs M ?_));refine Ge (i:=k) (enc:=grC) (s:=5) (L:=s.G) (x:=g) underlying43 (fun _=>by kernel_rfl) underlying126 rfl (by kernel_rfl) iI u.gr rfl hx fun _=>?_;refine dZ (z:=.agg (grC ⟨0,0,0,0,0⟩).toArray) (by kernel_rfl) fun w1 U b1 s1=>?_
 have U:blk w1 w.heap.size 126 (grC ⟨0,0,0,0,0⟩):=by simpa[Value.cells]using U
 refine jP (n:=5) (vs:=grC g) (by kernel_rfl) rfl U (by show 0+5≤5;omega) (rJ _) fun w2 z2 o2=>?_;have z2:blk w2 w.heap.size 126 (grC g):=z2;have j:Below w.heap.size w w2:=bv b1 o2 (Nat.le_refl _);have Z5:=ac j ha ha.lt;refine QW (lK (v:=kv8 x.k) Z5 rfl (cA ?_));by_cases C:x.k=3
 ·refine dD C (CX (lK (v:=u6 g.q) z2 rfl (Lw (lK (v:=u6 x.r) Z5 rfl (cA (bO C ?_))))));by_cases I:g.q=x.r
  ·refine dD I (Lx (lK (v:=u6 g.n) z2 rfl (QX (lK (v:=u6 x.n) Z5 rfl (cA (bO I ?_))))));by_cases J:g.n=x.n
   ·refine dD J (Ly (lK (v:=iv g.a) z2 rfl (QZ (lK (v:=iv x.a) Z5 rfl (cA (bO J ?_))))));exact xi z2 Z5 rfl rfl rfl (h _ _ _ j) (h _ _ _ j)
   ·exact dY J (bw J (xi z2 Z5 rfl rfl (b:=false) rfl (h _ _ _ j) (h _ _ _ j)))
  ·exact dY I (bw I (mE (dA (xi z2 Z5 rfl rfl (b:=false) rfl (h _ _ _ j) (h _ _ _ j)))))
 ·exact dY C (bw C (mE (dA (mE (dA (xi z2 Z5 rfl rfl (b:=false) rfl (h _ _ _ j) (h _ _ _ j)))))))
theorem SR {s:PL}{t:STA}{i:Int}(so:SO w B s t a gc)(hi:PI s)(hG:s.G.length≤1000000)(h:∀w' b e,(x.r=0→b=false)→Below w.heap.size w w'→K (.tuple #[.bool b,ci e]) w'):call Tryz.prog 94 #[.agg (saC t).toArray,iv i,.agg (akC x).toArray] K w:=by
 refine aj (goK func94) (HH (cv fun w1 I b1 s1=>cv fun w2 z2 b2 s2=>FM fun w3 z3 b3 s3=>?_));have I:blk w1 w.heap.size 45 (saC t):=by simpa[Value.cells]using I
 have z2:blk w2 w1.heap.size 3 [iv i]:=z2;have O:Below w1.heap.size w1 w3:=b2.trans (b3.mono (by omega));have u:=b1.trans (O.mono b1.size);have I:=ac O I I.lt;have z2:=ac b3 z2 z2.lt;have J:=so.fresh u;have U:(saC t)[19]? = some (.slice a s.G.length gc):=by
  rw[←so.gv];exact Oc (by rw[so.eI];exact hi.i6) (by rw[so.eL];exact hi.l6) (by rw[so.eV];exact hi.v6)
 have hq:∀{K1:KV},(∀w' (v:Int),(v<0∨∃k:Nat,v=(k:Nat)∧k<s.G.length)→Below w3.heap.size w3 w'→K1 (iv v) w')→call Tryz.prog 134 #[.slice a s.G.length gc,.func (.func 135) #[] #[pB w1.heap.size,pB w2.heap.size]] K1 w3:=fun hh =>
  Kv J.gr rfl hG (fun g M K4 j h4=>fM rfl (EC (ac j z2 z2.lt) (ac j z3 z3.lt) fun w5 b b5=>h4 w5 b b5)) hh
 have aa : ¬x.r=0→∀{M:World},Below w3.heap.size w3 M→(∀w' b e,Below M.heap.size M w'→K (.tuple #[.bool b,ci e]) w'):=fun C _ j w' b e b5=>h w' b e (fun h0=>absurd h0 C) ((u.trans (j.mono u.size)).trans (b5.mono (Nat.le_trans u.size j.size)));refine Lw (lK (v:=u6 x.r) z3 rfl (cA ?_));by_cases C:x.r=0
 ·exact jy C (Cm (by simp[asB,gd,undef]) (jy C (bO C (bu (h w3 false 0 (fun _=>rfl) u)))))
 refine dX C (QW (lK (v:=kv8 x.k) z3 rfl (bN ?_)));by_cases k3:x.k≠3
 ·refine dD k3 (QW (lK (v:=kv8 x.k) z3 rfl (bN (dX C (bO k3 (bw C ?_))))));by_cases k4:x.k≠4
  ·exact ax k4 (h w3 false 0 (fun _=>rfl) u)
  ·refine aq k4 (fj (lK (v:=.slice a s.G.length gc) I U (hq fun M v hv j=>?_)));exact AY (J.fresh j) hi (ac j I I.lt) (ac j z3 z3.lt) hv hG rfl rfl rfl (aa C j)
 ·refine dY k3 (dX C (bw k3 (bw C (aO (fj (lK (v:=.slice a s.G.length gc) I U (hq fun M v hv j=>?_)))))));exact AY (J.fresh j) hi (ac j I I.lt) (ac j z3 z3.lt) hv hG rfl rfl rfl (aa C j)
theorem Uq {V:List Int}(C:V.length=6)(hi:i<6)(j:0≤V.getD i 0∧V.getD i 0<M40)(h:∀w',Below w.heap.size w w'→K (.tuple #[u6 (V.getD i 0+1),ci 0]) w'):call Tryz.prog 136 #[.agg (vCs V).toArray,iv ((i:Int)+1)] K w:=by
 refine aj (goK func136) (Kf (uA C fun I u b1 J=>?_));refine Oj (dB ?_);rw[show bK ((i:Int)+1)=true by unfold bK;simp;omega];have c:(vCs V)[0+i]? = some (u6 (V.getD i 0)):=by
  rw[Nat.zero_add];unfold vCs;rw[List.getElem?_map,List.getD_eq_getElem?_getD,List.getElem?_eq_getElem (by omega)];rfl
 refine aO (bh (by omega) (by omega) ?_);rw[show (i:Int)+1-1=(i:Nat)by omega];refine ixV (k:=i) rfl hi (lK (v:=u6 (V.getD i 0)) u c (bM (aq (by unfold M40 at j;omega) ?_)));refine bh (by omega) (by omega) ?_;rw[show (i:Int)+1-1=(i:Nat)by omega];refine ixV (k:=i) rfl hi (lK (v:=u6 (V.getD i 0)) u c (jS ?_));rw[gF,show (V.getD i 0+1)%18446744073709551616=V.getD i 0+1 by unfold M40 at j;omega]
 exact h I b1
theorem Vs {q:LB}{s:PL}{e:EV}(h:PM w q s)(hi:PI s)(u:∀w',Below w.heap.size w w'→K (ci (np e s)) w'):call Tryz.prog 139 #[pB q.p,evV e] K w:=by
 refine aj (goK func139) (BP (xj fun O C b1 M=>gB C ?_));refine Mt (h.below b1) hi (fun j _ b2=>cZ (db (u j (b1.trans (b2.mono b1.size))))) fun I j J b2 _=>cZ (db ?_)
 have:=u j (b1.trans (b2.mono b1.size))
 rwa[I]at this
theorem Vh {i s:Int}{V:List Int}(hV:V.length=6)(hi:blk w b 3 [iv i])(hs:blk w c 31 [u6 s])(hk:blk w o 35 (vCs V))(h:∀w',Below w.heap.size w w'→K (evV (mkE i s V x)) w'):call Tryz.prog 137 #[.agg (akC x).toArray,.func (.func 138) #[] #[pB b,pB c,pB o]] K w:=by
 obtain⟨J,M,O,U,v4,v5,rfl⟩:=rU hV;refine aj (goK func137) (KJ (FM fun w1 z1 b1 s1=>nG fun w2 t2 b2 s2=>?_));have z2:=ac b2 z1 z1.lt;refine QW (lK (v:=kv8 x.k) z2 rfl (QX (lK (v:=u6 x.n) z2 rfl (QY (lK (v:=iv x.t) z2 rfl (QZ (lK (v:=iv x.a) z2 rfl (Lw (lK (v:=u6 x.r) z2 rfl (Bs (lK (v:=u6 x.f) z2 rfl ?_)))))))))))
 refine eT (vs:=evC ⟨0,0,0,0,0,0,0,0,x.k,x.n,x.t,x.a,x.r,x.f⟩) (by kernel_rfl) (nG fun w3 e3 b3 s3=>?_);refine lj (e':=⟨0,0,0,0,0,0,0,0,x.k,x.n,x.t,x.a,x.r,x.f⟩) e3 fun w4 e4 o4=>?_;have u:Below w.heap.size w w4:=bv ((b1.trans (b2.mono (by omega))).trans (b3.mono (by omega))) o4 (by omega);have i4:=ac u hi hi.lt;have q4:=ac u hs hs.lt;have k4:=ac u hk hk.lt
 have t4:=o4.blk (ac b3 t2 t2.lt) (by omega);have li:=hi.lt;have ls:=hs.lt;have lk:=hk.lt;have z4:=o4.size;refine fM rfl (aj (goK func138) (If ?_));refine aw (fun y=>blk y b 3 [iv i]∧blk y c 31 [u6 s]∧blk y o 35 (vCs [J,M,O,U,v4,v5])) ⟨i4.drew,q4.drew,k4.drew⟩ ?_
 refine ab (v:=iv i) (fun y d _ j=>lK d.1 rfl j) (ab (v:=u6 s) (fun y d _ j=>lK d.2.1 rfl j) (ab (fun y d _ j=>pe rfl d.2.2 j) ?_));refine ab (fun y d _ j=>ai j) (ab (fun y d _ j=>bD j) ?_);refine eB (fun _=>by kernel_rfl) e4.drew (by show 0+0<14;omega) rfl fun w5 e5 C=>bR ⟨C.blk i4.drew (by omega),C.blk q4.drew (by omega),C.blk k4.drew (by omega)⟩ ?_
 have e5:blk w5 w2.heap.size 54 (evC ⟨i,0,0,0,0,0,0,0,x.k,x.n,x.t,x.a,x.r,x.f⟩):=e5;have i5:=C.blk i4.drew (by omega);have q5:=C.blk q4.drew (by omega);have k5:=C.blk k4.drew (by omega);refine ab (fun y d _ j=>ai j) (ab (fun y d _ j=>iZ j) ?_);refine eB (fun _=>by kernel_rfl) e5 (by show 0+1<14;omega) rfl fun w6 e6 I=>bR ⟨I.blk i5 (by omega),I.blk q5 (by omega),I.blk k5 (by omega)⟩ ?_
 have e6:blk w6 w2.heap.size 54 (evC ⟨i,s,0,0,0,0,0,0,x.k,x.n,x.t,x.a,x.r,x.f⟩):=e6;refine ab (fun y d _ j=>ai j) (ab (fun y d _ j=>qR j) ?_);refine jP (n:=6) (vs:=vCs [J,M,O,U,v4,v5]) (by kernel_rfl) rfl e6 (by show 0+2+6≤14;omega) CM fun w7 e7 o7=>?_;have e7:blk w7 w2.heap.size 54 (evC (mkE i s [J,M,O,U,v4,v5] x)):=e7
 have t7:=o7.blk (I.blk (C.blk t4.drew (by omega)) (by omega)) (by omega);refine gB e7 (lj (e':=mkE i s [J,M,O,U,v4,v5] x) t7 fun w8 t8 o8=>?_);exact vD (v:=evV (mkE i s [J,M,O,U,v4,v5] x)) (fun _ j=>gB t8 j) (h w8 (bv (bv (bv (bv u.drew C (by omega)) I (by omega)) o7 (by omega)) o8 (by omega)))
theorem Ix {q:Nat}{u:Value}{e:EV}(C:blk w q 54 (evC e))(h:K (.tuple #[evV e,u]) w):bp Tryz.prog [(some 54,.pointer (some ⟨q,0,none⟩)),(none,u)] K w:=CJ (v:=evV e) (fun _ j=>gB C j) h
def mkP (i:Nat)(s:PL)(x:AK):EV:=mkE ((i:Int)+1) (s.V.getD i 0+1) s.V x
theorem Vi {q:LB}{s:PL}(h:PM w q s)(hp:PI s)(hi:i<6)(no:∀w',np (mkP i s x) s≠0→Below w.heap.size w w'→K (.tuple #[evV evZ,ci (np (mkP i s x) s)]) w')(aS:∀w',np (mkP i s x) s=0→Below w.heap.size w w'→K (.tuple #[evV (mkP i s x),ci 0]) w'):call Tryz.prog 95 #[pB q.p,iv ((i:Int)+1),.agg (akC x).toArray] K w:=by
 refine aj (goK func95) (KI (cv fun w1 i1 b1 s1=>FM fun w2 z2 b2 s2=>nG fun w3 t3 b3 s3=>Ck (aO ?_)));have i1:blk w1 w.heap.size 3 [iv ((i:Int)+1)]:=i1;have O:=(b1.trans (b2.mono (by omega))).trans (b3.mono (by omega));refine AB (h.below O) fun w4 b4=>AN fun w5 k5 b5 s5=>yb (W:=s.V) rfl hp.v6 k5 fun w6 k6 o6=>?_;have al:=O.trans (b4.mono O.size);have z4:=b4.size;have z6:=o6.size
 have I:Below w4.heap.size w4 w6:=bv b5 o6 (Nat.le_refl _);have C:=al.trans (I.mono al.size);have i6:=ac I (ac b4 (ac b3 (ac b2 i1 i1.lt) (by omega)) (by omega)) (by omega);have a6:=ac I (ac b4 (ac b3 z2 z2.lt) (by omega)) (by omega);have t6:=ac I (ac b4 t3 t3.lt) (by omega);refine pe hp.v6 k6 (lK (v:=iv ((i:Int)+1)) i6 rfl (Uq hp.v6 hi (hp.vb i hi) fun w7 b7=>cZ (db ?_)))
 have k7:=ac b7 k6 k6.lt;have i7:=ac b7 i6 i6.lt;have a7:=ac b7 a6 a6.lt;have t7:=ac b7 t6 t6.lt;have z7:=b7.size;refine sE (x:=u6 0) (by kernel_rfl) rfl fun w8 q8 b8 s8=>eB (fun _=>by kernel_rfl) q8 (by simp) rfl fun w9 q9 o9=>?_;have q9:blk w9 w7.heap.size 31 [u6 (s.V.getD i 0+1)]:=q9;have u:Below w7.heap.size w7 w9:=bv b8 o9 (Nat.le_refl _);have k9:=ac u k7 k7.lt;have i9:=ac u i7 i7.lt
 have a9:=ac u a7 a7.lt;have t9:=ac u t7 t7.lt;have z9:=o9.size;refine cA (aq (by omega) (Ij a9 (Vh hp.v6 i9 q9 k9 fun a3 am=>nG fun a4 av ar a2=>lj (e':=mkP i s x) av fun w12 aa aE=>?_)));have a0:=am.size;have M:Below w9.heap.size w9 w12:=bv (am.trans (ar.mono a0)) aE (by omega)
 have j:=((C.trans (b7.mono C.size)).trans (u.mono (by have:=C.size;omega))).trans (M.mono (by have:=C.size;omega));have an:=ac M t9 t9.lt;refine Ig (gB aa (Vs (h.below j) hp fun a8 U=>bN ?_));have az:=ac U aa aa.lt;have ap:=ac U an an.lt;have J:=j.trans (U.mono j.size);by_cases h0:np (mkP i s x) s≠0
 ·refine ax h0 (eT (vs:=evC evZ) (by kernel_rfl) (lj (e':=evZ) ap fun ag af ad=>?_));exact Ix af (no ag h0 (bv J ad (by omega)))
 ·refine aq h0 (gB az (lj (e':=mkP i s x) ap fun ag af ad=>?_));exact Ix af (aS ag (Classical.not_not.1 h0) (bv J ad (by omega)))
theorem Qn {q:LB}{s:PL}(h:PM w q s)(hp:PI s)(hi:i<6)(hG:s.G.length≤1000000)(no:∀w' (e:Int),(x.r=0→np (mkP i s x) s≠0)→Below w.heap.size w w'→K (.tuple #[evV evZ,ci e]) w')(al:∀w',np (mkP i s x) s=0→PM w' q (eff (mkP i s x) s)→Ch q.wv w w'→K (.tuple #[evV (mkP i s x),ci 0]) w'):call Tryz.prog 57 #[pB q.p,iv ((i:Int)+1),.agg (akC x).toArray] K w:=by
 have ad:=h.lt;refine aj (goK func57) (KT (FM fun w1 z1 b1 s1=>nG fun w2 t2 b2 s2=>Ck (aO ?_)));have U:=b1.trans (b2.mono (by omega));have h2:=(h.below U).below (Below.refl _ w2).drew;have z2:=ac b2 z1 z1.lt;refine aw (fun y=>blk y w.heap.size 33 (akC x)) z2.drew (ab (fun y d _ C=>Ij d C) ?_);refine HG h2 hp hG fun w3 t ga gc so b3=>?_
 have M:Below w2.heap.size w2 w3:=(Below.refl _ w2).drew.trans b3;have z3:=ac M z2 z2.lt;have t3:=ac M t2 t2.lt;have aa:=U.trans (M.mono (by omega));refine bR z3 (SR so hp hG fun w4 ag e4 af b4=>?_);have z4:=ac b4 z3 z3.lt;have O:=ac b4 t3 t3.lt;have j:=aa.trans (b4.mono aa.size);have l2:=t2.lt;have l1:w.heap.size≤w1.heap.size:=by omega
 refine aw (fun _=>True) trivial (ab (fun y _ _ C=>cZ C) (ab (fun y _ _ C=>db C) ?_));cases ag with
 | true =>
  refine bu (gB O (lj (e':=evZ) O fun w5 t5 o5=>Ix t5 (no w5 e4 (fun h0=>by have:=af h0;cases this) (bv j o5 l1))))
 | false =>
 refine aO (Ij z4 (Vi (h.below j) hp hi (fun w5 he I=>cZ (db ?_)) fun w5 h0 I=>cZ (db ?_)))
 ·refine nG fun w6 x6 b6 s6=>lj (e':=evZ) x6 fun w7 x7 o7=>vl (bN (ax he ?_));have u:Below w4.heap.size w4 w7:=bv (I.trans (b6.mono I.size)) o7 I.size;have t7:=ac u O O.lt;exact gB t7 (lj (e':=evZ) t7 fun w8 t8 o8=>Ix t8 (no w8 _ (fun _=>he) (bv (j.trans (u.mono j.size)) o8 l1)))
 ·refine nG fun w6 x6 b6 s6=>lj (e':=mkP i s x) x6 fun w7 x7 o7=>vl (bN (aq (by simp) ?_));have u:Below w4.heap.size w4 w7:=bv (I.trans (b6.mono I.size)) o7 I.size;have J:=j.trans (u.mono j.size);have h7:=(h.below J).below (Below.refl _ w7).drew;have t7:=ac u O O.lt;have s7:=J.size;have s5:=I.size
  refine aw (fun y=>blk y w5.heap.size 54 (evC (mkP i s x))) x7.drew (ab (fun y d _ C=>gB d C) (ab (fun y d _ C=>gB d C) ?_));refine Mn h7 hp fun w8 p8 c8=>?_;rw[h0];rw[show jL (mkP i s x) s=eff (mkP i s x) s by unfold jL;rw[if_pos h0]]at p8;have hn:∀k,w.heap.size≤k→k∉q.wv:=fun k hk hh=>by have:=ad k (LB.wl k hh);omega
  have an:=u.size;have am:=j.size;have x8:=x7.drew.ch c8 (hn _ (by omega));have t8:=t7.drew.ch c8 (hn _ (by omega));refine bR x8 (lj (e':=mkP i s x) t8 fun w9 t9 o9=>aw (fun _=>True) trivial (Ix t9 (al w9 h0 (p8.oth o9 fun hh=>by have:=ad _ hh;omega) ?_)));exact((Ch.of_below J.drew:Ch q.wv w w7.drew).trans c8 fun y hy=>.inl hy).add (bv (Below.refl _ w8) o9 (by omega))
end
theorem PI.nle {s:PL}(h:PI s):s.N.length≤30:=by
 rw[JE fun x I=>by
  obtain⟨o,q,a1,j,u,C,a5,_⟩:=h.ids x I;exact⟨o,q,a1,j,u,C,a5⟩]
 have J:=h.own 1;have M:=h.own 2;have O:=h.own 3;have U:=h.own 4;have h5:=h.own 5;have h6:=h.own 6;omega
def nk (s:PL)(i node:Int):Int:=if bK i=true then JA (aN s.N node) (i-1).toNat else 0
theorem Gw {A:List Int}(j:k<6):0≤JA A k:=by
 rw[Rn A j];cases h:jj A with
 | false=>exact Int.le_refl _
 | true =>
  unfold jj at h;simp only[Bool.and_eq_true,List.all_eq_true,List.mem_range,decide_eq_true_eq]at h;exact h.1.2 k j
theorem GZ {s:PL}{i node:Int}:0≤nk s i node:=by
 unfold nk;split
 ·rename_i h;unfold bK at h;simp only[Bool.and_eq_true,decide_eq_true_eq]at h;exact Gw (by omega)
 ·exact Int.le_refl _
theorem Bt (h:K (.pointer (some ⟨b,o+0,none⟩)) w):aT Tryz.prog 52 (.pointer (some ⟨b,o,none⟩)) 0 K w:=aK (by kernel_rfl) h
theorem ET (h:K (.pointer (some ⟨b,o+2,none⟩)) w):aT Tryz.prog 52 (.pointer (some ⟨b,o,none⟩)) 2 K w:=aK (by kernel_rfl) h
section
variable {w:World}{K:KV}{q:LB}{s:PL}
theorem Lq {L:List Int}{K2:Value→KV}(U:w.ownsRow B 31 1 (.slice a n c) n (L.map u6))(O:L.length=n)(J:L[j]? = some x)(h:∀u,K2 u (u6 x) w):aV Tryz.prog 120 (.slice a n c) (iv (j:Nat)) (fun u w=>ld Tryz.prog 31 u (K2 u) w) w:=by
 have hj:j<n:=by rw[←O];exact(List.getElem?_eq_some_iff.1 J).1
 obtain⟨g,C,rfl,M⟩:=cq U (by omega);refine dJ underlying120 (s:=1) (fun _=>by kernel_rfl) (by omega) (by omega) ?_;rw[Int.toNat_natCast];refine lK (v:=u6 x) M.blk ?_ (h _);have I:(C.take (n*1))[j]? = some (u6 x):=by rw[M.take,List.getElem?_map,J];rfl
 rw[List.getElem?_take_of_lt (by omega)]at I;rw[Nat.zero_add,Nat.mul_one];exact I
theorem Lb {i node:Int}(h:PM w q s)(hi:PI s)(hK:∀w' a b,Below w.heap.size w w'→K (.tuple #[u6 a,iv b]) w'):call Tryz.prog 27 #[pB q.p,iv i,u6 node,iv x] K w:=by
 obtain⟨rk,O⟩:=hi.tk;have hn:=hi.nle;refine aj (goK func27) (AR (aj (goK func59) (wP (Ck (aO (ai (wF (lK (v:=pB q.t) h.b (by rw[Nat.zero_add];exact h.c18) (Kb O h.tm (by unfold tr;rw[List.length_map];omega) fun w1 a c U b1=>bj underlying120 ?_)))))))));have M:(dh (tr s.N) node).length≤(tr s.N).length+1:=Mq _ _;have ad:(tr s.N).length=s.N.length:=by unfold tr;rw[List.length_map]
 generalize dh (tr s.N) node=P at U M ⊢;refine yP (Inv:=fun j wr=>∃k:Nat,j=iv (k:Nat)∧k≤P.length∧Below w1.heap.size w1 wr) (μ:=fun j _=>P.length-(intOf j).toNat) ⟨0,rfl,Nat.zero_le _,Below.refl _ _⟩ ?_;rintro _ dd w2 mu ⟨k,rfl,hk,b2⟩ J;have u:=b1.trans (b2.mono b1.size);refine aM ?_;by_cases C:k<P.length
 ·have hx:P[k]? = some P[k]:=List.getElem?_eq_getElem C;generalize P[k]=id at hx;have aa:=cJ U (w':=w2) fun k hk=>b2.block k (World.ownsRow.lt U k hk).2;refine ax (by omega) (Lq aa rfl hx fun _=>xA (h.below u) hi fun w3 b3=>aM ?_);have I:=u.trans (b3.mono u.size);by_cases hc:(if bK i=true then JA (aN s.N id) (i-1).toNat else 0)<x
  ·exact ax hc (kO (hK w3 _ _ I))
  ·refine aq hc (aW (by omega) (by omega) ⟨⟨k+1,congrArg iv (by push_cast;rfl),C,b2.trans (b3.mono b2.size)⟩,?_⟩);rw[J];show P.length-((k:Int)+1).toNat<P.length-(k:Int).toNat;omega
 ·exact aq (by omega) (yQ (hK w2 0 0 u))
theorem Dv (h:∀b,K (.bool b) w):call Tryz.prog 114 #[iv x] K w:=by
 refine aj (goK func114) (Bp (bM ?_));by_cases j:x≥1
 ·exact dD j (fU (bO j (h _)))
 ·exact dY j (bw j (h _))
theorem Hs {y:Int}(h:∀z,K (iv z) w):call Tryz.prog 82 #[iv x,iv y] K w:=by
 refine aj (goK func82) (zY (Dv fun b=>dB ?_));cases b with
 | false=>exact fV (bX (bu (h 0)))
 | true =>
  refine lR (Dv fun b=>dB (dA ?_));cases b with
  | false=>exact bu (h 0)
  | true=>exact aO (jS (SV (by omega) (Dl (h _))))
theorem Mo {x:ND}(u:x.A.length=54){K2:Value→KV}(h:∀w',blk w' w.heap.size 52 (ndC x)→Below w.heap.size w w'→K2 (pB w.heap.size) (undef) w'):alc Tryz.prog 52 (fun p=>sto Tryz.prog 52 p (.agg (ndC x).toArray) (K2 p)) w:=by
 refine dZ (z:=.agg (ndE ⟨0,0,z54⟩).toArray) (by kernel_rfl) fun J j b1 O=>?_;have j:blk J w.heap.size 52 (ndE ⟨0,0,z54⟩):=by simpa[Value.cells]using j
 have C:=TG u;refine jP (n:=56) (vs:=ndC x) (by kernel_rfl) C j (by rw[fC];omega) (by rw[←Cx u];exact zD x) fun M z2 I=>?_;rw[List.take_zero,List.nil_append,List.drop_of_length_le (by rw[fC];omega),List.append_nil]at z2;exact h M z2 (bv b1 I (Nat.le_refl _))
def xJ (s:PL)(i j:Int):Prop:=1≤j∧j≤6∧j≠i∧s.I.getD (j-1).toNat false=true∧s.L.getD (j-1).toNat false=false
theorem IM {t:STA}{i node j:Int}(hj:1≤j∧j≤6)(k:SK w t)(eI:t.I=s.I)(eL:t.L=s.L)(hi:blk w c 3 [iv i])(hs:blk w o 45 (saC t))(hn:blk w B 31 [u6 node])(h:∀w' n,(0<n→xJ s i j)→Below w.heap.size w w'→K (iv n) w'):call Tryz.prog 68 #[iv j,pB c,pB o,pB B] K w:=by
 refine aj (goK func68) (yR (lK (v:=iv i) hi rfl (cA ?_)));have z0:∀{w':World},Below w.heap.size w w'→K (iv 0) w':=fun b=>h _ 0 (fun h=>by omega) b;by_cases u:j=i
 ·exact jy u (bO u (fV (bX (bu (z0 (Below.refl _ _))))))
 have aa:(j-1).toNat<6:=by omega
 have ej:j-1=((j-1).toNat:Nat):=by omega
 refine dX u (bh (by omega) (by omega) (uO ?_));rw[ej];refine eO underlying41 (s:=1) (fun _=>by kernel_rfl) (by omega) (by omega) ?_;refine lK (v:=.bool (t.I.getD (j-1).toNat false)) hs (by rw[Int.toNat_natCast,Nat.mul_one];exact(congrArg (fun n=>(saC t)[n]?) (by omega)).trans (OL k aa)) (dB (bw u ?_));cases hI:t.I.getD (j-1).toNat false with
 | false=>exact fV (bX (bu (z0 (Below.refl _ _))))
 | true =>
 refine lR (bh (by omega) (by omega) (zR ?_));rw[ej];refine eO underlying41 (s:=1) (fun _=>by kernel_rfl) (by omega) (by omega) ?_;refine lK (v:=.bool (t.L.getD (j-1).toNat false)) hs (by rw[Int.toNat_natCast,Nat.mul_one];exact(congrArg (fun n=>(saC t)[n]?) (by omega)).trans (Wk k aa)) (dA ?_);cases hL:t.L.getD (j-1).toNat false with
 | true=>exact bu (z0 (Below.refl _ _))
 | false =>
 have ok:xJ s i j:=⟨hj.1,hj.2,u,by rw[←eI];exact hI,by rw[←eL];exact hL⟩
 have af:=JV k.i6 k.l6 k.v6;refine aO (jO (lK (v:=.slice t.na t.nodes.length t.nc) hs af (bj underlying42 ?_)));have al:=k.few;refine yj (Inv:=fun n i wr=>∃(q:Nat) (v:Int),i=iv (q:Nat)∧n=iv v∧q≤t.nodes.length∧Below w.heap.size w wr) (μ:=fun _ i _=>t.nodes.length-(intOf i).toNat) ⟨0,0,rfl,rfl,Nat.zero_le _,Below.refl _ _⟩ ?_;rintro _ _ dd w2 mu ⟨q,v,rfl,rfl,hq,b2⟩ ag;refine aM ?_
 by_cases J:q<t.nodes.length
 ·have hx:t.nodes[q]? = some t.nodes[q]:=List.getElem?_eq_getElem J;generalize t.nodes[q]=x at hx;have n2:=(k.bel b2 (Nat.le_refl _)).nr;obtain⟨p1,o1,O⟩:=n2.some_ (by omega);have hA:=n2.A54 x (List.mem_of_getElem? hx);refine ax (by omega) (yi ?_);rw[O];refine dJ underlying42 (s:=56) (fun _=>by kernel_rfl) (by omega) (by omega) ?_;rw[Int.toNat_natCast]
  refine Vb n2 O hx (Mo hA fun w3 z3 b3=>?_);have C:=b2.trans (b3.mono b2.size);have ad:=ac C hn hn.lt;refine Bt (lK (v:=u6 x.id) z3 rfl (lK (v:=u6 node) ad rfl (cA ?_)));have M:t.nodes.length-(intOf (iv ((q:Int)+1))).toNat<mu:=by rw[ag];show t.nodes.length-((q:Int)+1).toNat<t.nodes.length-((q:Nat):Int).toNat;omega
  by_cases U:x.id=node
  ·refine ax U (ET (ldA (n:=54) (vs:=x.A.map iv) underlying50 rfl (by kernel_rfl) z3 (by
    show ((ndC x).drop 2).take 54=_;unfold ndC;rw[List.drop_succ_cons,List.drop_succ_cons,List.drop_zero,List.take_of_length_le (by simp[hA])]) (by simp[hA]) (MF hA fun w4 b4=>SC (rr (aW (by omega) (by omega) ⟨⟨q+1,_,congrArg iv (by push_cast;rfl),rfl,J,C.trans (b4.mono C.size)⟩,M⟩)))))
  ·exact aq U (rr (aW (by omega) (by omega) ⟨⟨q+1,v,congrArg iv (by push_cast;rfl),rfl,J,C⟩,M⟩))
 ·exact aq (by omega) (yk (h w2 v (fun _=>ok) b2))
theorem LP {t:STA}{i node:Int}(k:SK w t)(eI:t.I=s.I)(eL:t.L=s.L)(h:∀w' j,(j=0∨xJ s i j)→Below w.heap.size w w'→K (iv j) w'):call Tryz.prog 36 #[.agg (saC t).toArray,iv i,u6 node] K w:=by
 refine aj (goK func36) (AT (cv fun w1 J b1 s1=>cv fun w2 z2 b2 s2=>cv fun w3 z3 b3 s3=>?_));have J:blk w1 w.heap.size 45 (saC t):=by simpa[Value.cells]using J
 have z2:blk w2 w1.heap.size 3 [iv i]:=z2;have z3:blk w3 w2.heap.size 31 [u6 node]:=z3;have M:Below w1.heap.size w1 w3:=b2.trans (b3.mono (by omega));have u:=b1.trans (M.mono b1.size);have J:=ac M J J.lt;have z2:=ac b3 z2 z2.lt;refine aj (goK func67) (AU ?_)
 refine zN (Inv:=fun a m j wr=>∃(x y z:Int),a=iv x∧m=iv y∧j=iv z∧1≤z∧z≤7∧0≤y∧(x=0∨xJ s i x)∧Below w3.heap.size w3 wr) (μ:=fun _ _ j _=>7-(intOf j).toNat)
  ⟨0,0,1,rfl,rfl,rfl,by omega,by omega,by omega,.inl rfl,Below.refl _ _⟩ ?_
 rintro _ _ _ dd w4 mu ⟨x,y,z,rfl,rfl,rfl,h1,h7,hy,hx,C⟩ af;refine fU ?_;by_cases h6:z≤6
 ·have U:7-(intOf (iv (z+1))).toNat<mu:=by rw[af];show 7-(z+1).toNat<7-z.toNat;omega
  have ad:=u.trans (C.mono u.size);refine ax h6 (yS (fM rfl (IM ⟨h1,h6⟩ (k.bel ad (Nat.le_refl _)) eI eL (ac C z2 z2.lt) (ac C J J.lt) (ac C z3 z3.lt) fun w5 n hn b5=>de ?_)));have O:=C.trans (b5.mono C.size);by_cases aa:y<n
  ·exact ax aa (vd (aW (by omega) (by omega) ⟨⟨z,n,z+1,rfl,rfl,rfl,by omega,by omega,by omega,.inr (hn (by omega)),O⟩,U⟩))
  ·exact aq aa (vd (aW (by omega) (by omega) ⟨⟨x,y,z+1,rfl,rfl,rfl,by omega,by omega,hy,hx,O⟩,U⟩))
 ·exact aq h6 (zU (h w4 x hx (u.trans (C.mono u.size))))
end
end
section
attribute [local irreducible] bin un conv call bY blt slc aT fld aV idx lkp dO gY eSt rng nxt ent ext alc box bld bT ld sto aU dE mkS ifc pick rdy wts aI sti cond bp Gives ae fh fT cOp
open Go.RowKit Go.ChangeMaps
theorem Dn {l:PL}{x:AK}:(mkP i l x).q=i:=by
 show ((i:Int)+1-1).toNat=i;omega
theorem Gd {l:PL}{x:AK}{r:Bool}(h:r=true↔evC (mkP i l x)=evC evZ):r=false:=by
 cases r with
 | false=>rfl
 | true =>
  have:=congrArg (fun l=>l[0]?) (h.1 rfl)
  simp[evC,mkP,mkE,iv,evZ]at this;omega
abbrev rpC (R:RpB)(i:Nat):List Value:=[iv ((i+1:Nat)),pB R.q.p,pB R.g,pB R.h,pB R.e,pB R.d]
section
variable {w:World}{K:KV}{R:RpB}{i:Nat}{l:PL}{W:HM}{Rw:List kN}{c:Int}{L:List (List Int)}{x:AK}
theorem Bb {y:World}{e:Int}{j:EV}(C:blk y z 54 (evC evZ))(u:blk y b 54 (evC j))(h:∀w',Oth b y w'→K (.tuple #[evV evZ,ci e]) w'):jz K (cP Y5 Z5 K6 (pB b) (pB z) (ci e) (.bool false) zf) y :=
 zt (aO (zv (gB C (lj (e':=evZ) u fun M J I=>Ix J (h M I)))))
theorem Bj {y wB:World}{e e0:EV}(h:RpM w0 R (i+1) l W Rw c L)(hi:PI l)(hm:ey l.V e=true)(I:dK e=true)(hc:c<1000000)(p2:PM y R.q (eff e l))(c2:Ch R.q.wv w0 y)(hz:blk y z 54 (evC e))(ht:blk y b 54 (evC e0))(ad:∀k∈R.q.l,k<b)(hb:Below wB.heap.size wB w0)(aa:wB.heap.size≤b)(C:∀w' j,RpM w' R (i+1) (eff e l) W j (c+1) L→Ch (RpF R Rw) wB w'→(∀k∈lrB j,k∈lrB Rw∨wB.heap.size≤k)→jb j=qX (jb Rw) e c→K (.tuple #[evV e,ci 0]) w'):jz K (cP (pB R.p) Y5 Z5 (pB b) (pB z) (ci 0) (.bool true) zf) y:=by
 have z2:=h.b.ch c2 (h.wq h.pq);have g2:=h.g.ch c2 fun k u=>h.wq (h.gq k u);refine zt (bu ?_);refine aw (fun v=>blk v R.p 91 (rpC R i)∧blk v z 54 (evC e)) ⟨z2.drew,hz.drew⟩ ?_;refine ab (fun v d _ C=>ai C) (ab (fun v d _ C=>yp C) (ab (v:=pB R.g) (fun v d _ C=>lK d.1 rfl C) (ab (fun v d _ C=>gB d.2 C) ?_)));have U:=c2.add (Below.refl _ y).drew;have d2:y.drew.heap.size=y.heap.size:=rfl
 have sz:=c2.size;have ag:=hb.size;refine Ef h hi hm I hc p2.drew U fun w3 j r3 c3 n3 i3=>?_;have M:∀{k:Nat} {cs:List Value},blk y k 54 cs→k∉R.g::lrB Rw:=fun u O=>(List.mem_cons.1 O).elim (fun e=>u.ne g2.b (by decide) e) fun O=>g2.ty u (by decide) O;have af:=hz.drew.ch c3 (M hz);have J:=ht.drew.ch c3 (M ht)
 refine zv (gB af (lj (e':=e) J fun w4 t4 o4=>Ix t4 (C w4 j (r3.othE (B:=b) ad J (Nat.le_refl _) o4) ?_ (fun k u=>(n3 k u).imp id fun O=>by omega) i3)));have Y5:Ch (RpF R Rw) wB w0:=Ch.of_below hb;have a2:Ch (RpF R Rw) wB y:=Y5.trans c2 fun k u=>.inl (gD.2 (.inl u))
 have Z5:=(a2.add (Below.refl _ y).drew).trans c3 fun k u=>.inl (gD.2 ((List.mem_cons.1 u).elim (fun h=>.inr (.inl h)) fun h=>.inr (.inr (.inl h))));exact Z5.add (bv (Below.refl _ w3) o4 aa)
theorem UM (h:RpM w R (i+1) l W Rw c L)(hp:PI l)(hi:i<6)(hG:l.G.length≤1000000)(hc:c<1000000)(no:∀w' e,(x.r=0→np (mkP i l x) l≠0)→Below w.heap.size w w'→K (.tuple #[evV evZ,ci e]) w')(al:∀w' C,np (mkP i l x) l=0→RpM w' R (i+1) (eff (mkP i l x) l) W C (c+1) L→Ch (RpF R Rw) w w'→(∀k∈lrB C,k∈lrB Rw∨w.heap.size≤k)→jb C=qX (jb Rw) (mkP i l x) c→K (.tuple #[evV (mkP i l x),ci 0]) w'):call Tryz.prog 26 #[pB R.p,.agg (akC x).toArray] K w:=by
 have aa:=h.pm.lt;refine aj (goK func26) (Bm (FM fun w1 z1 b1 s1=>nG fun w2 t2 b2 s2=>?_));have ad:=b1.trans (b2.mono (by omega));have h2:=h.below ad;have z2:=ac b2 z1 z1.lt;refine aw (fun y=>blk y R.p 91 (rpC R i)∧blk y w.heap.size 33 (akC x)) ⟨h2.b.drew,z2.drew⟩ ?_;refine ab (fun y d _ j=>ai j) (ab (fun y d _ j=>uN j) (ab (v:=pB R.q.p) (fun y d _ j=>lK d.1 rfl j) ?_))
 refine ab (fun y d _ j=>ai j) (ab (fun y d _ j=>wG j) (ab (v:=iv ((i:Int)+1)) (fun y d _ j=>lK (v:=iv ((i:Int)+1)) d.1 (show some (iv ((i+1:Nat)))=some (iv ((i:Int)+1))from congrArg (fun z=>some (iv z)) (by push_cast;rfl)) j) (ab (fun y d _ j=>Ij d.2 j) ?_)));have J:=h2.below (Below.refl _ w2).drew;have u:Below w.heap.size w w2.drew:=ad.drew
 have nq:∀k,w.heap.size≤k→k∉R.q.wv:=fun k hk hh=>by have:=aa k (LB.wl k hh);omega
 have l2:=t2.lt;have az:w1.heap.size=w.heap.size+1:=s1;have av:w2.drew.heap.size=w2.heap.size:=rfl;have rdy:np (mkP i l x) l=0→ey l.V (mkP i l x)=true∧dK (mkP i l x)=true:=fun O=>⟨((vc hp).1 O).rdy,((vc hp).1 O).may⟩
 refine⟨?_,?_⟩
 ·refine Qn J.pm hp hi hG (fun w3 e3 an b3=>?_) fun w3 O p3 c3=>?_
  ·refine aw (fun _=>True) trivial (ab (fun y _ _ j=>cZ j) (ab (fun y _ _ j=>db j) ?_));have ag:=(u.trans (b3.mono u.size))
   have t3:=ac b3 t2.drew t2.drew.lt;refine nG fun w4 z4 b4 s4=>bR trivial (lj (e':=evZ) z4 fun w5 M U=>bR trivial ?_);have I:Below w3.heap.size w3 w5:=bv b4 U (Nat.le_refl _);refine gB M (eT (vs:=evC evZ) (by kernel_rfl) (wu 6 (by omega) (by kernel_rfl) (by kernel_rfl) (nl _) (nl _) fun r hr=>?_));rw[hr.2 rfl]
   exact Bb M (ac I t3 t3.lt) fun w6 o6=>no w6 e3 an (bv (ag.trans (I.mono ag.size)) o6 (by omega))
  ·have t3:=t2.drew.ch c3 (nq _ (by omega));have ar:=c3.size;refine aw (fun _=>True) trivial (ab (fun y _ _ j=>cZ j) (ab (fun y _ _ j=>db j) ?_));refine nG fun w4 z4 b4 s4=>bR trivial (lj (e':=mkP i l x) z4 fun w5 M U=>bR trivial ?_);have I:Below w3.heap.size w3 w5:=bv b4 U (Nat.le_refl _)
   refine gB M (eT (vs:=evC evZ) (by kernel_rfl) (wu 6 (by omega) (by kernel_rfl) (by kernel_rfl) (nl _) (nl _) fun r hr=>?_));rw[Gd hr];exact Bj (wB:=w) J hp (rdy O).1 (rdy O).2 hc (p3.below I) (c3.add (I.mono ar)) M (ac I t3 t3.lt) (fun k hk=>by have:=aa k hk;omega) u (by omega) fun w6 C a1 a2 a3 a4=>al w6 C O a1 a2 a3 a4
 ·refine nG fun w3 z3 b3 s3=>bR (by
   have:=J.below b3
   exact⟨this.b,ac b3 z2.drew z2.drew.lt⟩) ?_
  have h3:=J.below b3;have t3:=ac b3 t2.drew t2.drew.lt;have af:=u.trans (b3.mono u.size);refine Qn h3.pm hp hi hG (fun w4 e4 ap b4=>?_) fun w4 O p4 c4=>?_
  ·have z4:=ac b4 z3 z3.lt;have t4:=ac b4 t3 t3.lt;have am:=af.trans (b4.mono af.size);refine aw (fun _=>True) trivial (ab (fun y _ _ j=>cZ j) (ab (fun y _ _ j=>db j) ?_));refine lj (e':=evZ) z4 fun w5 M U=>bR trivial ?_;refine gB M (eT (vs:=evC evZ) (by kernel_rfl) (wu 6 (by omega) (by kernel_rfl) (by kernel_rfl) (nl _) (nl _) fun r hr=>?_));rw[hr.2 rfl]
   exact Bb M (U.blk t4 (by omega)) fun w6 o6=>no w6 e4 ap (bv (bv am U (by omega)) o6 (by omega))
  ·have z4:=z3.ch c4 (nq _ (by omega));have t4:=t3.ch c4 (nq _ (by omega));refine aw (fun _=>True) trivial (ab (fun y _ _ j=>cZ j) (ab (fun y _ _ j=>db j) ?_));refine lj (e':=mkP i l x) z4 fun w5 M U=>bR trivial ?_;have aE:=c4.size;refine gB M (eT (vs:=evC evZ) (by kernel_rfl) (wu 6 (by omega) (by kernel_rfl) (by kernel_rfl) (nl _) (nl _) fun r hr=>?_));rw[Gd hr]
   have c5:Ch R.q.wv w2.drew w5:=((Ch.of_below b3:Ch R.q.wv w2.drew w3).trans c4 fun y hy=>.inl hy).add (bv (Below.refl _ w4) U (by omega));exact Bj (wB:=w) J hp (rdy O).1 (rdy O).2 hc (p4.oth U fun hh=>by have:=aa _ hh;omega) c5 M (U.blk t4 (by omega)) (fun k hk=>by have:=aa k hk;omega) u (by omega) fun w6 C a1 a2 a3 a4=>al w6 C O a1 a2 a3 a4
theorem Kz {f t n a:Int}{V:List Int}(h:RpM w R (i+1) l W Rw c L)(hV:V.length=6)(hp:PI l)(hi:i<6)(hG:l.G.length≤1000000)(hc:c<1000000)(no:∀w' v,Below w.heap.size w w'→K v w')(am:∀w' C z v,np (mkP i l ⟨5,n,f,z,0,0⟩) l=0→RpM w' R (i+1) (eff (mkP i l ⟨5,n,f,z,0,0⟩) l) W C (c+1) L→Ch (RpF R Rw) w w'→(∀k∈lrB C,k∈lrB Rw∨w.heap.size≤k)→jb C=qX (jb Rw) (mkP i l ⟨5,n,f,z,0,0⟩) c→K v w'):call Tryz.prog 44 #[pB R.p,.agg (mgC 2 f t V Y5 n a).toArray] K w:=by
 generalize hm:mgC 2 f t V Y5 n a=ms;have ag:(Value.agg ms.toArray).cells.toList=ms:=by simp[Value.cells]
 have m1:ms[1]? = some (iv f):=by rw[←hm];rfl
 have aa:ms[10]? = some (u6 n):=by
  rw[←hm];unfold mgC;rw[show 10=3+7 by rfl,iP (n:=3) rfl,show 7=6+1 by rfl,iP (n:=6) (by rw[bQ,hV])];rfl
 have al:ms[11]? = some (iv a):=by
  rw[←hm];unfold mgC;rw[show 11=3+8 by rfl,iP (n:=3) rfl,show 8=6+2 by rfl,iP (n:=6) (by rw[bQ,hV])];rfl
 refine aj (goK func44) (qY (cv fun w1 z1 b1 s1=>?_));rw[ag]at z1;have h1:=h.below b1;refine aw (fun y=>blk y R.p 91 (rpC R i)∧blk y w.heap.size 38 ms) ⟨h1.b.drew,z1.drew⟩ ?_;refine ab (fun y d _ j=>ai j) (ab (fun y d _ j=>uN j) (ab (v:=pB R.q.p) (fun y d _ j=>lK d.1 rfl j) ?_))
 refine ab (fun y d _ j=>ai j) (ab (fun y d _ j=>wG j) (ab (v:=iv ((i:Int)+1)) (fun y d _ j=>lK (v:=iv ((i:Int)+1)) d.1 (show some (iv ((i+1:Nat)))=some (iv ((i:Int)+1))from congrArg (fun z=>some (iv z)) (by push_cast;rfl)) j) ?_));refine ab (fun y d _ j=>Rc j) (ab (v:=u6 n) (fun y d _ j=>lK d.2 aa j) (ab (fun y d _ j=>Rd j) (ab (v:=iv a) (fun y d _ j=>lK d.2 al j) ?_)))
 have af:=h1.below (Below.refl _ w1).drew;refine xA af.pm hp fun w2 b2=>?_;have M:Below w1.heap.size w1 w2:=(Below.refl _ w1).drew.trans b2;have u:=b1.trans (M.mono b1.size);have h2:=h.below u;have z2:=ac M z1 z1.lt;refine bR ⟨h2.b,z2⟩ (Hs fun z=>aw (fun _=>True) trivial (cA ?_));by_cases hz:z=0
 ·exact ax hz (no w2 _ u)
 refine aq hz (Rc (lK (v:=u6 n) z2 aa (GY (lK (v:=iv f) z2 m1 ?_))));refine eT (vs:=akC ⟨5,n,f,z,0,0⟩) (by kernel_rfl) (UM h2 hp hi hG hc (fun w3 e _ b3=>cZ (db ?_)) fun w3 C h0 r3 c3 n3 i3=>cZ (db ?_))
 ·have I:=u.trans (b3.mono u.size);refine nG fun w4 z4 b4 s4=>lj (e':=evZ) z4 fun w5 z5 o5=>bN ?_;have J:Below w.heap.size w w5:=bv (I.trans (b4.mono I.size)) o5 I.size;by_cases he:e≠0
  ·exact ax he (no w5 _ J)
  ·refine aq he (gB z5 ?_);refine mY [evV evZ] underlying36 (s:=14) (by kernel_rfl) (by kernel_rfl) (by omega) rfl (by simp) (by decide) rfl (by
    intro v hv;rw[List.mem_singleton.1 hv];rfl) fun w6 e6 b6 s6=>no w6 _ (J.trans (b6.mono J.size))
 ·refine nG fun w4 z4 b4 s4=>lj (e':=mkP i l ⟨5,n,f,z,0,0⟩) z4 fun w5 z5 o5=>bN (aq (by simp) (gB z5 ?_));have O:Below w3.heap.size w3 w5:=bv b4 o5 (Nat.le_refl _);refine mY [evV (mkP i l ⟨5,n,f,z,0,0⟩)] underlying36 (s:=14) (by kernel_rfl) (by kernel_rfl) (by omega) rfl (by simp) (by decide) rfl (by
   intro v hv;rw[List.mem_singleton.1 hv];rfl) fun w6 e6 b6 s6=>?_
  have U:=O.trans (b6.mono O.size);have an:=u.size;have s3:=c3.size;have ad:Ch (RpF R Rw) w w6:=((Ch.of_below u:Ch (RpF R Rw) w w2).trans c3 fun k hk=>.inl hk).add (U.mono (by omega));exact am w6 C z _ h0 (r3.below U) ad (fun k hk=>(n3 k hk).imp id fun hh=>by omega) i3
theorem DP {n a f t:Int}{V:List Int}(hn:n≠0)(O:1≤a∧a≤qW)(C:V.length=6)(hv:leV V (List.replicate 6 1099511627776)=true)(hf:bK f=true)(ht:bK t=true)(I:f≠t)(h:∀w',Below w.heap.size w w'→K (.bool true) w'):call Tryz.prog 11 #[.agg (mgC 2 f t V (.slice none 0 0) n a).toArray] K w:=by
 generalize u:mgC 2 f t V (.slice none 0 0) n a=ms;have aa:(Value.agg ms.toArray).cells.toList=ms:=by simp[Value.cells]
 have p0:ms[0]? = some (kv8 2):=by rw[←u];rfl
 have p1:ms[1]? = some (iv f):=by rw[←u];rfl
 have p2:ms[2]? = some (iv t):=by rw[←u];rfl
 have p3:(ms.drop 3).take 6=vCs V:=by
  rw[←u];unfold mgC;rw[show 3=[Value.int .u8 2,iv f,iv t].length+0 by rfl,List.drop_append,List.drop_of_length_le (by simp)];simp only[List.nil_append,List.length_cons,List.length_nil,Nat.sub_self];rw[List.drop_zero,List.take_append_of_le_length (by rw[bQ];omega),List.take_of_length_le (by rw[bQ];omega)]
 have p9:ms[9]? = some (.slice none 0 0):=by
  rw[←u];unfold mgC;rw[show 9=3+6 by rfl,iP (n:=3) rfl,show 6=6+0 by rfl,iP (n:=6) (by rw[bQ,C])];rfl
 have ad:ms[10]? = some (u6 n):=by
  rw[←u];unfold mgC;rw[show 10=3+7 by rfl,iP (n:=3) rfl,show 7=6+1 by rfl,iP (n:=6) (by rw[bQ,C])];rfl
 have M:ms[11]? = some (iv a):=by
  rw[←u];unfold mgC;rw[show 11=3+8 by rfl,iP (n:=3) rfl,show 8=6+2 by rfl,iP (n:=6) (by rw[bQ,C])];rfl
 refine aj (goK func11) (JH (cv fun w1 j b1 s1=>?_));rw[aa]at j;refine GY (lK (v:=iv f) j p1 (PW (dB ?_)));rw[hf];refine lR (jp (lK (v:=iv t) j p2 (PW (dB ?_))));rw[ht];refine dA (lR (GY (lK (v:=iv f) j p1 (jp (lK (v:=iv t) j p2 (cA (dA (dX I ?_))))))));refine Lz (ldA (n:=6) (vs:=vCs V) underlying35 rfl (by kernel_rfl) j p3 (by rw[bQ];exact C) (VI C fun w2 b2=>dB ?_));rw[hv]
 have J:=ac b2 j j.lt;have U:=b1.trans (b2.mono b1.size);refine bw I (aO (GX (lK (v:=kv8 2) J p0 (HA (cA (aq (by decide) (cA (yu (ax rfl ?_)))))))));unfold qW at O;refine zP (lK (v:=.slice none 0 0) J p9 (bj underlying36 (cA (dD (by simp) ?_))));refine Rc (lK (v:=u6 n) J ad (bN (bO (by simp) (dD hn ?_))));refine Rd (lK (v:=iv a) J M (bM (bO hn (dD O.1 ?_))))
 exact Rd (lK (v:=iv a) J M (fU (bO O.1 (by have:=h w2 U;simpa[gd,O.2]using this))))
end
theorem StpX.nz {X X':RpX}(C:StpX w' w0 X X')(j:∀k∈AF X,k<w.heap.size)(I:w.heap.size≤z)(J:z<w'.heap.size):z∉AF X':=fun u =>
 (C.af z u).elim (fun h=>by have:=j z h;omega) fun h=>by omega
theorem RepW.oth {X:RpX}{s:RS}(h:RepW w i X s)(o:Oth z w w')(u:z∉AF X):RepW w' i X s:=h.keep fun k j=>o.other k fun e=>u (e ▸ j)
theorem StpX.oth {X X':RpX}(h:StpX w w' X X')(o:Oth z w' w0)(j:w.heap.size≤z):StpX w w0 X X' :=
 ⟨h.R,h.m,h.ch.add (bv (Below.refl _ w') o j),h.new⟩
def Ew (i:Nat)(s s':RS)(x:AK):Prop:=s'=s∨np (mkP i s.l x) s.l=0∧s'=⟨eff (mkP i s.l x) s.l,s.A++[mkP i s.l x],s.P⟩
def MadeV (i:Nat)(s s':RS)(x:AK)(v:Value):Prop:=s'=s∧(x.r=0→np (mkP i s.l x) s.l≠0)∨np (mkP i s.l x) s.l=0∧s'=⟨eff (mkP i s.l x) s.l,s.A++[mkP i s.l x],s.P⟩∧v=.tuple #[evV (mkP i s.l x),ci 0]
theorem MadeV.made {s s':RS}{x:AK}{v:Value}(h:MadeV i s s' x v):Ew i s s' x:=h.imp (fun h=>h.1) fun h=>⟨h.1,h.2.1⟩
section
variable {w:World}{K:KV}{i:Nat}{X:RpX}{s:RS}{x:AK}
theorem RepW.add {j:List kN}{e:EV}(h:RepW w i X s)(C:e.q<6)(J:RpM w' X.R (i+1) (eff e s.l) [] j ((s.A.length:Nat)+1) s.P)(u:Ch (RpF X.R X.Rw) w w')(I:jb j=qX (jb X.Rw) e (s.A.length:Nat)):RepW w' i {X with Rw:=j} ⟨eff e s.l,s.A++[e],s.P⟩:=by
 refine h.turn ?_ ?_ u
 ·have:((s.A++[e]).length:Int)=(s.A.length:Nat)+1:=by rw[List.length_append];push_cast;rfl
  show RpM w' X.R (i+1) (eff e s.l) [] j ((s.A++[e]).length:Nat) s.P;rw[this];exact J
 ·show jb j=lp (s.A++[e]);rw[I,h.it,zX C]
theorem Eh {e j:EV}{v:Value}(u:blk w b 54 (evC j))(h:∀w',Oth b w w'→K (.tuple #[evV j,v]) w'):jc K (iz (pB X.R.p) Y5 Z5 K6 (pB b) v W6 zf) w :=
 Bi (gB u (lj (e':=j) u fun J I C=>Ix I (h J C)))
theorem DS {now:Int}(h:RepW w i X s)(hp:PI s.l)(hi:i<6)(hG:s.l.G.length≤1000000)(hA:s.A.length<1000000)(j:∀w' X' s' v,StpX w w' X X'→RepW w' i X' s'→MadeV i s s' x v→(x.r=0→np (mkP i s.l x) s.l=0→X'.ws=X.ws)→K v w'):call Tryz.prog 9 #[pB X.R.p,.agg (akC x).toArray,u6 now] K w:=by
 have hX:=h.lt;refine aj (goK func9) (CI (FM fun J z1 b1 s1=>nG fun w2 t2 b2 s2=>wy (aO ?_)));have C:=b1.trans (b2.mono (by omega));have h2:=h.below C;have z2:=ac b2 z1 z1.lt;have l2:=t2.lt;have l1:w.heap.size≤J.heap.size:=by omega
 refine Ij z2 (UM h2.rp hp hi hG (by omega) (fun w3 e ad b3=>cZ (db ?_)) fun w3 af h0 r3 c3 n3 i3=>cZ (db ?_))
 ·have ag:=C.trans (b3.mono C.size);have t3:=ac b3 t2 t2.lt;have U:J.heap.size∉AF X:=fun hh=>by have:=hX _ hh;omega
  refine lj (e':=evZ) t3 fun w4 O o4=>cA ?_;have u:Below w.heap.size w w4:=bv ag o4 l1;have h4:=h.below u;have z4:=o4.blk (ac b3 z2 z2.lt) (by omega:w.heap.size≠J.heap.size)
  have M:∀{a4:Value} {zf:Nat→Value} {w5:World} {X':RpX},StpX w w5 X X'→RepW w5 i X' s→J.heap.size∉AF X'→blk w5 J.heap.size 54 (evC evZ)→jc K (iz (pB X.R.p) (.agg (akC x).toArray) (u6 now) (pB w.heap.size) (pB J.heap.size) (ci e) a4 zf) w5:=fun hs hr hz ht =>
   Eh (X:=X) (e:=evZ) ht fun w6 o6=>j w6 _ s _ (hs.oth o6 l1) (hr.oth o6 hz) (.inl ⟨rfl,ad⟩) fun hr h0=>absurd h0 (ad hr)
  by_cases he:e=11
  ·refine dD he (QW (lK (v:=kv8 x.k) z4 rfl (cA (bO he (Bh ?_)))));by_cases hk:x.k=3
   ·refine ax hk <|aw (fun y=>blk y X.R.p 91 (rpC X.R i)∧blk y w.heap.size 33 (akC x)) ⟨h4.rp.b.drew,z4.drew⟩ ?_;refine ab (fun y d _ j=>ai j) (ab (fun y d _ j=>uN j) (ab (v:=pB X.R.q.p) (fun y d _ j=>lK d.1 rfl j) ?_));refine ab (fun y d _ j=>ai j) (ab (fun y d _ j=>wG j) (ab (v:=iv ((i+1:Nat))) (fun y d _ j=>lK d.1 rfl j) ?_))
    refine ab (fun y d _ j=>QX j) (ab (v:=u6 x.n) (fun y d _ j=>lK d.2 rfl j) (ab (fun y d _ j=>QZ j) (ab (v:=iv x.a) (fun y d _ j=>lK d.2 rfl j) ?_)));have am:=h4.below (Below.refl _ w4).drew;refine Lb am.rp.pm hp fun w5 ar av b5=>?_;have I:Below w4.heap.size w4 w5:=(Below.refl _ w4).drew.trans b5;have h5:=h4.below I;have z5:=ac I z4 z4.lt;have t5:=ac I O O.lt
    refine aw (fun _=>True) trivial (ab (fun y _ _ j=>cZ j) (ab (fun y _ _ j=>db j) ?_));refine aw (fun y=>blk y X.R.p 91 (rpC X.R i)∧blk y w.heap.size 33 (akC x)) ⟨h5.rp.b.drew,z5.drew⟩ ?_;refine ab (fun y d _ j=>ai j) (ab (fun y d _ j=>LD j) (ab (v:=pB X.R.d) (fun y d _ j=>lK d.1 rfl j) ?_));refine ab (fun y d _ j=>QZ j) (ab (v:=iv x.a) (fun y d _ j=>lK d.2 rfl j) ?_)
    have aa:=h5.below (Below.refl _ w5).drew;refine JP aa.dm fun w6 ap e6 d6 c6 n6=>?_;have al:Below w.heap.size w w5.drew:=(u.trans (I.mono u.size)).drew;have st:StpX w5.drew w6 X {X with ws:=ap}:=.ws c6 n6;have dd:w5.drew.heap.size=w5.heap.size:=rfl;have an:=t5.drew;have az:=t5.lt
    have t6:blk w6 J.heap.size 54 (evC evZ):=an.ch c6 fun hh=>U (gl.2 (.inr (.inr (.inr (.inr (gX.2 (.inr (List.mem_cons.1 hh))))))));exact M ((StpX.refl al).trans st) (aa.want d6 c6 n6) (st.nz hX l1 (by omega)) t6
   ·exact aq hk (M (.refl u) h4 U O)
  ·exact dY he (bw he (Bh (aO (M (.refl u) h4 U O))))
 ·have st:StpX w2 w3 X {X with Rw:=af}:=.rw c3 n3;have h3:=h2.add (by rw[Dn];exact hi) r3 c3 i3;have U:=st.nz hX l1 l2;have t3:blk w3 J.heap.size 54 (evC evZ):=t2.ch c3 (h2.rp.out t2 (by decide) (by decide) (by decide) fun hh=>by have:=h.rp.pm.lt _ hh;omega);have sw:=(StpX.refl C:StpX w w2 X X).trans st
  refine lj (e':=mkP i s.l x) t3 fun w4 O o4=>cA (dY (by decide) (bw (by decide) (Bh (aO ?_))));exact Eh (X:=X) (e:=mkP i s.l x) O fun w5 o5=>j w5 _ _ _ ((sw.oth o4 l1).oth o5 l1) ((h3.oth o4 U).oth o5 U) (.inr ⟨h0,rfl,rfl⟩) fun _ _=>rfl
theorem Wg {now:Int}(h:RepW w i X s)(M:PI s.l)(hi:i<6)(hG:s.l.G.length≤1000000)(I:s.A.length<1000000)(J:∀w' X' s' v,StpX w w' X X'→RepW w' i X' s'→MadeV i s s' x v→K v w'):call Tryz.prog 9 #[pB X.R.p,.agg (akC x).toArray,u6 now] K w :=
 DS h M hi hG I fun w' X' s' v j u C _=>J w' X' s' v j u C
theorem Dw {V A:List Int}{now:Value}(af:r=1∨r=2)(h:RepW w i X s)(hf:f<6)(hV:V.length=6)(hA:s.P[f]? = some A)(I:∀(u:World) (K1:KV),Below w.heap.size w u→(∀w2,Below u.heap.size u w2→K1 (.bool true) w2)→call Tryz.prog 11 #[.agg (mgC r ((f:Int)+1) ((i:Int)+1) V Y5 Y0 Z1).toArray] K1 u)(go:∀u,RepW u i X ⟨s.l,s.A,s.P.set f (jV A V)⟩→StpX w u X X→call Tryz.prog (if r=1 then 43 else 44) #[pB X.R.p,.agg (mgC r ((f:Int)+1) ((i:Int)+1) V Y5 Y0 Z1).toArray] (fun v w=>K (.tuple #[v,ci 0]) w) u):call Tryz.prog 12 #[pB X.R.p,.agg (mgC r ((f:Int)+1) ((i:Int)+1) V Y5 Y0 Z1).toArray,now] K w:=by
 generalize U:mgC r ((f:Int)+1) ((i:Int)+1) V Y5 Y0 Z1=ms at I go ⊢;have ag:ms.length=12:=by rw[←U];simp[mgC,bQ,hV]
 have ad:(Value.agg ms.toArray).cells.toList=ms:=by simp[Value.cells]
 have m0:ms[0]? = some (kv8 r):=by rw[←U];rfl
 have m1:ms[1]? = some (iv ((f:Int)+1)):=by rw[←U];rfl
 have m2:ms[2]? = some (iv ((i:Int)+1)):=by rw[←U];rfl
 have m3:(ms.drop 3).take 6=vCs V:=by
  rw[←U];unfold mgC;rw[show 3=[Value.int .u8 r,iv ((f:Int)+1),iv ((i:Int)+1)].length+0 by rfl,List.drop_append,List.drop_of_length_le (by simp)];simp only[List.nil_append,List.length_cons,List.length_nil,Nat.sub_self];rw[List.drop_zero,List.take_append_of_le_length (by rw[bQ];omega),List.take_of_length_le (by rw[bQ];omega)]
 refine aj (goK func12) (Bk (cv fun u z1 b1 s1=>wy (aO ?_)));rw[ad]at z1;have aa:∀{y:World} {K:KV},blk y w.heap.size 38 ms→K (.agg ms.toArray) y→ld Tryz.prog 38 (pB w.heap.size) K y:=fun hy j=>ldA (n:=12) (vs:=ms) underlying38 rfl (by kernel_rfl) hy (by rw[List.drop_zero,List.take_of_length_le (by omega)]) ag j;refine aa z1 (I u _ b1 fun w2 b2=>dB ?_)
 have M:=b1.trans (b2.mono b1.size);have h2:=h.below M;have z2:=ac b2 z1 z1.lt;refine yZ (aO ?_);refine aH (fun _=>jp) (aH (v:=iv ((i:Int)+1)) (fun _=>lK z2.drew m2) ?_);refine aH (fun _=>ai) (aH (fun _=>wG) (aH (v:=iv ((i+1:Nat))) (fun _=>lK h2.rp.b.drew rfl) ?_));refine aH (v:=.bool false) (fun K j=>bN (by rw[decide_eq_false (by push_cast;simp)];exact j)) ?_;refine zc (aO (zb ?_))
 have O:Below w.heap.size w w2.drew.drew:=M.drew.drew;have C:=h.below O;have z3:blk w2.drew.drew w.heap.size 38 ms:=z2;refine aw (fun y=>blk y X.R.p 91 (rpC X.R i)∧blk y w.heap.size 38 ms) ⟨C.rp.b,z3⟩ ?_;refine ab (fun y d _ j=>ai j) (ab (fun y d _ j=>LA j) (ab (v:=pB X.R.e) (fun y d _ j=>lK d.1 rfl j) ?_))
 refine ab (fun y d _ j=>GY j) (ab (v:=iv ((f:Int)+1)) (fun y d _ j=>lK d.2 m1 j) ?_);refine ab (fun y d _ j=>Lz j) (ab (fun y d _ j=>ldA (n:=6) (vs:=vCs V) underlying35 rfl (by kernel_rfl) d.2 m3 (by rw[bQ];exact hV) j) ?_);refine VF C.rp.e hf hA hV fun w4 e4 c4=>?_
 have h4:RepW w4 i {X with Rw:=X.Rw} ⟨s.l,s.A,s.P.set f (jV A V)⟩:=C.turn (s':=⟨s.l,s.A,s.P.set f (jV A V)⟩) (C.rp.setE c4 e4) C.it (C.rp.sub2 c4);have z4:=z3.ch c4 fun hh=>absurd (List.mem_singleton.1 hh) (z3.ne C.rp.e.b (by decide));have ap:StpX w w4 X X:=(StpX.refl O:StpX w _ X X).trans (.rw (C.rp.sub2 c4) fun k hk=>.inl hk)
 refine qZ underlying114 rfl (Value.int .u8) (id:Value→Value) fun w5 al b5 s5=>?_;refine rL (v:=Value.func (.func 43) #[pB X.R.p] #[]) (x:=1) u8K underlying114 al fun w6 am o6=>?_;refine rL (v:=Value.func (.func 44) #[pB X.R.p] #[]) (x:=2) u8K underlying114 am fun w7 an o7=>?_;have J:Below w4.heap.size w4 w7:=bv (bv b5 o6 (Nat.le_refl _)) o7 (Nat.le_refl _);have h7:=h4.below J
 have z7:=ac J z4 z4.lt;have ar:StpX w w7 X X:=ap.trans (.refl J);refine GX (lK (v:=kv8 r) z7 m0 ?_);refine LZ (x:=r) (z0:=Value.nilFunc) u8K underlying114 (fun _=>by kernel_rfl) an (aa z7 ?_)
 have:=go w7 h7 ar
 rcases af with rfl|rfl
 ·exact fM (all:=#[pB X.R.p,.agg ms.toArray]) rfl this
 ·exact fM (all:=#[pB X.R.p,.agg ms.toArray]) rfl this
theorem Fq {E L:List EV}{V A P:List Int}{now:Value}(h:RepW w i X s)(hi:i<6)(C:RHL n E s.l [] c)(M:AppP E s.A s.l)(af:s.A.length≤999000)(hv:VR w a k B L)(ad:∀b o,a=some ⟨b,o,none⟩→b∉FF X)(hL:ChE E P L)(hP:∀q,P.getD q 0≤s.l.V.getD q 0)(u:k≤16)(hf:f<6)(ag:f≠i)(J:V.length=6)(U:leV V (List.replicate 6 1099511627776)=true)(hA:s.P[f]? = some A)(hK:∀w' X' l' F v,StpX w w' X X'→RepW w' i X' ⟨l',s.A++F,s.P.set f (jV A V)⟩→AppP E (s.A++F) l'→(∀g∈L,g.s≤l'.V.getD g.q 0)→RHL n E l' [] (c+F.length)→(∀q,s.l.V.getD q 0≤l'.V.getD q 0)→K (.tuple #[v,ci 0]) w'):call Tryz.prog 12 #[pB X.R.p,.agg (mgC 1 ((f:Int)+1) ((i:Int)+1) V (.slice a k B) 0 0).toArray,now] K w:=by
 refine Dw (.inl rfl) h hf J hA (fun w1 K1 b1 h1=>TF (hv.bel b1 (Nat.le_refl _)) u (fun e O=>C.hist.may e (hL.mem e O)) J U (by unfold bK;simp;omega) (by unfold bK;simp;omega) (by omega) h1) fun w1 r1 I=>?_;rw[if_pos rfl];have aa:=hv.ch I.ch ad;have hl:=hv.len
 refine TZ r1.rp C (by simp;omega) (by show ((s.A.length:Nat):Int)+100≤1000000;omega) aa hL.mem u J fun w2 l' W' j F fa fc r2 d2 n2 _ c2 k2 i2=>?_;obtain⟨p1,_⟩:=C.puts (L:=L) hL.mem (by simp;omega);obtain⟨rfl,q2,q3,q4⟩:=C.hear hL hP (by omega) d2 n2;have ap:=d2.app p1 M;have hq:∀e∈F,e.q<6:=fun e O=>(qe (C.hist.may e ((ap.mem e).1 (by simp[O])).1)).1
 refine hK w2 {X with Rw:=j} l' F _ (I.trans (.rw c2 k2)) (r1.turn (s':=⟨l',s.A++F,s.P.set f (jV A V)⟩) ?_ ?_ c2) ap q2 q3 q4
 ·show RpM w2 X.R (i+1) l' [] j ((s.A++F).length:Nat) _;rw[List.length_append];push_cast;exact r2
 ·show jb j=lp (s.A++F);rw[i2,r1.it,Dq hq]
theorem Fm {nn aa:Int}{f:Nat}{V A:List Int}{now:Value}(h:RepW w i X s)(hp:PI s.l)(hi:i<6)(hG:s.l.G.length≤1000000)(hAl:s.A.length≤999000)(hn:nn≠0)(ha:1≤aa∧aa≤qW)(hf:f<6)(hfi:f≠i)(hV:V.length=6)(hle:leV V (List.replicate 6 1099511627776)=true)(hA:s.P[f]? = some A)(hK:∀w' X' s' z v,StpX w w' X X'→RepW w' i X' s'→Ew i ⟨s.l,s.A,s.P.set f (jV A V)⟩ s' ⟨5,nn,(f:Int)+1,z,0,0⟩→K (.tuple #[v,ci 0]) w'):call Tryz.prog 12 #[pB X.R.p,.agg (mgC 2 ((f:Int)+1) ((i:Int)+1) V (.slice none 0 0) nn aa).toArray,now] K w:=by
 refine Dw (.inr rfl) h hf hV hA (fun w1 K1 b1 h1=>DP hn ha hV hle (by unfold bK;simp;omega) (by unfold bK;simp;omega) (by omega) h1) fun w1 r1 st1=>?_
 rw[if_neg (by decide)]
 refine Kz r1.rp hV hp hi hG (by show ((s.A.length:Nat):Int)<1000000;omega) (fun w2 v b2=>hK w2 X _ 0 v (st1.trans (.refl b2)) (r1.below b2) (.inl rfl)) fun w2 Rw' z v h0 r2 c2 n2 i2=>?_
 exact hK w2 {X with Rw:=Rw'} _ z v (st1.trans (.rw c2 n2)) (r1.add (by rw[Dn];exact hi) r2 c2 i2) (.inr ⟨h0,rfl⟩)
end
abbrev MGT :=MG×(Option Addr×Nat)
def tmC (x:MGT):List Value:=[kv8 x.1.k,iv ((x.1.f:Int)+1),iv ((x.1.t:Int)+1)]++(((List.range 6).map fun k=>u6 (x.1.V.getD k 0))++[.slice x.2.1 x.1.L.length x.2.2,u6 x.1.n,iv x.1.a])
theorem jN (x:MGT):(tmC x).length=12:=by simp[tmC]
theorem yd {x:MGT}(h:x.1.V.length=6):tmC x=mgC x.1.k ((x.1.f:Int)+1) ((x.1.t:Int)+1) x.1.V (.slice x.2.1 x.1.L.length x.2.2) x.1.n x.1.a:=by
 obtain⟨⟨k,f,t,V,n,a,L⟩,b,c⟩:=x;obtain⟨_,_,_,_,_,_,rfl⟩:=rU h;rfl
theorem yh (x:MGT):∀v∈tmC x,v.oneCell'=true:=by
 intro v h;unfold tmC at h;simp only[List.mem_append,List.mem_cons,List.not_mem_nil,or_false,List.mem_map]at h;rcases h with(rfl|rfl|rfl)|(⟨_,_,rfl⟩|rfl|rfl|rfl)<;>rfl
theorem Rt :(Tryz.prog.info? 38).map (fun i=>(i.zero,i.size,i.bytes))=some (some (.agg (mgC 0 0 0 (List.replicate 6 0) (.slice none 0 0) 0 0).toArray),12,112):=by kernel_rfl
structure wU (k i:Nat) (s:RS) (x:MGT):Prop where
 f:x.1.f=i
 t:x.1.t<k
 ne:x.1.t≠i
 V:x.1.V=s.l.V
 is:(x.1.k=1∧x.1.n=0∧x.1.a=0∧∃v,s.P[x.1.t]? = some v∧x.1.L=tl s.A v)∨(x.1.k=2∧x.1.L=[]∧x.2.1=none∧x.2.2=0∧x.1.n≠0∧1≤x.1.a∧x.1.a≤qW)
structure TMk (B:Nat) (w:World) (x:MGT):Prop where
 vr:VR w x.2.1 x.1.L.length x.2.2 x.1.L
 ev:∀b o,x.2.1=some ⟨b,o,none⟩→B≤b∧∃cs,blk w b 54 cs
theorem VR.kp {L:List EV}(h:VR w a n c L)(I:∀b o,a=some ⟨b,o,none⟩→w'.heap[b]? = w.heap[b]?):VR w' a n c L :=
 ⟨h.len,h.some_,fun i x M b o C j u J=>by rw[World.cell?_of_block (I b o C)];exact h.cell i x M b o C j u J⟩
theorem TMk.kp {x:MGT}(h:TMk B w x)(C:∀b cs,blk w b 54 cs→w'.heap[b]? = w.heap[b]?):TMk B w' x :=
 ⟨h.vr.kp fun b o u=>by obtain⟨_,cs,j⟩:=h.ev b o u;exact C b cs j,fun b o u=>by
  obtain⟨I,cs,j⟩:=h.ev b o u;exact⟨I,cs,j.kp (C b cs j)⟩⟩
theorem TMk.below {x:MGT}(h:TMk B w x)(b:Below w.heap.size w w'):TMk B w' x:=h.kp fun k cs j=>b.block k j.lt
theorem TMk.grow {x:MGT}{v:Value}{xs:List Value}(h:TMk B w x)(M:w.ownsRow b 38 12 v n xs)(J:w.grownBy w' v.ownBlock):TMk B w' x:=h.kp fun k cs j=>J.block k j.lt fun e=>by
 rcases M.2 with⟨u,_⟩|⟨g,cap,C,u,_,I,_⟩
 ·rw[u]at e;cases e
 ·rw[u]at e;simp only[Value.ownBlock,Option.some.injEq]at e;subst e;unfold blk at j;rw[I]at j;simp only[Option.some.injEq,Obj.cells.injEq]at j;exact absurd j.2.1 (by decide)
theorem Lt {L:List EV}(h:w.ownsRow B 54 14 (.slice a n c) n (L.flatMap evC))(U:L.length=n):VR w a n c L∧∀b o,a=some ⟨b,o,none⟩→B≤b∧∃cs,blk w b 54 cs:=by
 refine⟨⟨U,fun h0=>?_,fun i x hx b o C j u hu=>?_⟩,fun b o C=>?_⟩
 ·obtain⟨g,I,C,O⟩:=cq h h0;exact⟨g,0,C⟩
 ·have hi:=(List.getElem?_eq_some_iff.1 hx).1;obtain⟨g,I,J,O⟩:=cq h (by omega);rw[C]at J;cases J;have hj:j<14:=(List.getElem?_eq_some_iff.1 hu).1
  have:=O.cell (s:=14) (enc:=evC) (fun _=>rfl) U hx hj
  rw[O.blk.cell,Nat.zero_add,this];exact hu
 ·rcases h.2 with⟨M,_⟩|⟨g,cap,I,M,h1,h2,_⟩
  ·simp only[Value.slice.injEq]at M;rw[M.1]at C;cases C
  ·simp only[Value.slice.injEq]at M;rw[M.1]at C;cases C;exact⟨h1,I.toList,by unfold Go.Proofs.YtkbhfjljieopoaaGreatDoor.blk;rw[h2]⟩
theorem Fd (h:k≤6):vp (pl0 k).I (pl0 k).L 6=(List.range k).map fun j=>((j:Nat):Int)+1:=by
 have:k=0∨k=1∨k=2∨k=3∨k=4∨k=5∨k=6:=by omega
 rcases this with rfl|rfl|rfl|rfl|rfl|rfl|rfl<;>decide
theorem Hi (hk:k≤6){l:PL}{j:Int}(C:l.I=(pl0 k).I)(h:xJ l ((i+1:Nat)) j):∃t:Nat,j=(t:Int)+1∧t<k∧t≠i:=by
 obtain⟨M,O,U,u,_⟩:=h;refine⟨(j-1).toNat,by omega,?_,by omega⟩;rw[C]at u;have J:(j-1).toNat<6:=by omega
 rw[List.getD_eq_getElem?_getD]at u;unfold pl0 at u;simp only[List.getElem?_map,List.getElem?_range J,Option.map_some,Option.getD_some,decide_eq_true_eq]at u;exact u
section
variable {w:World}{K:KV}{i:Nat}{X:RpX}{s:RS}
theorem VP (hr:ON w B a n c xs)(hl:xs.length=n)(hn:n≤1000)(hx:x∈xs)(h:K cT w):call Tryz.prog 30 #[.slice a n c,iv x] K w:=by
 refine aj (goK func30) (yH (aj (goK func60) (Bn (bj underlying96 ?_))));refine zx (Inv:=fun i wr=>∃q:Nat,i=iv (q:Nat)∧q≤n∧x∈xs.drop q∧w=wr) (μ:=fun i _=>n-(intOf i).toNat) ⟨0,rfl,Nat.zero_le _,by simpa using hx,rfl⟩ ?_;rintro _ dd _ mu ⟨q,rfl,hq,j,rfl⟩ I;have J:q<n:=by
  rcases Nat.lt_or_ge q n with h|h
  ·exact h
  ·rw[List.drop_of_length_le (by omega)]at j;cases j
 obtain⟨gb,C,ha,O⟩:=cq hr (by omega);have M:xs[q]? = some xs[q]:=List.getElem?_eq_getElem (by omega);rw[List.drop_eq_getElem_cons (by omega)]at j;generalize xs[q]=y at M j;have c0:C[q]? = some (iv y):=by
  have U:=O.take;have h2:(C.take (n*1))[q]? = some (iv y):=by rw[U,List.getElem?_map,M];rfl
  rwa[List.getElem?_take_of_lt (by omega)]at h2
 rw[ha];refine aM (ax (by omega) (dJ underlying96 (s:=1) (fun _=>by kernel_rfl) (by omega) (by omega) (lK (v:=iv y) O.blk (by rw[Int.toNat_natCast,Nat.zero_add,Nat.mul_one];exact c0) (cA ?_))));by_cases u:x=y
 ·exact ax u (bM (by rw[decide_eq_true (by omega)];exact h))
 ·refine aq u (aW (by omega) (by omega) ⟨⟨q+1,congrArg iv (by push_cast;rfl),J,(List.mem_cons.1 j).resolve_left u,rfl⟩,?_⟩);rw[I];show n-((q:Int)+1).toNat<n-(q:Int).toNat;omega
theorem FX {x:Int×Int}{K2:Value→KV}(h:∀w',blk w' w.heap.size 102 (wnC x)→Below w.heap.size w w'→K2 (pB w.heap.size) undef w'):alc Tryz.prog 102 (fun p=>sto Tryz.prog 102 p (.agg (wnC x).toArray) (K2 p)) w:=by
 refine dZ (z:=.agg (wnC (0,0)).toArray) (by kernel_rfl) fun C j b1 J=>?_;have j:blk C w.heap.size 102 (wnC (0,0)):=by simpa[Value.cells]using j
 refine jP (n:=2) (vs:=wnC x) (by kernel_rfl) rfl j (by show 0+2≤2;omega) (Ad x) fun I z2 u=>?_;exact h I z2 (bv b1 u (Nat.le_refl _))
theorem Mw {f t:Int}{V:List Int}(j:V.length=6)(h:K (.agg (mgC 1 f t V (.slice a n c) 0 0).toArray) w):bld Tryz.prog 38 #[(0,cb 1),(1,iv f),(2,iv t),(3,.agg (vCs V).toArray),(4,.slice a n c)] K w:=by
 obtain⟨_,_,_,_,_,_,rfl⟩:=rU j;exact eT (by kernel_rfl) h
theorem Mx {f t n:Int}{V:List Int}(j:V.length=6)(h:K (.agg (mgC 2 f t V (.slice none 0 0) n x).toArray) w):bld Tryz.prog 38 #[(0,cb 2),(1,iv f),(2,iv t),(3,.agg (vCs V).toArray),(5,u6 n),(6,iv x)] K w:=by
 obtain⟨_,_,_,_,_,_,rfl⟩:=rU j;exact eT (by kernel_rfl) h
end
end
section
attribute [local irreducible] bin un conv call bY blt slc aT fld aV idx lkp dO gY eSt rng nxt ent ext alc box bld bT ld sto aU dE mkS ifc pick rdy wts aI sti cond bp Gives ae fh fT cOp
open Go.RowKit
theorem JW {t:STA}(h:t.I.length=6)(j:t.L.length=6)(u:t.V.length=6):((saC t).drop 0).take 6=t.I.map .bool∧((saC t).drop 6).take 6=t.L.map .bool∧((saC t).drop 12).take 6=vCs t.V:=by
 obtain⟨I,L,V,N,J,M,C⟩:=t;obtain⟨_,_,_,_,_,_,rfl⟩:=rU h;obtain⟨_,_,_,_,_,_,rfl⟩:=rU j;obtain⟨_,_,_,_,_,_,rfl⟩:=rU u;exact⟨rfl,rfl,rfl⟩
theorem Br {I:List Bool}(h:I.length=6):jD Tryz.prog 3 41 (I.map .bool)=true:=by
 obtain⟨_,_,_,_,_,_,rfl⟩:=rU h
 kernel_rfl
theorem RR {x:ND}(h:x.A.length=54):jD Tryz.prog 6 52 (ndC x)=true:=by
 rw[←Cx h]
 kernel_rfl
theorem Kk (g:GR):jD Tryz.prog 3 126 (grC g)=true:=by kernel_rfl
theorem VC {B1 B2 : Nat} {t1 t2 : STA} {G : List GR} {g1 g2 : Option Addr} {c1 c2 : Nat} (k1 : SK w t1) (k2 : SK w t2) (eI : t2.I = t1.I) (eL : t2.L = t1.L) (eV : t2.V = t1.V) (eN : t2.nodes = t1.nodes) (v1 : t1.gv = .slice g1 G.length c1) (v2 : t2.gv = .slice g2 G.length c2)
    (r1 : w.ownsRow B1 126 5 (.slice g1 G.length c1) G.length (G.flatMap grC)) (r2 : w.ownsRow B2 126 5 (.slice g2 G.length c2) G.length (G.flatMap grC)) (hG : G.length ≤ 1000000)
    (h : ∀ w', Below w.heap.size w w' → K cT w') : call Tryz.prog 18 #[.agg (saC t1).toArray, .agg (saC t2).toArray] K w := by
  have hcl : ∀ t : STA, (Value.agg (saC t).toArray).cells.toList = saC t := fun t => by simp [Value.cells]
  obtain ⟨a1, a2, a3⟩ := JW k1.i6 k1.l6 k1.v6
  obtain ⟨b1, b2, b3⟩ := JW k2.i6 k2.l6 k2.v6
  rw [eI] at b1; rw [eL] at b2; rw [eV] at b3
  refine aj (goK Tryz.func18) (Gq (cv fun w1 z1 l1 s1 => cv fun w2 z2 l2 s2 => ?_))
  rw [hcl] at z1 z2
  have z1 := ac l2 z1 z1.lt
  have l02 := l1.trans (l2.mono l1.size)
  have k1' := k1.bel l02 (Nat.le_refl _)
  have k2' := k2.bel l02 (Nat.le_refl _)
  have d18a := JV k1.i6 k1.l6 k1.v6
  have d18b := JV k2.i6 k2.l6 k2.v6
  have d19a := Oc k1.i6 k1.l6 k1.v6
  have d19b := Oc k2.i6 k2.l6 k2.v6
  rw [eN] at d18b
  rw [v1] at d19a; rw [v2] at d19b
  refine uO (ldA (n := 6) (vs := t1.I.map .bool) Tryz.underlying41 rfl (by kernel_rfl) z1 a1 (by simp [k1.i6]) (uO (ldA (n := 6) (vs := t1.I.map .bool) Tryz.underlying41 rfl (by kernel_rfl) z2 b1 (by simp [k1.i6]) ?_)))
  refine wu 3 (by omega) (by kernel_rfl) (by kernel_rfl) (Br k1.i6) (Br k1.i6) fun r hr => ?_
  rw [hr.2 rfl]
  refine lR (zR (ldA (n := 6) (vs := t1.L.map .bool) Tryz.underlying41 rfl (by kernel_rfl) z1 a2 (by simp [k1.l6]) (zR (ldA (n := 6) (vs := t1.L.map .bool) Tryz.underlying41 rfl (by kernel_rfl) z2 b2 (by simp [k1.l6]) ?_))))
  refine wu 3 (by omega) (by kernel_rfl) (by kernel_rfl) (Br k1.l6) (Br k1.l6) fun r hr => ?_
  rw [hr.2 rfl]
  refine dA (lR (ot (ldA (n := 6) (vs := vCs t1.V) Tryz.underlying35 rfl (by kernel_rfl) z1 a3 (by rw [bQ]; exact k1.v6) (ot (ldA (n := 6) (vs := vCs t1.V) Tryz.underlying35 rfl (by kernel_rfl) z2 b3 (by rw [bQ]; exact k1.v6) ?_)))))
  refine wu 3 (by omega) (by kernel_rfl) (by kernel_rfl) (Gj k1.v6) (Gj k1.v6) fun r hr => ?_
  rw [hr.2 rfl]
  refine dA (lR (jO (ld1 (v := .slice t1.na t1.nodes.length t1.nc) (fun _ => by kernel_rfl) z1 d18a (bj Tryz.underlying42 (jO (ld1 (v := .slice t2.na t1.nodes.length t2.nc) (fun _ => by kernel_rfl) z2 d18b (bj Tryz.underlying42 (bN ?_))))))))
  refine dA (dX (by simp) (fj (ld1 (v := .slice g1 G.length c1) (fun _ => by kernel_rfl) z1 d19a (bj Tryz.underlying43 (fj (ld1 (v := .slice g2 G.length c2) (fun _ => by kernel_rfl) z2 d19b (bj Tryz.underlying43 (bN ?_))))))))
  refine bw (by simp) (aq (by simp) ?_)
  have hn := k1.few
  refine Ej (Inv := fun i wr => ∃ k : Nat, i = iv (k : Nat) ∧ k ≤ t1.nodes.length ∧ Below w2.heap.size w2 wr) (μ := fun i _ => t1.nodes.length - (intOf i).toNat) ⟨0, rfl, Nat.zero_le _, Below.refl _ _⟩ ?_
  rintro _ dd w3 mu ⟨k, rfl, hk, l3⟩ hmu
  have y1 := ac l3 z1 z1.lt
  have y2 := ac l3 z2 z2.lt
  refine jO (ld1 (v := .slice t1.na t1.nodes.length t1.nc) (fun _ => by kernel_rfl) y1 d18a (bj Tryz.underlying42 (aM ?_)))
  by_cases hlt : k < t1.nodes.length
  · have hx : t1.nodes[k]? = some t1.nodes[k] := List.getElem?_eq_getElem hlt
    generalize t1.nodes[k] = x at hx
    have hx2 : t2.nodes[k]? = some x := by rw [eN]; exact hx
    have n1 := (k1'.bel l3 (Nat.le_refl _)).nr
    have n2 := (k2'.bel l3 (Nat.le_refl _)).nr
    obtain ⟨p1, o1, ha1⟩ := n1.some_ (by omega)
    obtain ⟨p2, o2, ha2⟩ := n2.some_ (by rw [eN]; omega)
    have n1 := n1.bel (Below.refl w3.heap.size w3).drew (Nat.le_refl _)
    have n2 := n2.bel (Below.refl w3.heap.size w3).drew (Nat.le_refl _)
    refine ax (by omega) ?_
    refine aH (fun K hK => jO hK) (aH (v := .slice t1.na t1.nodes.length t1.nc) (fun K hK => ld1 (fun _ => by kernel_rfl) y1.drew d18a hK) ?_)
    refine aH (v := .pointer (some ⟨p1, o1 + k * 56, none⟩)) (fun K hK => by
      rw [ha1]
      exact dJ Tryz.underlying42 (s := 56) (fun _ => by kernel_rfl) (by omega) (by omega) (by rw [Int.toNat_natCast]; exact hK)) ?_
    refine aH (v := .agg (ndC x).toArray) (fun K hK => Vb n1 ha1 hx hK) ?_
    refine aH (fun K hK => jO hK) (aH (v := .slice t2.na t1.nodes.length t2.nc) (fun K hK => ld1 (fun _ => by kernel_rfl) y2.drew d18b hK) ?_)
    refine aH (v := .pointer (some ⟨p2, o2 + k * 56, none⟩)) (fun K hK => by
      rw [ha2]
      exact dJ Tryz.underlying42 (s := 56) (fun _ => by kernel_rfl) (by omega) (by omega) (by rw [Int.toNat_natCast]; exact hK)) ?_
    refine aH (v := .agg (ndC x).toArray) (fun K hK => Vb n2 ha2 hx2 hK) ?_
    have hf := RR (n1.A54 x (List.mem_of_getElem? hx))
    refine aH (v := .bool false) (fun K hK => wu 6 (by omega) (by kernel_rfl) (by kernel_rfl) hf hf fun r hr => by rw [hr.2 rfl]; exact hK) ?_
    refine aO (aW (by omega) (by omega) ⟨⟨k + 1, congrArg iv (by push_cast; rfl), hlt, l3.drew⟩, ?_⟩)
    rw [hmu]; show t1.nodes.length - ((k : Int) + 1).toNat < t1.nodes.length - (k : Int).toNat; omega
  refine aq (by omega) (El ?_)
  have r1 := cJ r1 fun k hk => l02.block k (World.ownsRow.lt r1 k hk).2
  have r2 := cJ r2 fun k hk => l02.block k (World.ownsRow.lt r2 k hk).2
  refine Ek (Inv := fun i wr => ∃ k : Nat, i = iv (k : Nat) ∧ k ≤ G.length ∧ Below w2.heap.size w2 wr) (μ := fun i _ => G.length - (intOf i).toNat) ⟨0, rfl, Nat.zero_le _, l3⟩ ?_
  rintro _ dd w4 mu ⟨k, rfl, hk, l4⟩ hmu
  have y1 := ac l4 z1 z1.lt
  have y2 := ac l4 z2 z2.lt
  refine fj (ld1 (v := .slice g1 G.length c1) (fun _ => by kernel_rfl) y1 d19a (bj Tryz.underlying43 (aM ?_)))
  by_cases hlt : k < G.length
  · have hx : G[k]? = some G[k] := List.getElem?_eq_getElem hlt
    generalize G[k] = x at hx
    have r1 := cJ r1 (w' := w4.drew) fun k hk => l4.drew.block k (World.ownsRow.lt r1 k hk).2
    have r2 := cJ r2 (w' := w4.drew) fun k hk => l4.drew.block k (World.ownsRow.lt r2 k hk).2
    refine ax (by omega) ?_
    refine aH (fun K hK => fj hK) (aH (v := .slice g1 G.length c1) (fun K hK => ld1 (fun _ => by kernel_rfl) y1.drew d19a hK) ?_)
    obtain ⟨p1, cur1, ha1, op1⟩ := cq r1 (by omega)
    obtain ⟨p2, cur2, ha2, op2⟩ := cq r2 (by omega)
    refine aH (v := .pointer (some ⟨p1, 0 + k * 5, none⟩)) (fun K hK => by
      rw [ha1]
      exact dJ Tryz.underlying43 (s := 5) (fun _ => by kernel_rfl) (by omega) (by omega) (by rw [Int.toNat_natCast]; exact hK)) ?_
    refine aH (v := .agg (grC x).toArray) (fun K hK => ldA (n := 5) (vs := grC x) Tryz.underlying126 rfl (by kernel_rfl) op1.blk (by rw [Nat.zero_add]; exact op1.elem iI rfl hx) rfl hK) ?_
    refine aH (fun K hK => fj hK) (aH (v := .slice g2 G.length c2) (fun K hK => ld1 (fun _ => by kernel_rfl) y2.drew d19b hK) ?_)
    refine aH (v := .pointer (some ⟨p2, 0 + k * 5, none⟩)) (fun K hK => by
      rw [ha2]
      exact dJ Tryz.underlying43 (s := 5) (fun _ => by kernel_rfl) (by omega) (by omega) (by rw [Int.toNat_natCast]; exact hK)) ?_
    refine aH (v := .agg (grC x).toArray) (fun K hK => ldA (n := 5) (vs := grC x) Tryz.underlying126 rfl (by kernel_rfl) op2.blk (by rw [Nat.zero_add]; exact op2.elem iI rfl hx) rfl hK) ?_
    refine aH (v := .bool false) (fun K hK => wu 3 (by omega) (by kernel_rfl) (by kernel_rfl) (Kk x) (Kk x) fun r hr => by rw [hr.2 rfl]; exact hK) ?_
    refine aO (aW (by omega) (by omega) ⟨⟨k + 1, congrArg iv (by push_cast; rfl), hlt, l4.drew⟩, ?_⟩)
    rw [hmu]; show G.length - ((k : Int) + 1).toNat < G.length - (k : Int).toNat; omega
  exact aq (by omega) (Em (h w4 (l02.trans (l4.mono l02.size))))
end
section
attribute [local irreducible] bin un conv call bY blt slc aT fld aV idx lkp dO gY eSt rng nxt ent ext alc box bld bT ld sto aU dE mkS ifc pick rdy wts aI sti cond bp Gives ae fh fT cOp
open Go.RowKit Go.ChangeMaps
theorem SO.chl {s:PL}{t:STA}(h:SO w B s t a gc)(C:Ch F w w')(hF:∀k∈F,k<B):SO w' B s t a gc :=
 {h with
  nd:=cJ h.nd fun k j=>C.block k (World.ownsRow.lt h.nd k j).2 fun u=>by have:=hF k u;have:=(World.ownsRow.lt h.nd k j).1;omega
  gr:=cJ h.gr fun k j=>C.block k (World.ownsRow.lt h.gr k j).2 fun u=>by have:=hF k u;have:=(World.ownsRow.lt h.gr k j).1;omega}
theorem RepW.low {X:RpX}{s:RS}(h:RepW w i X s)(j:∀k∈AF X,k<B)(u:Below B w w'):RepW w' i X s:=h.keep fun k C=>u.block k (j k C)
theorem yF :some (iv ((i+1:Nat)))=some (iv ((i:Int)+1)):=congrArg (fun z=>some (iv z)) (by push_cast;rfl)
section
variable {w:World}{K:KV}{i:Nat}{X:RpX}{s:RS}
theorem KA {L:List Int}{K2:Value→KV}(U:ON w B a n c L)(O:L.length=n)(J:L[j]? = some x)(h:∀u,K2 u (iv x) w):aV Tryz.prog 96 (.slice a n c) (iv (j:Nat)) (fun u w=>ld Tryz.prog 3 u (K2 u) w) w:=by
 have hj:j<n:=by rw[←O];exact(List.getElem?_eq_some_iff.1 J).1
 obtain⟨g,C,rfl,M⟩:=cq U (by omega);refine dJ underlying96 (s:=1) (fun _=>by kernel_rfl) (by omega) (by omega) ?_;rw[Int.toNat_natCast];refine lK (v:=iv x) M.blk ?_ (h _);have I:(C.take (n*1))[j]? = some (iv x):=by rw[M.take,List.getElem?_map,J];rfl
 rw[List.getElem?_take_of_lt (by omega)]at I;rw[Nat.zero_add,Nat.mul_one];exact I
theorem CO {now:Int}(h:RepW w i X s)(M:PI s.l)(ea:i<k)(ed:k≤6)(hG:s.l.G.length≤1000000)(eI:s.l.I=(pl0 k).I)(eL:s.l.L=(pl0 k).L)(hA:∀e∈s.A,e.q<6)(fv:s.A.Pairwise fun a b=>a.q=b.q→a.s<b.s)(eP:s.A.length≤1000)(u:∀w' X' (T:List MGT) oa oc,StpX w w' X X'→RepW w' i X' s→(∀x∈T,wU k i s x∧TMk w.heap.size w' x)→(∀j,j<k→j≠i→∃x∈T,x.1.k=1∧x.1.t=j)→T.length≤38∧(X.ws=[]→T.length+1=k)→w'.ownsRow w.heap.size 38 12 (.slice oa T.length oc) T.length (T.flatMap tmC)→(∀k∈AF X',k<w.heap.size)→K (.slice oa T.length oc) w'):call Tryz.prog 10 #[pB X.R.p,u6 now] K w:=by
 have hX:=h.lt;refine aj (goK func10) (Bl (wy (aO (ai (uN (lK (v:=pB X.R.q.p) h.rp.b rfl ?_))))));refine HG h.rp.pm M hG fun w1 t ga gc so b1=>?_;have bn:(saC t).length=20:=rA (by rw[so.eI];exact M.i6) (by rw[so.eL];exact M.l6) (by rw[so.eV];exact M.v6);have fw:∀v∈saC t,v.oneCell'=true:=by
  intro v hv;unfold saC at hv;rw[so.gv]at hv;simp only[List.mem_append,List.mem_map,List.mem_cons,List.not_mem_nil,or_false]at hv;rcases hv with((⟨_,_,rfl⟩|⟨_,_,rfl⟩)|⟨_,_,rfl⟩)|(rfl|rfl)<;>rfl
 refine dZ (z:=.agg (saC ⟨List.replicate 6 false,List.replicate 6 false,List.replicate 6 0,[],none,0,.slice none 0 0⟩).toArray) (by kernel_rfl) fun w2 z2 b2 s2=>?_;have z2:blk w2 w1.heap.size 45 (saC ⟨List.replicate 6 false,List.replicate 6 false,List.replicate 6 0,[],none,0,.slice none 0 0⟩):=by simpa[Value.cells]using z2
 refine jP (n:=20) (vs:=saC t) (by kernel_rfl) bn z2 (by show 0+20≤20;omega) fw fun w3 z3 o3=>?_;rw[List.take_zero,List.nil_append,List.drop_of_length_le (by show 20≤0+20;omega),List.append_nil]at z3;have dq:Below w1.heap.size w1 w3:=bv b2 o3 (Nat.le_refl _);have bs:=b1.trans (dq.mono b1.size)
 have ldS:∀{y:World} {K:KV},blk y w1.heap.size 45 (saC t)→K (.agg (saC t).toArray) y→ld Tryz.prog 45 (pB w1.heap.size) K y:=fun hy u=>ldA (n:=20) (vs:=saC t) underlying45 rfl (by kernel_rfl) hy (by rw[List.drop_zero,List.take_of_length_le (by omega)]) bn u;have eu:=so.fresh dq;refine ldS z3 (Vg (eu.sk M) fun w4 la lc ho b4=>?_);rw[so.eI,so.eL,eI,eL,Fd ed]at ho ⊢
 have a7:((List.range k).map fun j=>((j:Nat):Int)+1).length=k:=by simp
 have ca:∀q,q<k→((List.range k).map fun j=>((j:Nat):Int)+1)[q]? = some ((q:Int)+1):=fun q hq=>by rw[List.getElem?_map,List.getElem?_range hq];rfl
 generalize (List.range k).map (fun j=>((j:Nat):Int)+1)=Lv at ho a7 ca ⊢;rw[a7]at ho ⊢;have gm:=eu.fresh b4;have a2:=bs.trans (b4.mono bs.size);have h4:=h.below a2;have z4:=ac b4 z3 z3.lt;refine ai (wG (lK (v:=iv ((i:Int)+1)) h4.rp.b yF (VP ho a7 (by omega) (List.mem_of_getElem? (ca i ea)) (dB (aO (ai (LD (lK (v:=pB X.R.d) h4.rp.b rfl ?_))))))))
 refine SZ h4.dm fun w5 a0 c0 T0 b5 g3 eb cf r0=>bj underlying99 ?_;have dp:=a2.trans (b5.mono a2.size);have h5:=h4.below b5;have hc:=a2.size;have hd:=dp.size;have g7:=h.dm.mb.lt;have cO:∀b∈wB X.ws,b<w.heap.size:=fun b hb=>h.dm.lt b (by simp[hb])
 refine ze (Inv:=fun j wr=>∃(q:Nat) (c5:List (Int×Option Nat)),j=iv (q:Nat)∧q≤T0.length∧RepW wr i {X with ws:=c5} s∧StpX w5 wr X {X with ws:=c5}∧Ch [X.m] w5 wr∧(∀p∈c5,p∈X.ws∧∀(r:Nat) (x:Int×Int),r<q→T0[r]? = some x→x.1=p.1→nk s.l ((i:Int)+1) p.1<x.2)) (μ:=fun j _=>T0.length-(intOf j).toNat)
  ⟨0,X.ws,rfl,Nat.zero_le _,h5,.refl (Below.refl _ _),Ch.refl _ _,fun p M=>⟨M,fun r x hr=>by omega⟩⟩ ?_
 rintro _ dd w6 mu ⟨q,ws1,rfl,hq,h6,ew,c6,az⟩ fd;have gf:=c6.size;have aS:∀k∈wB ws1,k∈wB X.ws:=fun k C=>by
  obtain⟨p,M,e⟩:=kb.1 C;exact kb.2 ⟨p,(az p M).1,e⟩
 refine aM ?_;by_cases J:q<T0.length
 ·have hx:T0[q]? = some T0[q]:=List.getElem?_eq_getElem J;generalize T0[q]=x at hx;have r6:=cJ r0 (w':=w6) fun k C=>c6.block k (World.ownsRow.lt r0 k C).2 fun hh=>by have:=(World.ownsRow.lt r0 k C).1;rw[List.mem_singleton.1 hh]at this;omega
  refine ax (by omega) (rO (Ge (i:=q) (enc:=wnC) (s:=2) (L:=T0) (x:=x) underlying99 (fun _=>by kernel_rfl) underlying102 rfl (by kernel_rfl) (fun _=>rfl) r6 rfl hx fun _=>FX fun w7 z7 b7=>?_));have h7:=h6.below b7;refine aw (fun y=>blk y X.R.p 91 (rpC X.R i)∧blk y w6.heap.size 102 (wnC x)) ⟨h7.rp.b.drew,z7.drew⟩ ?_
  refine ab (fun y d _ u=>ai u) (ab (fun y d _ u=>uN u) (ab (v:=pB X.R.q.p) (fun y d _ u=>lK d.1 rfl u) ?_));refine ab (fun y d _ u=>ai u) (ab (fun y d _ u=>wG u) (ab (v:=iv ((i:Int)+1)) (fun y d _ u=>lK (v:=iv ((i:Int)+1)) d.1 yF u) ?_))
  refine ab (fun y d _ u=>lZ u) (ab (v:=u6 x.1) (fun y d _ u=>lK d.2 rfl u) (ab (fun y d _ u=>xu u) (ab (v:=iv x.2) (fun y d _ u=>lK d.2 rfl u) ?_)));have ap:=h7.below (Below.refl _ w7).drew;refine xA ap.rp.pm M fun w8 b8=>?_;have ag:Below w7.heap.size w7 w8:=(Below.refl _ w7).drew.trans b8;have bt:=b7.trans (ag.mono b7.size);have h8:=h6.below bt;have z8:=ac ag z7 z7.lt
  have ex:=ew.trans (.refl bt);have c8:Ch [X.m] w5 w8:=c6.add (bt.mono gf);have af:T0.length-(intOf (iv ((q:Int)+1))).toNat<mu:=by rw[fd];show T0.length-((q:Int)+1).toNat<T0.length-((q:Nat):Int).toNat;omega
  refine bR ⟨h8.rp.b,z8⟩ (ab (v:=.bool (decide (x.2≤nk s.l ((i:Int)+1) x.1))) (fun y _ _ u=>bM u) ?_);by_cases d6:x.2≤nk s.l ((i:Int)+1) x.1
  ·refine ax d6 (aw (fun y=>blk y X.R.p 91 (rpC X.R i)∧blk y w6.heap.size 102 (wnC x)) ⟨h8.rp.b.drew,z8.drew⟩ ?_);refine ab (fun y d _ u=>ai u) (ab (fun y d _ u=>LD u) (ab (v:=pB X.R.d) (fun y d _ u=>lK d.1 rfl u) ?_));refine ab (fun y d _ u=>lZ u) (ab (v:=u6 x.1) (fun y d _ u=>lK d.2 rfl u) ?_);have d1:=h8.below (Below.refl _ w8).drew
   refine Gn d1.dm fun w9 r9 d9 c9=>lg (aW (by omega) (by omega) ⟨⟨q+1,sM ws1 x.1,congrArg iv (by push_cast;rfl),J,?_,?_,?_,fun p M=>?_⟩,af⟩)
   ·exact d1.want d9 (c9.mono fun k C=>by rw[List.mem_singleton.1 C];exact List.mem_cons_self) fun k C=>by
     obtain⟨p,M,e⟩:=kb.1 C;exact .inl (kb.2 ⟨p,(FY.1 M).1,e⟩)
   ·exact(ex.trans (.refl (Below.refl _ w8).drew)).trans (.ws (X:={X with ws:=ws1}) (c9.mono fun k C=>by rw[List.mem_singleton.1 C];exact List.mem_cons_self) fun k C=>by
     obtain⟨p,M,e⟩:=kb.1 C;exact .inl (kb.2 ⟨p,(FY.1 M).1,e⟩))
   ·exact(c8.add ((Below.refl _ w8).drew.mono c8.size)).trans c9 fun k C=>.inl C
   ·obtain⟨fq,fn⟩:=FY.1 M;obtain⟨cp,cD⟩:=az p fq;refine⟨cp,fun r y hr hy e=>?_⟩;by_cases cL:r=q
    ·subst cL;rw[hx]at hy;cases hy;exact absurd e.symm fn
    ·exact cD r y (by omega) hy e
  ·refine aq d6 (lg (aW (by omega) (by omega) ⟨⟨q+1,ws1,congrArg iv (by push_cast;rfl),J,h8,ex,c8,fun p M=>?_⟩,af⟩));obtain⟨cp,cD⟩:=az p M;refine⟨cp,fun r y hr hy e=>?_⟩;by_cases cL:r=q
   ·subst cL;rw[hx]at hy;cases hy;rw[←e];omega
   ·exact cD r y (by omega) hy e
 -- all wants have gp gz
 have cI:q=T0.length:=by omega
 subst cI;have bk:StpX w w6 X {X with ws:=ws1}:=(StpX.refl dp).trans ew;have a9:∀k∈AF {X with ws:=ws1},k<w.heap.size:=fun k C=>by
  rcases gl.1 C with C|C|C|C|C
  ·exact hX k (gl.2 (.inl C))
  ·exact hX k (gl.2 (.inr (.inl C)))
  ·exact hX k (gl.2 (.inr (.inr (.inl C))))
  ·exact hX k (gl.2 (.inr (.inr (.inr (.inl C)))))
  ·refine hX k (gl.2 (.inr (.inr (.inr (.inr (gX.2 ?_))))));rcases gX.1 C with C|C|C
   ·exact .inl C
   ·exact .inr (.inl C)
   ·exact .inr (.inr (aS k C))
 have m6:∀k,w.heap.size≤k→k∉[X.m]:=fun k C hh=>by rw[List.mem_singleton.1 hh]at C;omega
 have en:ON w6 w3.heap.size la k lc Lv:=cJ (cJ ho fun k C=>b5.block k (World.ownsRow.lt ho k C).2) fun q hq=>by
  have h1:=World.ownsRow.lt ho q hq;exact c6.block q (by have:=b5.size;omega) (m6 q (by have:=bs.size;omega))
 have z6:blk w6 w1.heap.size 45 (saC t):=(ac b5 z4 z4.lt).ch c6 (m6 _ b1.size);have gn:SO w6 (w.heap.size+1) s.l t ga gc:=(gm.fresh b5).chl c6 fun k C=>by rw[List.mem_singleton.1 C];omega
 have aE:=bk.ch.size;have cutV:=(JW (t:=t) (by rw[so.eI];exact M.i6) (by rw[so.eL];exact M.l6) (by rw[so.eV];exact M.v6)).2.2;rw[so.eV]at cutV;have am:=M.v6;obtain⟨mi,ef,ek,eg,ee⟩:=info_parts Rt;refine aq (by omega) (rQ (bj underlying96 ?_))
 refine zh (Inv:=fun cV j wr=>∃(q:Nat) (T:List MGT) (oa:Option Addr) (oc:Nat),j=iv (q:Nat)∧q≤k∧cV=.slice oa T.length oc∧T.length+(if i<q then 1 else 0)=q∧Below w6.heap.size w6 wr∧(∀x∈T,wU k i s x∧TMk w.heap.size wr x)∧(∀j,j<q→j≠i→∃x∈T,x.1.k=1∧x.1.t=j)∧wr.ownsRow w6.heap.size 38 12 (.slice oa T.length oc) T.length (T.flatMap tmC)) (μ:=fun _ j _=>k-(intOf j).toNat)
  ⟨0,[],none,0,rfl,Nat.zero_le _,rfl,rfl,Below.refl _ _,by simp,fun j hj=>by omega,World.ownsRow_nil _ _ _ _⟩ ?_
 rintro _ _ dd w7 mu2 ⟨q,T,oa,oc,rfl,hq,rfl,a8,b7,hT,ce,r7⟩ ei;have gq:T.length≤q:=by omega
 have h7:=h6.low a9 (b7.mono aE);have z7:=ac b7 z6 z6.lt;have gk:=b7.size;refine aM ?_;by_cases J:q<k
 ·have fo:ON w7 w3.heap.size la k lc Lv:=cJ en fun k C=>b7.block k (World.ownsRow.lt en k C).2;have af:k-(intOf (iv ((q:Int)+1))).toNat<mu2:=by rw[ei];show k-((q:Int)+1).toNat<k-((q:Nat):Int).toNat;omega
  refine ax (by omega) (rV (KA fo a7 (ca q J) fun _=>ai (wG (lK (v:=iv ((i:Int)+1)) h7.rp.b yF (bN ?_)))));by_cases fr:q=i
  ·refine aq (by omega) (rW (aW (by omega) (by omega) ⟨⟨q+1,T,oa,oc,congrArg iv (by push_cast;rfl),J,rfl,by rw[if_neg (by omega)]at a8;rw[if_pos (by omega)];omega,b7,hT,fun j hj av=>?_,r7⟩,af⟩));exact ce j (by omega) av
  ·have g9:s.P.length=6:=h.rp.e.l6;have hv:s.P[q]? = some s.P[q]:=List.getElem?_eq_getElem (by omega);generalize s.P[q]=v at hv;refine ax (by omega) (aw (fun y=>blk y X.R.p 91 (rpC X.R i)∧blk y w1.heap.size 45 (saC t)) ⟨h7.rp.b.drew,z7.drew⟩ ?_);refine ab (fun y d _ u=>ai u) (ab (fun y d _ u=>wG u) (ab (v:=iv ((i:Int)+1)) (fun y d _ u=>lK (v:=iv ((i:Int)+1)) d.1 yF u) ?_))
   refine ab (fun y d _ u=>ot u) (ab (fun y d _ u=>ldA (n:=6) (vs:=vCs s.l.V) underlying35 rfl (by kernel_rfl) d.2 cutV (by rw[bQ];exact am) u) ?_);refine ab (fun y d _ u=>ai u) (ab (fun y d _ u=>LA u) (ab (v:=pB X.R.e) (fun y d _ u=>lK d.1 rfl u) ?_));refine ab (fun y d _ u=>ai u) (ab (fun y d _ u=>yp u) (ab (v:=pB X.R.g) (fun y d _ u=>lK d.1 rfl u) ?_))
   have ap:=h7.below (Below.refl _ w7).drew;refine Tw ap.rp.e (by omega) hv ap.rp.g ap.it hA fv eP fun w8 fa fc r8 b8=>?_;have ag:Below w7.heap.size w7 w8:=(Below.refl _ w7).drew.trans b8;have z8:=ac ag z7 z7.lt;refine bR ⟨(h7.below ag).rp.b,z8⟩ ?_;obtain⟨x,hx⟩:∃x:MGT,x=(⟨1,i,q,s.l.V,0,0,tl s.A v⟩,fa,fc):=⟨_,rfl⟩
   have em:mgC 1 ((i:Int)+1) ((q:Int)+1) s.l.V (.slice fa (tl s.A v).length fc) 0 0=tmC x:=by rw[hx,yd am]
   refine ab (v:=.agg (tmC x).toArray) (fun y d _ u=>Mw am (by rw[em];exact u)) ?_;refine mY [.agg (tmC x).toArray] underlying30 (s:=12) (by kernel_rfl) (by kernel_rfl) (by omega) rfl (by simp) (by decide) rfl (by
    intro v hv;rw[List.mem_singleton.1 hv]
    have:=jN x
    simpa[Value.cells]using this) fun w9 m9 b9 s9=>?_
   have m9:blk w9 w8.heap.size 38 (tmC x):=by simpa[Value.cells]using m9
   have a4:=ag.trans (b9.mono ag.size);have r9:=cJ r7 (w':=w9) fun k C=>a4.block k (World.ownsRow.lt r7 k C).2;have hi:=a4.size;refine aw (fun _=>True) trivial (tf (enc:=tmC) (x:=x) underlying30 ef ek eg ee rfl (by omega) jN r9 m9 (yh x) (by omega) (by omega) (by omega) fun a' c' w10 f7 dz an _=>?_);have hl:(T++[x]).length=T.length+1:=by simp
   have d5:(T++[x]).length+(if i<q+1 then 1 else 0)=q+1:=by
    rw[hl];by_cases ec:i<q
    ·rw[if_pos ec]at a8;rw[if_pos (by omega)];omega
    ·rw[if_neg ec]at a8;rw[if_neg (by omega)];omega
   refine aw (fun _=>True) trivial (rW (aW (by omega) (by omega) ⟨⟨q+1,T++[x],a',c',congrArg iv (by push_cast;rfl),J,congrArg (fun n=>Value.slice a' n c') hl.symm,d5,(b7.trans (a4.mono gk)).trans an,fun y hy=>?_,fun j hj av=>?_,by rw[hl];exact f7⟩,af⟩))
   ·rcases List.mem_append.1 hy with hy|hy
    ·obtain⟨y1,y2⟩:=hT y hy;exact⟨y1,(y2.below a4).grow r9 dz⟩
    ·rw[List.mem_singleton.1 hy];obtain⟨v1,v2⟩:=Lt r8 rfl;subst hx;refine⟨⟨rfl,J,fr,rfl,.inl ⟨rfl,rfl,rfl,v,hv,rfl⟩⟩,TMk.grow (TMk.below (w:=w8) ⟨v1,fun b o ha=>?_⟩ b9) r9 dz⟩;obtain⟨e1,e2⟩:=v2 b o ha;exact⟨by have d7:w7.drew.heap.size=w7.heap.size:=rfl;omega,e2⟩
   ·by_cases e8:j=q
    ·exact⟨x,by simp,by rw[hx],by rw[hx,e8]⟩
    ·obtain⟨y,y1,y2⟩:=ce j (by omega) av;exact⟨y,List.mem_append_left _ y1,y2⟩
 -- those that are to be asked for
 have cI:q=k:=by omega
 subst cI;refine aq (by omega) (zo (ai (LD (lK (v:=pB X.R.d) h7.rp.b rfl ?_))));refine UJ h7.dm fun w8 a1 c1 T1 d8 c8 hs g4 bi r8=>bj underlying99 ?_;have d2:∀x∈T1,nk s.l ((i:Int)+1) x.1<x.2∧x.2≤qW∧x.1≠0:=fun x hx=>by
  obtain⟨b,t1,y1,hm,hb⟩:=bi x hx;obtain⟨cm,fb⟩:=az _ hm;obtain⟨x0,eo,e0⟩:=cf _ cm;obtain⟨b0,t0,y0,e9,d4⟩:=eb x0 eo;have el:=h.dm.mb.nodup;have g1:=nN el cm;have g2:=nN el e9;rw[e0,g1]at g2;cases g2;have eR:blk w7 b 162 (wtC x0.1 x0.2 t0 y0):=by
   have g6:b<w.heap.size:=cO b (kb.2 ⟨_,cm,rfl⟩);have e5:=ac b5 d4 d4.lt;have e6:=e5.ch c6 fun hh=>h5.dm.mb.ne e5 (List.mem_singleton.1 hh);exact ac b7 e6 e6.lt
  obtain⟨e1,e2⟩:=wT eR hb;obtain⟨r,hr⟩:=List.getElem?_of_mem eo
  have:=fb r x0 (List.getElem?_eq_some_iff.1 hr).1 hr e1
  obtain⟨b3,a3,t3,y3,f1,f2,f3,f4,f5⟩:=h7.dm.wt _ hm;cases f1;obtain⟨_,e4⟩:=wT f2 hb;exact⟨by rw[←e2];exact this,by omega,f5⟩
 have h8:RepW w8 i {X with ws:=ws1} s:=h7.want d8 (c8.mono fun k C=>List.mem_cons_of_mem _ C) fun k C=>.inl C;have al:StpX w w8 X {X with ws:=ws1}:=(bk.trans (.refl b7)).trans (.ws (X:={X with ws:=ws1}) (c8.mono fun k C=>List.mem_cons_of_mem _ C) fun k C=>.inl C);have eN:Ch (wB ws1) w6 w8:=(Ch.of_below b7:Ch (wB ws1) w6 w7).trans c8 fun k C=>.inl C
 have nb:∀k,w.heap.size≤k→k∉wB ws1:=fun k C hh=>by have:=cO k (aS k hh);omega
 have f9:=cJ r7 (w':=w8) fun k C=>c8.block k (World.ownsRow.lt r7 k C).2 (nb k (by have:=(World.ownsRow.lt r7 k C).1;omega));have hg:=c8.size;have T8:∀x∈T,wU q i s x∧TMk w.heap.size w8 x:=fun x hx=>by
  obtain⟨y1,y2⟩:=hT x hx;exact⟨y1,y2.kp fun k cs C=>c8.block k C.lt fun hh=>by
   obtain⟨_,_,_,_,hb,_⟩:=h7.dm.isw hh;exact absurd rfl (hb.ne C (by decide))⟩
 refine zj (Inv:=fun cV j wr=>∃(p:Nat) (T':List MGT) (oa:Option Addr) (oc:Nat),j=iv (p:Nat)∧p≤T1.length∧cV=.slice oa T'.length oc∧(T.length≤T'.length∧T'.length≤T.length+p)∧Below w6.heap.size w8 wr∧w8.heap.size≤wr.heap.size∧(∀x∈T',wU q i s x∧TMk w.heap.size wr x)∧(∀j,j<q→j≠i→∃x∈T',x.1.k=1∧x.1.t=j)∧wr.ownsRow w6.heap.size 38 12 (.slice oa T'.length oc) T'.length (T'.flatMap tmC)∧wr.ownsRow w7.heap.size 102 2 (.slice a1 T1.length c1) T1.length (T1.flatMap wnC)) (μ:=fun _ j _=>T1.length-(intOf j).toNat)
  ⟨0,T,oa,oc,rfl,Nat.zero_le _,rfl,⟨Nat.le_refl _,Nat.le_refl _⟩,Below.refl _ _,Nat.le_refl _,T8,ce,f9,r8⟩ ?_
 rintro _ _ dd w9 mu3 ⟨p,T',ep,er,rfl,g8,rfl,⟨d3,g5⟩,b9,hn,cc,ar,r9,q9⟩ ej;refine aM ?_;by_cases J:p<T1.length
 ·have af:T1.length-(intOf (iv ((p:Int)+1))).toNat<mu3:=by rw[ej];show T1.length-((p:Int)+1).toNat<T1.length-((p:Nat):Int).toNat;omega
  have hx:T1[p]? = some T1[p]:=List.getElem?_eq_getElem J;generalize T1[p]=x at hx;obtain⟨k1,k2,k3⟩:=d2 x (List.mem_of_getElem? hx);refine ax (by omega) (rP (Ge (i:=p) (enc:=wnC) (s:=2) (L:=T1) (x:=x) underlying99 (fun _=>by kernel_rfl) underlying102 rfl (by kernel_rfl) (fun _=>rfl) q9 rfl hx fun _=>FX fun w10 c7 an=>?_));have bb:Below w6.heap.size w8 w10:=b9.trans (an.mono (by omega))
  have bg:Ch (wB ws1) w6 w10:=eN.add bb;have dg:=z6.ch bg (nb _ b1.size);have dF:=h8.low a9 (bb.mono aE);have et:=gn.chl bg fun k C=>by have:=cO k (aS k C);omega
  refine aw (fun y=>(blk y X.R.p 91 (rpC X.R i)∧blk y w1.heap.size 45 (saC t))∧blk y w9.heap.size 102 (wnC x)) ⟨⟨dF.rp.b.drew,dg.drew⟩,c7.drew⟩ <|ab (fun y d _ u=>ldS d.1.2 u) ?_;refine ab (fun y d _ u=>ai u) (ab (fun y d _ u=>wG u) (ab (v:=iv ((i:Int)+1)) (fun y d _ u=>lK (v:=iv ((i:Int)+1)) d.1.1 yF u) ?_))
  refine ab (fun y d _ u=>lZ u) (ab (v:=u6 x.1) (fun y d _ u=>lK d.2 rfl u) ?_);have ba:Below w10.heap.size w10 w10.drew:=(Below.refl _ w10).drew;refine LP (s:=s.l) ((et.fresh ba).sk M) so.eI so.eL fun w11 j hj ez=>?_;have aa:Below w10.heap.size w10 w11:=ba.trans ez;have ad:=an.trans (aa.mono an.size);have gs:=ad.size;refine aw (fun _=>True) trivial (bN ?_)
  have dj:=ac aa dg dg.lt;have b6:=dF.below aa;have da:=ac aa c7 c7.lt;have cX:=cJ q9 (w':=w11) fun k C=>ad.block k (World.ownsRow.lt q9 k C).2;have c2:=cJ r9 (w':=w11) fun k C=>ad.block k (World.ownsRow.lt r9 k C).2;have dk:∀x∈T',wU q i s x∧TMk w.heap.size w11 x:=fun x hx=>⟨(cc x hx).1,(cc x hx).2.below ad⟩
  have bd:Below w6.heap.size w8 w11:=b9.trans (ad.mono (by omega));by_cases cl:j≠0
  ·obtain⟨jt,rfl,e3,e7⟩:=Hi ed eI (by
    have:=hj.resolve_left cl
    rw[show ((i+1:Nat):Int)=(i:Int)+1 by push_cast;rfl];exact this)
   refine ax cl (aw (fun y=>(blk y X.R.p 91 (rpC X.R i)∧blk y w1.heap.size 45 (saC t))∧blk y w9.heap.size 102 (wnC x)) ⟨⟨b6.rp.b.drew,dj.drew⟩,da.drew⟩ ?_);refine ab (fun y d _ u=>ai u) (ab (fun y d _ u=>wG u) (ab (v:=iv ((i:Int)+1)) (fun y d _ u=>lK (v:=iv ((i:Int)+1)) d.1.1 yF u) ?_))
   refine ab (fun y d _ u=>ot u) (ab (fun y d _ u=>ldA (n:=6) (vs:=vCs s.l.V) underlying35 rfl (by kernel_rfl) d.1.2 cutV (by rw[bQ];exact am) u) ?_);refine ab (fun y d _ u=>lZ u) (ab (v:=u6 x.1) (fun y d _ u=>lK d.2 rfl u) (ab (fun y d _ u=>xu u) (ab (v:=iv x.2) (fun y d _ u=>lK d.2 rfl u) ?_)))
   refine ab (fun y d _ u=>ai u) (ab (fun y d _ u=>uN u) (ab (v:=pB X.R.q.p) (fun y d _ u=>lK d.1.1 rfl u) ?_));refine ab (fun y d _ u=>ai u) (ab (fun y d _ u=>wG u) (ab (v:=iv ((i:Int)+1)) (fun y d _ u=>lK (v:=iv ((i:Int)+1)) d.1.1 yF u) ?_));refine ab (fun y d _ u=>lZ u) (ab (v:=u6 x.1) (fun y d _ u=>lK d.2 rfl u) ?_);have d0:=b6.below (Below.refl _ w11).drew
   refine xA d0.rp.pm M fun w12 eA=>?_;have O:Below w11.heap.size w11 w12:=(Below.refl _ w11).drew.trans eA;have gr:=GZ (s:=s.l) (i:=(i:Int)+1) (node:=x.1);have g0:qW=1125899906842624:=rfl
   refine bR ⟨⟨(b6.below O).rp.b,ac O dj dj.lt⟩,ac O da da.lt⟩ <|ab (v:=iv (x.2-nk s.l ((i:Int)+1) x.1)) (fun y _ _ u=>bh (by show _≤x.2-nk s.l ((i:Int)+1) x.1;omega) (by show x.2-nk s.l ((i:Int)+1) x.1≤_;omega) u) ?_;obtain⟨m,hm⟩:∃m:MGT,m=(⟨2,i,jt,s.l.V,x.1,x.2-nk s.l ((i:Int)+1) x.1,[]⟩,none,0):=⟨_,rfl⟩
   have em:mgC 2 ((i:Int)+1) ((jt:Int)+1) s.l.V (.slice none 0 0) x.1 (x.2-nk s.l ((i:Int)+1) x.1)=tmC m:=by rw[hm,yd am];rfl
   refine ab (v:=.agg (tmC m).toArray) (fun y d _ u=>Mx am (by rw[em];exact u)) ?_;refine mY [.agg (tmC m).toArray] underlying30 (s:=12) (by kernel_rfl) (by kernel_rfl) (by omega) rfl (by simp) (by decide) rfl (by
    intro v hv;rw[List.mem_singleton.1 hv]
    have:=jN m
    simpa[Value.cells]using this) fun c4 cR dr he=>?_
   have cR:blk c4 w12.heap.size 38 (tmC m):=by simpa[Value.cells]using cR
   have U:=O.trans (dr.mono O.size);have c3:=cJ c2 (w':=c4) fun k C=>U.block k (World.ownsRow.lt c2 k C).2;have f6:=cJ cX (w':=c4) fun k C=>U.block k (World.ownsRow.lt cX k C).2;have gb:=U.size
   refine aw (fun _=>True) trivial (tf (enc:=tmC) (x:=m) underlying30 ef ek eg ee rfl (by omega) jN c3 cR (yh m) (by omega) (by omega) (by omega) fun a' c' ht f8 bW eM _=>?_);have hl:(T'++[m]).length=T'.length+1:=by simp
   have hf:=bW.size;refine aw (fun _=>True) trivial (ll (aW (by omega) (by omega) ⟨⟨p+1,T'++[m],a',c',congrArg iv (by push_cast;rfl),J,congrArg (fun n=>Value.slice a' n c') hl.symm,⟨by rw[hl];omega,by rw[hl];omega⟩,(bd.trans (U.mono (by omega))).trans eM,by omega,fun y hy=>?_,fun j hj av=>?_,by rw[hl];exact f8,sR f6 c3 (by decide) bW⟩,af⟩))
   ·rcases List.mem_append.1 hy with hy|hy
    ·obtain⟨y1,y2⟩:=dk y hy;exact⟨y1,(y2.below U).grow c3 bW⟩
    ·rw[List.mem_singleton.1 hy];subst hm;refine⟨⟨rfl,e3,e7,rfl,.inr ⟨rfl,rfl,rfl,rfl,k3,by show 1≤x.2-nk s.l ((i:Int)+1) x.1;omega,by show x.2-nk s.l ((i:Int)+1) x.1≤qW;omega⟩⟩,⟨⟨rfl,fun h0=>absurd h0 (Nat.lt_irrefl 0),fun i x hx=>by simp at hx⟩,fun b o ha=>by cases ha⟩⟩
   ·obtain⟨y,y1,y2⟩:=ar j hj av;exact⟨y,List.mem_append_left _ y1,y2⟩
  ·exact aq cl (ll (aW (by omega) (by omega) ⟨⟨p+1,T',ep,er,congrArg iv (by push_cast;rfl),J,rfl,⟨d3,by omega⟩,bd,by omega,dk,ar,c2,cX⟩,af⟩))
 ·refine aq (by omega) (zq (u w9 {X with ws:=ws1} T' ep er ?_ (h8.low a9 (b9.mono aE)) cc ar ⟨by omega,fun ft=>?_⟩ (Ku r9 aE) a9))
  ·exact⟨al.R,al.m,al.ch.add (b9.mono aE),al.new⟩
  ·have h1:T1=[]:=List.eq_nil_iff_forall_not_mem.2 fun y hy=>by
    obtain⟨b,t1,y1,hm,_⟩:=bi y hy
    have:=(az _ hm).1
    rw[ft]at this;cases this
   have h2:T1.length=0:=by rw[h1];rfl
   rw[if_pos ea]at a8;omega
end
structure Frm (B:Nat) (Z:List Nat) (w w':World):Prop where
 b:Below B w w'
 z:∀x∈Z,w'.heap[x]? = w.heap[x]?
theorem Frm.of_below (h:Below w.heap.size w w')(j:B≤w.heap.size)(u:∀x∈F,x<w.heap.size):Frm B F w w':=⟨h.mono j,fun x C=>h.block x (u x C)⟩
structure LW (B:Nat) (w:World) (k:Nat) (E:List EV) (X:Nat→RpX) (S:Nat→RS) (Z:List Nat):Prop where
 mw:MW k E S
 ww:WW w B k X S Z
 k6:1≤k∧k≤6
 fw:E.length≤100
 B:B≤w.heap.size
section
variable {B k i:Nat}{w w':World}{E:List EV}{X:Nat→RpX}{S:Nat→RS}{Z:List Nat}
theorem LW.pi (h:LW B w k E X S Z)(hi:i<k):PI (S i).l:=h.mw.pi hi
theorem LW.G (h:LW B w k E X S Z)(hi:i<k):(S i).l.G.length≤1000000:=by
 have:=((h.mw.lk i hi).IL h.mw.noj).2.2
 have:=h.fw
 omega
theorem LW.A (h:LW B w k E X S Z)(hi:i<k):(S i).A.length≤100:=Nat.le_trans (pS (h.mw.app i hi).nd fun x j=>(((h.mw.app i hi).mem x).1 j).1) h.fw
theorem LW.Aq (h:LW B w k E X S Z)(hi:i<k):∀e∈(S i).A,e.q<6:=fun e j=>(qe (h.mw.hist.may e (((h.mw.app i hi).mem e).1 j).1)).1
theorem LW.rhl (h:LW B w k E X S Z)(hi:i<k):RHL k E (S i).l [] (S i).A.length :=
 ⟨h.mw.hist,h.mw.lk i hi,⟨by simp,by simp,by simp,by simp⟩,(S i).A,(h.mw.app i hi).nd,(h.mw.app i hi).mem,rfl⟩
theorem LW.P (h:LW B w k E X S Z)(hi:i<k):(S i).P.length=6∧∀v∈(S i).P,v.length=6:=⟨(h.ww.rp i hi).rp.e.l6,(h.ww.rp i hi).rp.e.v6⟩
theorem LW.frm {x':RpX}(h:LW B w k E X S Z)(hi:i<k)(j:StpX w w' (X i) x'):Frm B Z w w':=⟨h.ww.bel hi j h.B,fun x u=>j.ch.block x (h.ww.zl x u) (h.ww.zF hi x u)⟩
theorem LW.below (h:LW B w k E X S Z)(j:Below w.heap.size w w'):LW B w' k E X S Z:=⟨h.mw,h.ww.below j,h.k6,h.fw,Nat.le_trans h.B j.size⟩
theorem LW.call {x':RpX}{s':RS}{E':List EV}(h:LW B w k E X S Z)(hi:i<k)(j:StpX w w' (X i) x')(I:RepW w' i x' s')(C:MW k E' (upS S i s'))(u:E'.length≤100):LW B w' k E' (upX X i x') (upS S i s') Z :=
 ⟨C,h.ww.call hi j I h.B,h.k6,u,Nat.le_trans h.B j.ch.size⟩
theorem AX {x':RpX}(u:StpX w w' (X i) x')(j:Nat):(upX X i x' j).R.p=(X j).R.p:=by
 by_cases h:j=i
 ·subst h;rw[kt,u.R]
 ·rw[ke h]
theorem tM {s:RS}(h:s=S i):upS S i s=S:=by
 funext j;by_cases u:j=i
 ·subst u;rw[gR,h]
 ·rw[jd u]
theorem NF {A V:List Int}(j:V.length=6)(q:Nat):V.getD q 0≤(jV A V).getD q 0:=by
 by_cases h:q<6
 ·rw[LT h];split<;>omega
 ·rw[List.getD_eq_getElem?_getD,List.getElem?_eq_none (by omega),List.getD_eq_getElem?_getD,List.getElem?_eq_none (by rw[oQ];omega)];exact Int.le_refl _
theorem NC {A V:List Int}(j:A.length=6)(q:Nat):A.getD q 0≤(jV A V).getD q 0:=by
 by_cases h:q<6
 ·rw[LT h];split<;>omega
 ·rw[List.getD_eq_getElem?_getD,List.getElem?_eq_none (by omega),List.getD_eq_getElem?_getD,List.getElem?_eq_none (by rw[oQ];omega)];exact Int.le_refl _
theorem MX {A V:List Int}(h:∀q,0≤X4 q)(j:∀q,A.getD q 0≤X4 q)(u:∀q,V.getD q 0≤X4 q)(q:Nat):(jV A V).getD q 0≤X4 q:=by
 by_cases C:q<6
 ·rw[LT C];split
  ·exact u q
  ·exact j q
 ·rw[List.getD_eq_getElem?_getD,List.getElem?_eq_none (by rw[oQ];omega)];exact h q
theorem Bz {V:List Int}{l:PL}(C:PI l)(h:∀q,V.getD q 0≤l.V.getD q 0):leV V (List.replicate 6 1099511627776)=true:=by
 unfold leV;simp only[List.all_eq_true,List.mem_range,decide_eq_true_eq];intro q j;have I:=h q;have u:=(C.vb q j).2;rw[List.getD_eq_getElem?_getD (l:=List.replicate 6 _),List.getElem?_replicate,if_pos j];show _≤(1099511627776:Int);unfold M40 at u;omega
theorem MW.told {A V:List Int}(h:MW k E S)(hi:i<k)(C:f<k)(J:(S i).P[f]? = some A)(M:∀q,V.getD q 0≤(S f).l.V.getD q 0){l':PL}(O:∀j,j<k→∀q,(S j).l.V.getD q 0≤(upS S i ⟨l',(S i).A,(S i).P⟩ j).l.V.getD q 0):∀j,j<k→∀v,((S i).P.set f (jV A V))[j]? = some v→∀q,v.getD q 0≤(upS S i ⟨l',(S i).A,(S i).P⟩ j).l.V.getD q 0:=fun j I v u q=>by
 refine Int.le_trans ?_ (O j I q);rw[List.getElem?_set]at u;split at u
 ·rename_i e;subst e;split at u
  ·cases u;exact MX (h.pi C).v0 (h.kn i f hi C A J) M q
  ·cases u
 ·exact h.kn i j hi I v u q
theorem MW.made {s':RS}{x:AK}(h:MW k E S)(hi:i<k)(j:Ew i (S i) s' x)(J:x.k≠6∧x.k≠7):∃E',(E'.length≤E.length+1)∧MW k E' (upS S i s')∧leS k S (upS S i s')∧∀m,MgOK k E S m→MgOK k E' (upS S i s') m:=by
 rcases j with rfl|⟨C,rfl⟩
 ·rw[tM rfl];exact⟨E,Nat.le_succ _,h,fun _ _ _=>Int.le_refl _,fun m j=>j⟩
 ·have u:=h.pi hi;have I:=(vc u).1 C;obtain⟨a,b,c⟩:=h.make hi I Dn (fun q _=>by
   have:(mkP i (S i).l x).V=(S i).l.V:=NM u.v6
   rw[this]) J
  exact⟨E++[mkP i (S i).l x],by simp,a,b,fun m j=>(j.grow c).mono b⟩
end
section
variable {w:World}{K:KV}{B k i:Nat}{E:List EV}{X:Nat→RpX}{S:Nat→RS}{Z:List Nat}
theorem NI {x:AK}{now:Int}(h:LW B w k E X S Z)(hi:i<k)(O:x.k≠6∧x.k≠7)(hE:E.length<100)(M:∀w' X' S' E' v,LW B w' k E' X' S' Z→E'.length≤E.length+1→(∀m,MgOK k E S m→MgOK k E' S' m)→(∀j,(X' j).R.p=(X j).R.p)→Frm B Z w w'→K v w'):call Tryz.prog 9 #[pB (X i).R.p,.agg (akC x).toArray,u6 now] K w:=by
 have hk:=h.k6;refine Wg (h.ww.rp i hi) (h.pi hi) (by omega) (h.G hi) (by have:=h.A hi;omega) fun w' x' s' v u r m=>?_;obtain⟨E',C,I,U,J⟩:=h.mw.made hi m.made O;exact M w' _ _ E' v (h.call hi u r I (by omega)) C J (AX u) (h.frm hi u)
theorem BJ {m:MG}{now:Value}(h:LW B w k E X S Z)(I:MgOK k E S m)(h1:m.k=1)(hv:VR w a m.L.length c m.L)(hz:∀b o,a=some ⟨b,o,none⟩→b∈Z)(hK:∀w' x' l' A' P' v,LW B w' k E (upX X m.t x') (upS S m.t ⟨l',A',P'⟩) Z→leS k S (upS S m.t ⟨l',A',P'⟩)→(∀g∈m.L,g.s≤l'.V.getD g.q 0)→(∀q,(S m.t).l.V.getD q 0≤l'.V.getD q 0) →
   (∀(j:Nat) (y:List Int),P'[j]? = some y→∃z:List Int,(S m.t).P[j]? = some z∧(∀q,z.getD q 0≤y.getD q 0)∧(j=m.f→∀q,m.V.getD q 0≤y.getD q 0))→(∀j,(upX X m.t x' j).R.p=(X j).R.p)→Frm B Z w w'→K (.tuple #[v,ci 0]) w'):call Tryz.prog 12 #[pB (X m.t).R.p,.agg (mgC 1 ((m.f:Int)+1) ((m.t:Int)+1) m.V (.slice a m.L.length c) 0 0).toArray,now] K w:=by
 obtain⟨hf,u,an⟩:=I.ft;have hk:=h.k6;obtain⟨av,al⟩:=h.P u;obtain⟨_,_,_,aa,P,am,ag⟩:=I.is.resolve_right fun hh=>by have:=hh.1;omega
 have M:(S m.t).P[m.f]? = some (S m.t).P[m.f]:=List.getElem?_eq_getElem (by omega);generalize (S m.t).P[m.f]=A at M;have ad:=al A (List.mem_of_getElem? M);refine Fq (h.ww.rp m.t u) (by omega) (h.rhl u) (h.mw.app m.t u) (by have:=h.A u;omega) hv (fun b o ha=>h.ww.zF u b (hz b o ha)) am ag aa (by omega) an I.v6 (Bz (h.pi hf) I.le) M fun w' x' l' F v st r ap hL hr C=>?_
 have ar:=hr.lk;have hl:∀j,j<k→∀q,(S j).l.V.getD q 0≤(upS S m.t ⟨l',(S m.t).A,(S m.t).P⟩ j).l.V.getD q 0:=fun j _ q=>by
  by_cases U:j=m.t
  ·subst U;rw[gR];exact C q
  ·rw[jd U];exact Int.le_refl _
 have af:=h.mw.told u hf M I.le hl;obtain⟨m1,m2⟩:=h.mw.learn (l':=l') (A':=(S m.t).A++F) (P':=(S m.t).P.set m.f (jV A m.V)) u ar C ap fun j U v hv q=>by
  have:=af j U v hv q
  by_cases O:j=m.t
  ·subst O;rw[gR]at this ⊢; exact this
  ·rw[jd O]at this ⊢; exact this
 refine hK w' x' l' _ _ v (h.call u st r m1 h.fw) m2 hL C (fun j y J=>?_) (AX st) (h.frm u st);rw[List.getElem?_set]at J;split at J
 ·rename_i e;subst e;split at J
  ·cases J;exact⟨A,M,NC ad,fun _=>NF I.v6⟩
  ·cases J
 ·rename_i e;exact⟨y,J,fun _=>Int.le_refl _,fun e' => absurd e'.symm e⟩
theorem Fe {m:MG}{now:Value}(h:LW B w k E X S Z)(hm:MgOK k E S m)(h2:m.k=2)(hE:E.length<100)(hK:∀w' X' S' E' v,LW B w' k E' X' S' Z→E'.length≤E.length+1→(∀m,MgOK k E S m→MgOK k E' S' m)→(∀j,(X' j).R.p=(X j).R.p)→Frm B Z w w'→K (.tuple #[v,ci 0]) w'):call Tryz.prog 12 #[pB (X m.t).R.p,.agg (mgC 2 ((m.f:Int)+1) ((m.t:Int)+1) m.V (.slice none 0 0) m.n m.a).toArray,now] K w:=by
 obtain⟨hf,ht,hft⟩:=hm.ft
 have hk:=h.k6
 obtain⟨hP6,hPv⟩:=h.P ht
 obtain⟨_,_,hn,ha1,ha2⟩:=hm.is.resolve_left fun hh=>by have:=hh.1;omega
 have hA:(S m.t).P[m.f]? = some (S m.t).P[m.f]:=List.getElem?_eq_getElem (by omega)
 generalize (S m.t).P[m.f]=A at hA
 refine Fm (h.ww.rp m.t ht) (h.pi ht) (by omega) (h.G ht) (by have:=h.A ht;omega) hn ⟨ha1,ha2⟩ (by omega) hft hm.v6 (Bz (h.pi hf) hm.le) hA fun w' x' s' z v st r md=>?_
 have hl:∀j,j<k→∀q,(S j).l.V.getD q 0≤(upS S m.t ⟨(S m.t).l,(S m.t).A,(S m.t).P⟩ j).l.V.getD q 0:=fun j _ q=>by
  rw[tM rfl];exact Int.le_refl _
 have hP':=h.mw.told ht hf hA hm.le hl
 obtain⟨m1,m2⟩:=h.mw.learn (l':=(S m.t).l) (A':=(S m.t).A) (P':=(S m.t).P.set m.f (jV A m.V)) ht (h.mw.lk m.t ht) (fun _=>Int.le_refl _) (h.mw.app m.t ht) fun j hj v hv q=>by
  have:=hP' j hj v hv q
  rw[tM rfl]at this
  exact Int.le_trans this (by
   by_cases hjt:j=m.t
   ·subst hjt;rw[gR];exact Int.le_refl _
   ·rw[jd hjt];exact Int.le_refl _)
 obtain⟨E',e1,e2,e3,e4⟩:=m1.made (s':=s') ht (by rw[gR];exact md) ⟨by show (5:Int)≠6;decide,by show (5:Int)≠7;decide⟩
 have eu:upS (upS S m.t ⟨(S m.t).l,(S m.t).A,(S m.t).P.set m.f (jV A m.V)⟩) m.t s'=upS S m.t s':=by
  funext j
  by_cases hj:j=m.t
  ·subst hj;rw[gR,gR]
  ·rw[jd hj,jd hj,jd hj]
 rw[eu]at e2 e4
 exact hK w' _ _ E' v (h.call ht st r e2 (by omega)) e1 (fun m hm=>e4 m (hm.mono m2)) (AX st) (h.frm ht st)
theorem Cs {now:Int}(h:LW B w k E X S Z)(hi:i<k)(hK:∀w' X' (T:List MGT) oa oc,LW B w' k E X' S Z→(∀x∈T,wU k i (S i) x∧TMk w.heap.size w' x∧MgOK k E S x.1)→(∀j,j<k→j≠i→∃x∈T,x.1.k=1∧x.1.t=j)→T.length≤38→w'.ownsRow w.heap.size 38 12 (.slice oa T.length oc) T.length (T.flatMap tmC)→(∀j,(X' j).R.p=(X j).R.p)→Frm B Z w w'→(∀j,j<k→∀x∈AF (X' j),x<w.heap.size)→K (.slice oa T.length oc) w'):call Tryz.prog 10 #[pB (X i).R.p,u6 now] K w:=by
 have hk:=h.k6;obtain⟨eI,eL,_⟩:=(h.mw.lk i hi).IL h.mw.noj;have I:=h.mw.app i hi;refine CO (h.ww.rp i hi) (h.pi hi) hi hk.2 (h.G hi) eI eL (h.Aq hi) I.inc (by have:=h.A hi;omega) fun w' x' T oa oc st r hT M O ro U=>?_;have hl:=h.call (s':=S i) hi st r (by rw[tM rfl];exact h.mw) h.fw;rw[tM rfl]at hl
 refine hK w' _ T oa oc hl (fun x C=>?_) M O.1 ro (AX st) (h.frm hi st) fun j hj x C=>?_
 ·obtain⟨u,t2⟩:=hT x C;refine⟨u,t2,⟨?_,?_,?_,?_⟩⟩
  ·rw[u.f];exact⟨hi,u.t,fun e=>u.ne e.symm⟩
  ·rw[u.V];exact(h.pi hi).v6
  ·rw[u.V,u.f];exact fun _=>Int.le_refl _
  ·rcases u.is with⟨a,b,c,v,hv,hL⟩|⟨a,b,_,_,c,d,e⟩
   ·refine .inl ⟨a,b,c,?_,v,?_,h.mw.kn i x.1.t hi u.t v hv⟩
    ·rw[hL];unfold tl;rw[List.length_map,List.length_take];omega
    ·rw[hL,show tl (S i).A v=vn (S i) v from(BM).symm];exact I.tell 16
   ·exact .inr ⟨a,b,c,d,e⟩
 ·by_cases J:j=i
  ·subst J;rw[kt]at C;exact U x C
  ·rw[ke J]at C;exact(h.ww.rp j hj).lt x C
end
end
section
open Go.ChangeShapes Go.WideShapes Go.ChangeAt Go.RowKit Go.Deep
section
variable {H:Type}{enc:TypeId×Value→H}{W:World}{base:Nat}{held:Bool}
theorem MP (h:(Lit.int .u8 x).wf=true):0≤x∧x≤255:=by simpa[Lit.wf,IntKind.min,IntKind.max,IntKind.signed,IntKind.bits]using h
def Jl (k:IntKind)(cs:List Value):Prop:=∀v∈cs,∃z,v=.int k z
theorem Dt {p:Value→Prop}(I:cs.length=n*c)(h:∀i,i<n→∀v∈(cs.drop (i*c)).take c,p v):∀v∈cs,p v:=by
 intro v J;obtain⟨k,C,rfl⟩:=List.getElem_of_mem J;have j:0<c:=by
  rcases Nat.eq_zero_or_pos c with rfl|u
  ·rw[Nat.mul_zero]at I;omega
  ·exact u
 have hi:k / c<n:=(Nat.div_lt_iff_lt_mul j).2 (by omega);refine h (k / c) hi _ (List.mem_of_getElem? (i:=k%c) ?_);rw[List.getElem?_take_of_lt (Nat.mod_lt _ j),List.getElem?_drop,Nat.mul_comm,Nat.div_add_mod];exact List.getElem?_eq_getElem C
theorem mm {k:IntKind}{fuel:Nat}{x:DataW H×List MemPlace}(u:Tryz.prog.underlying t=some (.int k))(h:DataW.trod enc Tryz.prog W base (fun _=>true) held fuel t cs=some x):Jl k cs:=by
 obtain⟨z,rfl,_⟩:=DataW.trod_int u h;intro v j;simp only[List.mem_singleton]at j;exact⟨z,j⟩
theorem Gm {p:Value→Prop}{fuel:Nat}{x:DataW H×List MemPlace}(O:Tryz.prog.underlying t=some (.array n e))(C:Tryz.prog.cellsOf e=c)(M:Tryz.prog.cellsOf t=m)(u:m=n*c)(I:∀{fuel:Nat} {cs:List Value} {x:DataW H×List MemPlace},DataW.trod enc Tryz.prog W base (fun _=>true) held fuel e cs=some x→∀v∈cs,p v)(h:DataW.trod enc Tryz.prog W base (fun _=>true) held fuel t cs=some x):∀v∈cs,p v:=by
 obtain⟨xs,q,rfl,rfl,j,U,J⟩:=DataW.trod_array O h;rw[M,u]at j;refine Dt j fun i hi=>?_
 have:=J i hi
 rw[C,List.getElem?_eq_getElem (by omega)]at this;exact I this
end
structure SM where
 d:Int
 who:Int
 k:Int
 n:Int
 t:Int
 a:Int
 r:Int
 f:Int
 pick:Int
 raw:Bool
 stay:Bool
 mv:List Value
 pass:Int
def smC (x:SM):List Value:=[kv8 x.d,kv8 x.who,kv8 x.k,u6 x.n,iv x.t,iv x.a,u6 x.r,u6 x.f,kv8 x.pick,.bool x.raw,.bool x.stay]++(x.mv++[kv8 x.pass])
structure xO (x:SM):Prop where
 who:0≤x.who∧x.who≤255
 pick:0≤x.pick∧x.pick≤255
 pass:0≤x.pass∧x.pass≤255
 k:0≤x.k∧x.k≤255
 n:0≤x.n∧x.n<18446744073709551616
 m12:x.mv.length=12
 ev:∃(a:Option Addr) (n c:Nat),x.mv[9]? = some (.slice a n c)
 one:∀v∈x.mv,v.oneCell'=true
structure SMR (w:World) (a:Option Addr) (n c:Nat) (L:List SM):Prop where
 len:L.length=n
 some_:0<n→∃b o,a=some ⟨b,o,none⟩
 cell:∀(i:Nat) (x:SM),L[i]? = some x→∀b o,a=some ⟨b,o,none⟩→∀(j:Nat) (u:Value),(smC x)[j]? = some u→w.cell? ⟨b,o+i*24+j,none⟩=some u
 ok:∀x∈L,xO x
theorem SMR.bel {L:List SM}(h:SMR w a n c L)(M:Below B w w')(I:w.heap.size≤B):SMR w' a n c L :=
 ⟨h.len,h.some_,fun i x U b o J j u O=>by
  have:=h.cell i x U b o J j u O
  have C:=World.block_lt_of_cell? w _ this;rw[M.cell (p:=⟨b,o+i*24+j,none⟩) (Nat.lt_of_lt_of_le C I)];exact this,h.ok⟩
section
variable {H:Type}{enc:TypeId×Value→H}{W:World}{base:Nat}{held:Bool}
theorem Fh {fuel:Nat}{x:DataW H×List MemPlace}(h:DataW.trod enc Tryz.prog W base (fun _=>true) held fuel 33 cs=some x):∃k n t a r f:Int,cs=[kv8 k,u6 n,iv t,iv a,u6 r,u6 f]∧(0≤k∧k≤255)∧(0≤n∧n<18446744073709551616):=by
 obtain⟨xs,n,rfl,rfl,u,I,j⟩:=DataW.trod_struct underlying33 h;have h6:cs.length=6:=by rw[u];kernel_rfl
 match cs,h6 with
 | [c0,c1,c2,c3,c4,c5],_ =>
  have C:xs.length=6:=I
  match xs,C with
  | [x0,x1,x2,x3,x4,x5],_ =>
   have h0:DataW.trod enc Tryz.prog W base (fun _=>true) held n 5 [c0]=some x0:=Eq.mp (by kernel_rfl) (j 0 _ rfl);have h1:DataW.trod enc Tryz.prog W base (fun _=>true) held n 31 [c1]=some x1:=Eq.mp (by kernel_rfl) (j 1 _ rfl);have h2:DataW.trod enc Tryz.prog W base (fun _=>true) held n 3 [c2]=some x2:=Eq.mp (by kernel_rfl) (j 2 _ rfl)
   have h3:DataW.trod enc Tryz.prog W base (fun _=>true) held n 2 [c3]=some x3:=Eq.mp (by kernel_rfl) (j 3 _ rfl);have h4:DataW.trod enc Tryz.prog W base (fun _=>true) held n 31 [c4]=some x4:=Eq.mp (by kernel_rfl) (j 4 _ rfl);have h5:DataW.trod enc Tryz.prog W base (fun _=>true) held n 31 [c5]=some x5:=Eq.mp (by kernel_rfl) (j 5 _ rfl);obtain⟨z0,O,_,w0⟩:=DataW.trod_int underlying5 h0
   obtain⟨M,U,_,w1⟩:=DataW.trod_int underlying31 h1;obtain⟨z2,e2,_⟩:=DataW.trod_int underlying3 h2;obtain⟨z3,e3,_⟩:=DataW.trod_int underlying2 h3;obtain⟨z4,e4,_⟩:=DataW.trod_int underlying31 h4;obtain⟨z5,e5,_⟩:=DataW.trod_int underlying31 h5;simp only[List.cons.injEq,and_true]at O U e2 e3 e4 e5;subst O U e2 e3 e4 e5
   have J:0≤M∧M≤18446744073709551615:=by simpa[Lit.wf,IntKind.min,IntKind.max,IntKind.signed,IntKind.bits]using w1
   exact⟨z0,M,z2,z3,z4,z5,rfl,MP w0,J.1,by omega⟩
theorem Fi {fuel:Nat}{x:DataW H×List MemPlace}(h:DataW.trod enc Tryz.prog W base (fun _=>true) held fuel 38 cs=some x):cs.length=12∧(∃(a:Option Addr) (n c:Nat),cs[9]? = some (.slice a n c))∧∀v∈cs,v.oneCell'=true:=by
 obtain⟨xs,n,rfl,rfl,M,af,C⟩:=DataW.trod_struct underlying38 h;have J:cs.length=12:=by rw[M];kernel_rfl
 refine⟨J,?_⟩
 match cs,J with
 | [c0,c1,c2,c3,c4,c5,c6,c7,c8,c9,c10,c11],_ =>
  have aa:xs.length=7:=af
  match xs,aa with
  | [x0,x1,x2,x3,x4,x5,x6],_ =>
   have h4:DataW.trod enc Tryz.prog W base (fun _=>true) held n 36 [c9]=some x4:=Eq.mp (by kernel_rfl) (C 4 _ rfl);have h0:DataW.trod enc Tryz.prog W base (fun _=>true) held n 5 [c0]=some x0:=Eq.mp (by kernel_rfl) (C 0 _ rfl);have h1:DataW.trod enc Tryz.prog W base (fun _=>true) held n 3 [c1]=some x1:=Eq.mp (by kernel_rfl) (C 1 _ rfl)
   have h2:DataW.trod enc Tryz.prog W base (fun _=>true) held n 3 [c2]=some x2:=Eq.mp (by kernel_rfl) (C 2 _ rfl);have h3:DataW.trod enc Tryz.prog W base (fun _=>true) held n 35 [c3,c4,c5,c6,c7,c8]=some x3:=Eq.mp (by kernel_rfl) (C 3 _ rfl);have h5:DataW.trod enc Tryz.prog W base (fun _=>true) held n 31 [c10]=some x5:=Eq.mp (by kernel_rfl) (C 5 _ rfl)
   have h6:DataW.trod enc Tryz.prog W base (fun _=>true) held n 2 [c11]=some x6:=Eq.mp (by kernel_rfl) (C 6 _ rfl);have I:=Gm (p:=fun v=>∃z,v=.int .u64 z) (c:=1) (m:=6) underlying35 (by kernel_rfl) (by kernel_rfl) rfl (fun h=>mm underlying31 h) h3;have O:(∃a n c,c9=.slice a n c)→∀v∈[c0,c1,c2,c3,c4,c5,c6,c7,c8,c9,c10,c11],v.oneCell'=true:=by
    rintro⟨a,n,c,rfl⟩ v U;have j:∀{k:IntKind} {cs:List Value},Jl k cs→∀v∈cs,v.oneCell'=true:=fun h v U=>by obtain⟨z,rfl⟩:=h v U;rfl
    simp only[List.mem_cons,List.not_mem_nil,or_false]at U;rcases U with rfl|rfl|rfl|rfl|rfl|rfl|rfl|rfl|rfl|rfl|rfl|rfl
    ·exact j (mm underlying5 h0) _ (by simp)
    ·exact j (mm underlying3 h1) _ (by simp)
    ·exact j (mm underlying3 h2) _ (by simp)
    ·exact j (k:=.u64) I _ (by simp)
    ·exact j (k:=.u64) I _ (by simp)
    ·exact j (k:=.u64) I _ (by simp)
    ·exact j (k:=.u64) I _ (by simp)
    ·exact j (k:=.u64) I _ (by simp)
    ·exact j (k:=.u64) I _ (by simp)
    ·rfl
    ·exact j (mm underlying31 h5) _ (by simp)
    ·exact j (mm underlying2 h6) _ (by simp)
   obtain⟨d,p⟩:=x4;rcases open_slice underlying36 h4 with⟨u,_⟩|⟨ad,ag,cap,m,k,D,Pl,u,_⟩
   ·simp only[List.cons.injEq,and_true]at u;exact⟨⟨_,_,_,by rw[u];rfl⟩,O ⟨_,_,_,u⟩⟩
   ·simp only[List.cons.injEq,and_true]at u;exact⟨⟨_,_,_,by rw[u];rfl⟩,O ⟨_,_,_,u⟩⟩
theorem Hn {fuel:Nat}{x:DataW H×List MemPlace}(h:DataW.trod enc Tryz.prog W base (fun _=>true) held fuel 40 cs=some x):∃y:SM,cs=smC y∧xO y:=by
 obtain⟨xs,n,rfl,rfl,u,J,j⟩:=DataW.trod_struct underlying40 h;have C:cs.length=24:=by rw[u];kernel_rfl
 match cs,C with
 | [c0,c1,c2,c3,c4,c5,c6,c7,c8,c9,c10,c11,c12,c13,c14,c15,c16,c17,c18,c19,c20,c21,c22,c23],_ =>
  have I:xs.length=8:=J
  match xs,I with
  | [x0,x1,x2,x3,x4,x5,x6,x7],_ =>
   have h0:DataW.trod enc Tryz.prog W base (fun _=>true) held n 5 [c0]=some x0:=Eq.mp (by kernel_rfl) (j 0 _ rfl);have h1:DataW.trod enc Tryz.prog W base (fun _=>true) held n 5 [c1]=some x1:=Eq.mp (by kernel_rfl) (j 1 _ rfl);have h2:DataW.trod enc Tryz.prog W base (fun _=>true) held n 33 [c2,c3,c4,c5,c6,c7]=some x2:=Eq.mp (by kernel_rfl) (j 2 _ rfl)
   have h3:DataW.trod enc Tryz.prog W base (fun _=>true) held n 5 [c8]=some x3:=Eq.mp (by kernel_rfl) (j 3 _ rfl);have h4:DataW.trod enc Tryz.prog W base (fun _=>true) held n 4 [c9]=some x4:=Eq.mp (by kernel_rfl) (j 4 _ rfl);have h5:DataW.trod enc Tryz.prog W base (fun _=>true) held n 4 [c10]=some x5:=Eq.mp (by kernel_rfl) (j 5 _ rfl)
   have h6:DataW.trod enc Tryz.prog W base (fun _=>true) held n 38 [c11,c12,c13,c14,c15,c16,c17,c18,c19,c20,c21,c22]=some x6:=Eq.mp (by kernel_rfl) (j 6 _ rfl);have h7:DataW.trod enc Tryz.prog W base (fun _=>true) held n 5 [c23]=some x7:=Eq.mp (by kernel_rfl) (j 7 _ rfl);obtain⟨z0,U,_⟩:=DataW.trod_int underlying5 h0;obtain⟨z1,e1,_,w1⟩:=DataW.trod_int underlying5 h1
   obtain⟨k,nn,t,a,r,f,e2,w2,M⟩:=Fh h2;obtain⟨z3,e3,_,w3⟩:=DataW.trod_int underlying5 h3;obtain⟨z4,e4,_⟩:=DataW.trod_bool underlying4 h4;obtain⟨z5,e5,_⟩:=DataW.trod_bool underlying4 h5;obtain⟨_,w6,O⟩:=Fi h6;obtain⟨z7,e7,_,w7⟩:=DataW.trod_int underlying5 h7;simp only[List.cons.injEq,and_true]at U e1 e2 e3 e4 e5 e7;obtain⟨q0,q1,q2,q3,q4,q5⟩:=e2;subst U e1 q0 q1 q2 q3 q4 q5 e3 e4 e5 e7
   exact⟨⟨z0,z1,k,nn,t,a,r,f,z3,z4,z5,[c11,c12,c13,c14,c15,c16,c17,c18,c19,c20,c21,c22],z7⟩,rfl,MP w1,MP w3,MP w7,w2,M,rfl,w6,O⟩
theorem Co {fuel:Nat}{x:DataW H×List MemPlace}(hc:cs=[.slice a n c])(hf:DataW.trod enc Tryz.prog W base (fun _=>true) held fuel 22 cs=some x):(∃L,SMR W a n c L)∧n≤c∧c≤9223372036854775807:=by
 obtain⟨d,p⟩:=x;rcases open_slice underlying22 hf with⟨C,_⟩|⟨J,ar,cap,m,k,D,Pl,C,ap,hl,hm,aa,hx,O⟩
 ·rw[hc]at C;simp only[List.cons.injEq,Value.slice.injEq,and_true]at C;obtain⟨rfl,rfl,rfl⟩:=C;exact⟨⟨[],rfl,fun h=>by omega,fun i s h=>by simp at h,fun x hx=>by cases hx⟩,by omega,by omega⟩
 ·rw[hc]at C;simp only[List.cons.injEq,Value.slice.injEq,and_true]at C;obtain⟨rfl,rfl,rfl⟩:=C;simp only[if_true]at aa;subst aa;refine⟨?_,hl,by simpa[maxLen]using hm⟩;have h9:Tryz.prog.cellsOf 40=24:=by kernel_rfl
  have M:∀i,i<n→∃q:SM,xO q∧∀j u,(smC q)[j]? = some u→W.cell? ((J.add (i*24)).add j)=some u:=by
   intro i hi;obtain⟨an,U,ag⟩:=O i (by omega);rw[h9]at U;obtain⟨_,am,I⟩:=World.cells?_some U;obtain⟨s,rfl,h1⟩:=Hn ag;refine⟨s,h1,fun j u hu=>?_⟩;have hj:=(List.getElem?_eq_some_iff.1 hu).1;have hl:(smC s).length=24:=by unfold smC;simp[h1.m12]
   rw[I j (by omega)];exact hu
  haveI:Inhabited SM:=⟨⟨0,0,0,0,0,0,0,0,0,false,false,[],0⟩⟩
  obtain⟨Q,hQ⟩:=choose_lt M;have af:0<n→J.spot=none:=by
   intro h0;obtain⟨_,al⟩:=hQ 0 h0
   have:=World.cell?_spot (al 0 _ rfl)
   exact this
  refine⟨(List.range n).map Q,by simp,fun h0=>⟨J.block,J.off,by have:=af h0;obtain⟨b,o,s⟩:=J;cases this;rfl⟩,fun i s hs b o ha j u hu=>?_,fun x hx=>?_⟩
  ·have hi:i<n:=by have:=(List.getElem?_eq_some_iff.1 hs).1;simpa using this
   simp only[List.getElem?_map,List.getElem?_range hi,Option.map_some,Option.some.injEq]at hs;subst hs;obtain⟨q1,q4⟩:=hQ i hi;cases ha
   have:=q4 j u hu
   rw[Bq,Bq]at this;exact this
  ·obtain⟨i,hi,rfl⟩:=List.mem_map.1 hx;exact(hQ i (List.mem_range.1 hi)).1
end
end
end Go.Proofs.YtkbhfjljieopoaaGreatDoor
