import Derived.Test.YtkfgimlaijifaaaGreatDoorQ10
import Derived.Test.YtkfgimlaijifaaaGreatDoorQ2
import Derived.Test.YtkfgimlaijifaaaGreatDoorQ1
import Derived.Test.YtkfgimlaijifaaaGreatDoorChecked
import Derived.Test.YtkfgimlaijifaaaGreatDoorSh
namespace Go.Proofs.YtkfgimlaijifaaaGreatDoor
set_option maxRecDepth 100000
set_option maxHeartbeats 4000000
open Go.Proofs.Tryz
variable {w w' w0:World}{K:KV}{zf:Nat→Value}{b c n o k B i p g m j s z c2 f d D B2 B' hi:Nat}{a av a2:Option Addr}{x r v:Int}{A:List Int}{E t e:TypeId}{cs xs ys vs:List Value}{P:Program}{T L:List (Int×Int)}{C:Nat→Int}{cx cy:Bool}{F:List Nat}{J0 K0:IntKind}{V0 W0 X0 Y0 Z0 H1 I1 J1 M1:Value}
section
open Go.RowKit Go.ChangeMaps
abbrev zf3 :Int:=1125899906842624
structure DmW (w:World) (d m:Nat) (ws:List (Int×Option Nat)):Prop where
 b:blk w d 202 [.map (some m)]
 mb:MB u6 pV w m ws
 wt:∀p∈ws,∃b a t x,p.2=some b∧blk w b 233 [u6 p.1,iv a,u6 t,u6 x]∧1≤a∧a≤zf3∧p.1≠0
 few:ws.length≤32
def wB (ws:List (Int×Option Nat)):List Nat:=ws.filterMap (·.2)
theorem XW {ws:List (Int×Option Nat)}:k∈wB ws↔∃p∈ws,p.2=some k:=by
 unfold wB;rw[List.mem_filterMap]
section
variable {w w':World}{d m:Nat}{ws:List (Int×Option Nat)}
theorem DmW.wlt (h:DmW w d m ws)(u:k∈wB ws):∃cs,blk w k 233 cs:=by
 obtain⟨p,C,e⟩:=XW.1 u;obtain⟨b,a,t,x,j,I,_⟩:=h.wt p C;rw[j]at e;cases e;exact⟨_,I⟩
theorem DmW.lt (h:DmW w d m ws):∀k∈d::m::wB ws,k<w.heap.size:=by
 intro k j;rcases List.mem_cons.1 j with rfl|j
 ·exact h.b.lt
 ·rcases List.mem_cons.1 j with rfl|j
  ·exact h.mb.lt
  ·obtain⟨cs,u⟩:=h.wlt j;exact u.lt
theorem DmW.keep (h:DmW w d m ws)(j:∀k∈d::m::wB ws,w'.heap[k]? = w.heap[k]?):DmW w' d m ws :=
 ⟨by have:=h.b;unfold blk at *; rw[j d sm];exact this,h.mb.kept (j m sm),fun p C=>by
  obtain⟨b,a,t,x,u,J,I⟩:=h.wt p C;refine⟨b,a,t,x,u,?_,I⟩;unfold blk at *;rw[j b (by simp[XW];exact .inr (.inr ⟨p.1,by rw[←u];exact C⟩))];exact J,h.few⟩
end
structure RpX where
 R:RpB
 m:Nat
 ws:List (Int×Option Nat)
 Rw:List jl
 W:HM
def FF (X:RpX):List Nat:=RpF X.R X.Rw++X.m::wB X.ws
def AF (X:RpX):List Nat:=X.R.p::X.R.h::X.R.d::X.R.q.l++FF X
theorem uo {X:RpX}:k∈FF X↔k∈RpF X.R X.Rw∨k=X.m∨k∈wB X.ws:=by simp[FF]
theorem wg {X:RpX}:k∈AF X↔k=X.R.p∨k=X.R.h∨k=X.R.d∨k∈X.R.q.l∨k∈FF X:=by simp[AF]
structure RepW (w:World) (i:Nat) (X:RpX) (s:RS):Prop where
 rp:RpM w X.R (i+1) s.l X.W X.Rw (s.A.length:Nat) s.P
 it:pE X.Rw=yu s.A
 dm:DmW w X.R.d X.m X.ws
 dq:X.R.d∉X.R.q.l
 nq:X.m∉X.R.q.l
 nm:X.m≠X.R.m
 wq:∀k∈wB X.ws,k∉X.R.q.l
section
variable {w w':World}{i:Nat}{X:RpX}{s:RS}
theorem RepW.lt (h:RepW w i X s):∀k∈AF X,k<w.heap.size:=fun k j=>by
 rcases wg.1 j with rfl|rfl|rfl|j|j
 ·exact h.rp.b.lt
 ·exact h.rp.h.b.lt
 ·exact h.dm.b.lt
 ·exact h.rp.pm.lt k j
 ·rcases uo.1 j with j|rfl|j
  ·exact h.rp.lt k j
  ·exact h.dm.mb.lt
  ·exact h.dm.lt k (by simp[j])
theorem RepW.keep (h:RepW w i X s)(u:∀k∈AF X,w'.heap[k]? = w.heap[k]?):RepW w' i X s :=
 {h with
  rp:=h.rp.keep fun k j => u k (wg.2 (by
   rcases j with h|h|h|h
   ·exact .inl h
   ·exact .inr (.inl h)
   ·exact .inr (.inr (.inr (.inl h)))
   ·exact .inr (.inr (.inr (.inr (uo.2 (.inl h)))))))
  dm:=h.dm.keep fun k j => u k (wg.2 (by
   rcases List.mem_cons.1 j with h|h
   ·exact .inr (.inr (.inl h))
   ·exact .inr (.inr (.inr (.inr (uo.2 (.inr (List.mem_cons.1 h))))))))}
theorem RepW.below (h:RepW w i X s)(j:Below w.heap.size w w'):RepW w' i X s:=h.keep fun k u=>j.block k (h.lt k u)
theorem RepW.ch (h:RepW w i X s)(u:Ch F w w')(hF:∀k∈AF X,k∉F):RepW w' i X s:=h.keep fun k j=>u.block k (h.lt k j) (hF k j)
theorem MB.ne {kv:Int→Value}{ws:List (Int×Option Nat)}(h:MB kv pV w b ws)(j:blk w k E cs):k≠b:=fun e=>by
 obtain⟨es,c,u⟩:=h;unfold blk at j;rw[e,u.heap]at j;cases j
theorem RepW.dF (h:RepW w i X s):∀k∈X.R.d::X.m::wB X.ws,k∉RpF X.R X.Rw:=fun k C=>by
 rcases List.mem_cons.1 C with rfl|C
 ·exact h.rp.out h.dm.b dc dc dc h.dq
 ·rcases List.mem_cons.1 C with rfl|C
  ·intro u;rcases fQ.1 u with u|u|u|u|u
   ·exact h.nq (LB.wl _ u)
   ·exact h.dm.mb.ne h.rp.g.b u.symm
   ·obtain⟨j,r,O,e⟩:=h.rp.g.in u;obtain⟨I,M⟩:=h.rp.g.cur O e;exact h.dm.mb.ne (show blk w X.m 274 I.toList by unfold blk;rw[M]) rfl
   ·exact h.nm u
   ·exact h.dm.mb.ne h.rp.e.b u.symm
  ·obtain⟨cs,J⟩:=h.dm.wlt C;exact h.rp.out J dc dc dc (h.wq k C)
theorem RepW.turn {j:List jl}{s':RS}(h:RepW w i X s){W':HM}(I:RpM w' X.R (i+1) s'.l W' j (s'.A.length:Nat) s'.P)(hi:pE j=yu s'.A)(C:Ch (RpF X.R X.Rw) w w'):RepW w' i {X with Rw:=j,W:=W'} s' :=
 {h with
  rp:=I
  it:=hi
  dm:=h.dm.keep fun k u=>C.block k (h.dm.lt k u) (h.dF k u)}
end
structure StpX (w w':World) (X X':RpX):Prop where
 R:X'.R=X.R
 m:X'.m=X.m
 ch:Ch (FF X) w w'
 new:∀k∈FF X',k∈FF X∨w.heap.size≤k
theorem StpX.af {X X':RpX}(h:StpX w w' X X'):∀k∈AF X',k∈AF X∨w.heap.size≤k:=fun k j=>by
 rcases wg.1 j with j|j|j|j|j
 ·exact .inl (wg.2 (.inl (h.R ▸ j)))
 ·exact .inl (wg.2 (.inr (.inl (h.R ▸ j))))
 ·exact .inl (wg.2 (.inr (.inr (.inl (h.R ▸ j)))))
 ·exact .inl (wg.2 (.inr (.inr (.inr (.inl (h.R ▸ j))))))
 ·exact(h.new k j).imp (fun u=>wg.2 (.inr (.inr (.inr (.inr u))))) id
theorem StpX.refl {X:RpX}(h:Below w.heap.size w w'):StpX w w' X X:=⟨rfl,rfl,Ch.of_below h,fun _ j=>.inl j⟩
theorem StpX.trans {a b c:World}{X Y Z:RpX}(h:StpX a b X Y)(k:StpX b c Y Z):StpX a c X Z :=
 have C:=h.ch.size
 ⟨k.R.trans h.R,k.m.trans h.m,h.ch.trans k.ch h.new,fun x u=>(k.new x u).elim (fun j=>h.new x j) fun j=>.inr oo⟩
theorem StpX.rww {W':HM}{X:RpX}{j:List jl}(u:Ch (RpF X.R X.Rw) w w')(C:∀k∈lrB j,k∈lrB X.Rw∨w.heap.size≤k):StpX w w' X {X with Rw:=j,W:=W'} :=
 ⟨rfl,rfl,u.mono fun k h=>uo.2 (.inl h),fun k h=>by
  rcases uo.1 h with h|h
  ·rcases fQ.1 h with h|h|h|h
   ·exact .inl (uo.2 (.inl (fQ.2 (.inl h))))
   ·exact .inl (uo.2 (.inl (fQ.2 (.inr (.inl h)))))
   ·exact(C k h).imp (fun h=>uo.2 (.inl (fQ.2 (.inr (.inr (.inl h)))))) id
   ·exact .inl (uo.2 (.inl (fQ.2 (.inr (.inr (.inr h))))))
  ·exact .inl (uo.2 (.inr h))⟩
theorem StpX.rw {X:RpX}{h:List jl}(j:Ch (RpF X.R X.Rw) w w')(u:∀k∈lrB h,k∈lrB X.Rw∨w.heap.size≤k):StpX w w' X {X with Rw:=h}:=StpX.rww (W':=X.W) j u
structure WW (w:World) (B k:Nat) (X:Nat→RpX) (S:Nat→RS) (Z:List Nat):Prop where
 rp:∀i,i<k→RepW w i (X i) (S i)
 sep:∀i j,i<k→j<k→i≠j→∀x∈AF (X i),x∉FF (X j)
 z:∀i,i<k→∀x∈Z,x∉AF (X i)
 zl:∀x∈Z,x<w.heap.size
 lo:∀i,i<k→∀x∈FF (X i),B≤x
end
section
open Go.RowKit
def OA (s3 a5 k_8:Value)(zf:Nat→Value):List Value:=zT zf 0 3 (s3::zf 4::a5::zf 6::zf 7::k_8::zT zf 9 74 ([]))
def FV (s0 i1 a2:Value)(zf:Nat→Value):List Value:=s0::i1::a2::zT zf 3 80 ([])
def FU (K:KV):KE:=ah Q (cd f172 [1,1,1]) (rk f172 K) xf (rk f172 K)
abbrev GW (K:KV)(hA0:KE)(s0 i1 a2:Value)(w:World):Prop :=
  box Q 58 s0 (fun s3=>box Q 3 i1 fun i4=>box Q 51 a2 fun a5=>ai Q 51 a5 4 fun t12=>ld Q 31 t12 fun t13=>bT .eql 31 t13 (cu 0) fun t14 w=>aG t14 false (fun k16=>ai Q 51 a5 0 (fun t16=>ld Q 5 t16 fun t17=>bT .neq 5 t17 (cb 3) fun t18=>k16 [t16,t17,t18,t18]) w) (fun k=>k [uu,uu,uu,uu] w) fun us16 w=>aG (gd us16 3) true (fun k20=>ai Q 51 a5 0 (fun t20=>ld Q 5 t20 fun t21=>bT .neq 5 t21 (cb 4) fun t22=>k20 [t20,t21,t22]) w) (fun k=>k [uu,uu,uu] w) fun us20 w=>aG t14 false (fun k23=>pick (gd us16 3) (gd us20 2) cF (fun t23=>k23 [t23]) w) (fun k=>k [uu] w) fun us23=>pick t14 cT (gd us23 0) fun t24 w=>cond t24 (K (.tuple #[cF,ci 0]) w) (ai Q 58 s3 4 (fun t25=>ld Q 56 t25 fun t26=>call Q 202 #[t26,.func (.func 203) #[] #[i4,a5]] fun t28=>hA0 (OA s3 a5 t28 (zV (zV (zV (zV zu 0 [s0,i1,a2]) 4 [i4]) 6 [cF,ci 0]) 12 [t12,t13,t14,t14,gd us16 0,gd us16 1,gd us16 2,gd us16 3,gd us20 0,gd us20 1,gd us20 2,gd us23 0,t24,t25,t26,.func (.func 203) #[] #[i4,a5],t28]))) w)) w
theorem Qf (j:Code)(h:GW K (ah Q j (rk f172 K) (fun _ _ _=>False) (rk f172 K)) V0 W0 X0 w):ah Q (rep [1,1,1] j (cd f172 [])) (rk f172 K) xf (rk f172 K) (FV V0 W0 X0 zu) w:=Eq.mp kr h
theorem OC {K:KV}{V0 W0 X0:Value}{w:World}(h:GW K (FU K) V0 W0 X0 w):Gives Q 172 #[V0,W0,X0] w K:=aq func172 (by kernel_rfl) (Eq.mp (congrArg (fun c=>ah Q c (rk f172 K) xf (rk f172 K) (FV V0 W0 X0 zu) w) (by kernel_rfl:(rep [1,1,1] (cd f172 [1,1,1]) (cd f172 []))=(cd f172 []))) (Qf (cd f172 [1,1,1]) h))
attribute [irreducible] FU
def Aa (l0 a2 i4 a5 made6 e7 x10:Value)(zf:Nat→Value):List Value:=l0::zf 1::a2::zf 3::i4::a5::made6::e7::zf 8::zf 9::x10::zT zf 11 29 ([])
def yp (K:KV):KE:=ah Q (cd f126 [1,1,1,1]) (rk f126 K) xf (rk f126 K)
abbrev LR (K:KV)(hA0:KE)(l0 i1 a2:Value)(w:World):Prop :=
  box Q 51 a2 (fun a5=>alc Q 35 fun made6=>bT .eql 132 l0 (.pointer none) fun C0 w=>cond C0 (ld Q 35 made6 (fun C1=>sto Q 35 made6 C1 fun _=>aV Q [(some 35,made6),(none,ci 2)] K) w) (aE (fun S w=>hL S 51 a5 fun C6=>call Q 76 #[l0] (fun C4=>aU S fun _=>call Q 172 #[C4,i1,C6] fun C7=>aE fun S w=>hld S (ext Q C7 0) fun C8=>hld S (ext Q C7 1) fun C9=>cond C8 (ld Q 35 made6 (fun D1=>sto Q 35 made6 D1 fun _=>aV Q [(some 35,made6),(none,C9)] K) w) (ld Q 51 a5 (fun D6=>call Q 173 #[l0,i1,D6] fun D7=>ext Q D7 0 fun D8=>ext Q D7 1 fun D9=>alc Q 35 fun x10=>sto Q 35 x10 D8 fun _=>hA0 (Aa l0 a2 uu a5 made6 D9 x10 (zV (zV (zV (zV (zV zu 1 [i1]) 8 [C8,C9]) 11 [l0,C0]) 14 [C7,l0,C4,i1,C6,C7,C8,C9,C8]) 25 [D7,l0,i1,D6,D7,D8,D9]))) w)) w) w.drew)) w
theorem Uk (j:Code)(h:LR K (ah Q j (rk f126 K) (fun _ _ _=>False) (rk f126 K)) V0 X0 W0 w):ah Q (rep [1,1,1,1] j (cd f126 [])) (rk f126 K) xf (rk f126 K) (Aa V0 W0 uu uu uu uu uu (zV zu 1 [X0])) w:=Eq.mp kr h
theorem Sz {K:KV}{V0 i1 W0:Value}{w:World}(h:LR K (yp K) V0 i1 W0 w):Gives Q 126 #[V0,i1,W0] w K:=aq func126 (by kernel_rfl) (Eq.mp (congrArg (fun c=>ah Q c (rk f126 K) xf (rk f126 K) (Aa V0 W0 uu uu uu uu uu (zV zu 1 [i1])) w) (by kernel_rfl:(rep [1,1,1,1] (cd f126 [1,1,1,1]) (cd f126 []))=(cd f126 []))) (Uk (cd f126 [1,1,1,1]) h))
theorem Qg (h:bT .neq 40 H1 (ci 0) (fun E1 w=>cond E1 (ld Q 35 Z0 (fun E2=>sto Q 35 Z0 E2 fun _=>aV Q [(some 35,Z0),(none,H1)] K) w) (aE (fun S w=>hL S 35 I1 fun E4=>hL S 35 I1 fun E6=>call Q 107 #[V0,E6] (fun E7=>aU S fun _=>sto Q 35 Z0 E4 fun _=>aE fun _=>aV Q [(some 35,Z0),(none,E7)] K) w) w.drew)) w):yp K (Aa V0 W0 X0 Y0 Z0 H1 I1 zf) w:=by
 delta yp;exact mpK h
attribute [irreducible] yp
def zc (l0 a2 i4 a5 A4 f10 e11:Value)(zf:Nat→Value):List Value:=l0::zf 1::a2::zf 3::i4::a5::A4::zT zf 7 3 (f10::e11::zT zf 12 27 ([]))
def yg (K:KV):KE:=ah Q (cd f173 (b1 127)) (rk f173 K) xf (rk f173 K)
abbrev Kz (K:KV)(hA0:KE)(l0 i1 a2:Value)(w:World):Prop :=
  box Q 3 i1 (fun i4=>box Q 51 a2 fun a5=>alc Q 35 fun A4=>bT .eql 132 l0 (.pointer none) fun C2 w=>cond C2 (bld Q 35 #[] (fun C3=>sto Q 35 A4 C3 fun _=>aV Q [(some 35,A4),(none,ci 2)] K) w) (call Q 116 #[l0] (fun C5=>alc Q 33 fun known8=>sto Q 33 known8 C5 fun _=>ld Q 33 known8 fun C7=>ld Q 3 i4 fun C8=>call Q 204 #[C7,C8] fun C9=>ext Q C9 0 fun D0=>ext Q C9 1 fun D1=>alc Q 31 fun seq9=>sto Q 31 seq9 D0 fun _=>bT .eql 40 D1 (ci 10) fun D3 w=>cond D3 (bld Q 35 #[] (fun D4=>sto Q 35 A4 D4 fun _=>aV Q [(some 35,A4),(none,D1)] K) w) (ld Q 51 a5 (fun D6=>call Q 205 #[D6,.func (.func 206) #[] #[i4,seq9,known8]] fun D8=>alc Q 35 fun e11=>sto Q 35 e11 D8 fun _=>hA0 (zc l0 a2 i4 a5 A4 D1 e11 (zV (zV (zV (zV (zV zu 1 [i1]) 7 [ci 0,known8,seq9]) 13 [l0,C2]) 16 [l0,C5,C9,C7,C8,C9,D0,D1,D1,D3]) 28 [D6,.func (.func 206) #[] #[i4,seq9,known8],D8]))) w)) w)) w
theorem SS (j:Code)(h:Kz K (ah Q j (rk f173 K) (fun _ _ _=>False) (rk f173 K)) V0 X0 W0 w):ah Q (rep (b1 127) j (cd f173 [])) (rk f173 K) xf (rk f173 K) (zc V0 W0 uu uu uu uu uu (zV zu 1 [X0])) w:=Eq.mp kr h
theorem Sj {K:KV}{V0 i1 W0:Value}{w:World}(h:Kz K (yg K) V0 i1 W0 w):Gives Q 173 #[V0,i1,W0] w K:=aq func173 (by kernel_rfl) (Eq.mp (congrArg (fun c=>ah Q c (rk f173 K) xf (rk f173 K) (zc V0 W0 uu uu uu uu uu (zV zu 1 [i1])) w) (by kernel_rfl:(rep (b1 127) (cd f173 (b1 127)) (cd f173 []))=(cd f173 []))) (SS (cd f173 (b1 127)) h))
theorem Pa (h:ld Q 35 I1 (fun E0=>call Q 207 #[V0,E0] fun E1=>bT .neq 40 E1 (ci 0) fun E3 w=>cond E3 (bld Q 35 #[] (fun E4=>sto Q 35 Z0 E4 fun _=>aV Q [(some 35,Z0),(none,E1)] K) w) (ld Q 35 I1 (fun E6=>sto Q 35 Z0 E6 fun _=>aV Q [(some 35,Z0),(none,ci 0)] K) w)) w):yg K (zc V0 W0 X0 Y0 Z0 H1 I1 zf) w:=by
 delta yg;exact mpK h
attribute [irreducible] yg
theorem Sk (h:box Q 51 V0 (fun a2=>alc Q 35 fun A3=>ai Q 51 a2 0 fun A4=>ld Q 5 A4 fun A5=>ai Q 51 a2 1 fun A6=>ld Q 31 A6 fun A7=>ai Q 51 a2 2 fun A8=>ld Q 3 A8 fun A9=>ai Q 51 a2 3 fun C0=>ld Q 2 C0 fun C1=>ai Q 51 a2 4 fun C2=>ld Q 31 C2 fun C3=>ai Q 51 a2 5 fun C4=>ld Q 31 C4 fun C5=>bld Q 35 #[(3,A5),(4,A7),(5,A9),(6,C1),(7,C3),(8,C5)] fun C6=>alc Q 35 fun j=>sto Q 35 j C6 fun _=>aZ Q W0 #[j] fun _=>ld Q 35 j fun C9=>sto Q 35 A3 C9 fun _=>aV Q [(some 35,A3)] K) w):Gives Q 205 #[V0,W0] w K:=by
 refine aq func205 kr ?_;exact mpK h
theorem P9 (h:aE (fun S w=>hL S 3 W0 fun A6=>hL S 31 X0 fun A7=>hL S 33 Y0 fun A8=>hN S V0 fun A9=>hF S 35 A9 0 fun C0=>sto Q 3 C0 A6 (fun _=>aU S fun S w=>hN S V0 fun C1=>hF S 35 C1 1 fun C2=>sto Q 31 C2 A7 (fun _=>aU S fun S w=>hN S V0 fun C3=>hF S 35 C3 2 fun C4=>sto Q 33 C4 A8 (fun _=>K (.tuple #[])) w) w) w) w.drew):Gives Q 206 #[V0,W0,X0,Y0] w K:=by
 refine aq func206 kr ?_;exact mpK h
def fB (r0 a1 a3 A3 made6 e7 D1:Value)(zf:Nat→Value):List Value:=r0::a1::zf 2::a3::A3::zf 5::made6::e7::zT zf 8 15 (D1::zT zf 24 8 ([]))
def im (K:KV):KE:=kZ f73 [1,1,1] K
def lj (K:KV):KE:=ah Q (cd f73 [1,1,0,1]) (im K) xf (rk f73 K)
abbrev xO (K:KV)(hA0:KE)(r0 a1:Value)(w:World):Prop :=
  box Q 51 a1 (fun a3=>alc Q 35 fun A3 w=>aE (fun S w=>hN S r0 fun A8=>hF S 144 A8 1 fun A9=>hL S 132 A9 fun C0=>hN S r0 fun C2=>hF S 144 C2 0 fun C3=>hL S 3 C3 fun C4=>hL S 51 a3 fun C5=>(call Q 126 #[C0,C4,C5] (fun C6=>aE fun S w=>hld S (ext Q C6 0) fun C7=>hld S (ext Q C6 1) fun C8=>alc Q 35 (fun made6=>aU S fun S=>sto Q 35 made6 C7 fun _=>aU S fun _=>ld Q 35 made6 fun C9=>bld Q 35 #[] fun D0=>bF .neq 35 C9 D0 fun D1=>hA0 (fB r0 a1 a3 A3 made6 C8 D1 (zV (zV zu 5 [ci 0]) 8 [C6,r0,A8,A9,C0,r0,C2,C3,C4,C5,C6,C7,C8,C9,D0]))) w) w)∧(alc Q 35 (fun made6=>aU S fun _=>call Q 126 #[C0,C4,C5] fun C6=>aE fun S w=>hld S (ext Q C6 0) fun C7=>hld S (ext Q C6 1) fun C8=>sto Q 35 made6 C7 (fun _=>aU S fun _=>ld Q 35 made6 fun C9=>bld Q 35 #[] fun D0=>bF .neq 35 C9 D0 fun D1=>hA0 (fB r0 a1 a3 A3 made6 C8 D1 (zV (zV zu 5 [ci 0]) 8 [C6,r0,A8,A9,C0,r0,C2,C3,C4,C5,C6,C7,C8,C9,D0]))) w) w)) w.drew) w
theorem Hs (j:Code)(h:xO K (ah Q j (ah Q (cd f73 [1,1,1]) (rk f73 K) (fun _ _ _=>False) (rk f73 K)) (fun _ _ _=>False) (rk f73 K)) V0 W0 w):ah Q (rep [1,1,0,1] j (cd f73 [])) (rk f73 K) xf (rk f73 K) (fB V0 W0 uu uu uu uu uu zu) w:=Eq.mp kr h
theorem GA {K:KV}{V0 W0:Value}{w:World}(h:xO K (lj K) V0 W0 w):Gives Q 73 #[V0,W0] w K:=aq func73 (by kernel_rfl) (Eq.mp (congrArg (fun c=>ah Q c (rk f73 K) xf (rk f73 K) (fB V0 W0 uu uu uu uu uu zu) w) (by kernel_rfl:(rep [1,1,0,1] (cd f73 [1,1,0,1]) (cd f73 []))=(cd f73 []))) (Hs (cd f73 [1,1,0,1]) h))
theorem Eg (h:cond I1 (aE (fun S w=>hN S V0 fun D3=>hF S 144 D3 2 fun D4=>hL S 135 D4 fun D5=>hL S 35 Z0 fun D6=>call Q 108 #[D5,D6] (fun D7=>im K (fB V0 W0 X0 Y0 Z0 H1 I1 (zV zf 24 [V0,D3,D4,D5,D6,D7]))) w) w.drew) (im K (fB V0 W0 X0 Y0 Z0 H1 I1 zf) w)):lj K (fB V0 W0 X0 Y0 Z0 H1 I1 zf) w:=by
 delta lj;revert h;generalize (im K)=qc0;exact mpF
theorem Eh (h:ld Q 35 Z0 (fun D8=>sto Q 35 Y0 D8 fun _=>aV Q [(some 35,Y0),(none,H1)] K) w):im K (fB V0 W0 X0 Y0 Z0 H1 I1 zf) w:=by
 delta im;exact mpK h
attribute [irreducible] im lj
def iz (r0 a1 now2 a4 made6 e7 D3:Value)(zf:Nat→Value):List Value:=r0::a1::now2::zf 3::a4::zf 5::made6::e7::zT zf 8 17 (D3::zT zf 26 27 ([]))
def gV (K:KV):KE:=kZ f37 [1,1,1,1] K
def pj (K:KV):KE:=ah Q (cd f37 (b1 61)) (gV K) xf (rk f37 K)
abbrev zZ (K:KV)(hA0:KE)(r0 a1 now2:Value)(w:World):Prop :=
  box Q 51 a1 (fun a4=>alc Q 35 fun made6=>bT .eql 98 r0 (.pointer none) fun A9 w=>cond A9 (ld Q 35 made6 (fun C0=>sto Q 35 made6 C0 fun _=>aV Q [(some 35,made6),(none,ci 2)] K) w) (ld Q 51 a4 (fun C3=>call Q 73 #[r0,C3] fun C4=>ext Q C4 0 fun C5=>ext Q C4 1 fun C6=>sto Q 35 made6 C5 fun _=>bT .eql 40 C6 (ci 11) fun C8 w=>aG C8 true (fun k22=>ai Q 51 a4 0 (fun D0=>ld Q 5 D0 fun D1=>bT .eql 5 D1 (cb 3) fun D2=>k22 [D0,D1,D2]) w) (fun k=>k [uu,uu,uu] w) fun us22=>pick C8 (gd us22 2) cF fun D3=>hA0 (iz r0 a1 now2 a4 made6 C6 D3 (zV (zV zu 10 [r0,A9]) 13 [C4,r0,C3,C4,C5,C6,C6,C8,C8,gd us22 0,gd us22 1,gd us22 2]))) w)) w
theorem JC (j:Code)(h:zZ K (ah Q j (ah Q (cd f37 [1,1,1,1]) (rk f37 K) (fun _ _ _=>False) (rk f37 K)) (fun _ _ _=>False) (rk f37 K)) V0 W0 X0 w):ah Q (rep (b1 61) j (cd f37 [])) (rk f37 K) xf (rk f37 K) (iz V0 W0 X0 uu uu uu uu zu) w:=Eq.mp kr h
theorem Ih {K:KV}{V0 W0 X0:Value}{w:World}(h:zZ K (pj K) V0 W0 X0 w):Gives Q 37 #[V0,W0,X0] w K:=aq func37 (by kernel_rfl) (Eq.mp (congrArg (fun c=>ah Q c (rk f37 K) xf (rk f37 K) (iz V0 W0 X0 uu uu uu uu zu) w) (by kernel_rfl:(rep (b1 61) (cd f37 (b1 61)) (cd f37 []))=(cd f37 []))) (JC (cd f37 (b1 61)) h))
theorem Gx (h:cond I1 (aE (fun S w=>hN S V0 fun D6=>hF S 144 D6 1 fun D7=>hL S 132 D7 fun D8=>hN S V0 fun E0=>hF S 144 E0 0 fun E1=>hL S 3 E1 fun E2=>hF S 51 Y0 1 fun E3=>hL S 31 E3 fun E4=>hF S 51 Y0 3 fun E5=>hL S 2 E5 fun E6=>call Q 74 #[D8,E2,E4,E6] (fun E7=>aE fun S w=>hld S (ext Q E7 0) fun E8=>hld S (ext Q E7 1) fun E9=>aE (fun S w=>hN S V0 fun F0=>hF S 144 F0 5 fun F1=>hL S 141 F1 fun F2=>hF S 51 Y0 3 fun F3=>hL S 2 F3 fun F4=>call Q 75 #[F2,E8,F4,X0] (fun F5=>gV K (iz V0 W0 X0 Y0 Z0 H1 I1 (zV (zV zf 8 [E8,E9]) 26 [E7,V0,D6,D7,D8,V0,E0,E1,E2,E3,E4,E5,E6,E7,E8,E9,V0,F0,F1,F2,E8,F3,F4,X0,F5]))) w) w.drew) w) w.drew) (gV K (iz V0 W0 X0 Y0 Z0 H1 I1 zf) w)):pj K (iz V0 W0 X0 Y0 Z0 H1 I1 zf) w:=by
 delta pj;revert h;generalize (gV K)=qc0;exact mpF
theorem Gy (h:ld Q 35 Z0 (fun F6=>sto Q 35 Z0 F6 fun _=>aV Q [(some 35,Z0),(none,H1)] K) w):gV K (iz V0 W0 X0 Y0 Z0 H1 I1 zf) w:=by
 delta gV;exact mpK h
attribute [irreducible] gV pj
theorem RF (h:box Q 33 V0 (fun v2=>call Q 227 #[W0] fun M=>un Q .not M fun O w=>cond O (K (.tuple #[cu 0,ci 10]) w) (bT .sub 3 W0 (ci 1) (fun j=>aL Q 33 v2 j fun t13=>ld Q 31 t13 fun t14=>bT .geq 31 t14 (cu 1099511627776) fun t15 w=>cond t15 (K (.tuple #[cu 0,ci 6]) w) (bT .sub 3 W0 (ci 1) (fun u=>aL Q 33 v2 u fun C=>ld Q 31 C fun I=>bT .add 31 I (cu 1) fun J=>K (.tuple #[J,ci 0])) w)) w)) w):Gives Q 204 #[V0,W0] w K:=by
 refine aq func204 kr ?_;exact mpK h
theorem Hh (h:box Q 35 W0 (fun u=>ld Q 35 u fun C=>call Q 160 #[V0,C] fun j=>ext Q j 0 fun _=>ext Q j 1 K) w):Gives Q 207 #[V0,W0] w K:=by
 refine aq func207 kr ?_;exact mpK h
end
section
attribute [local irreducible] bin un conv call aZ blt slc ai fld aL idx lkp cP eP eSt rng nxt ent ext alc box bld bg ld sto aJ cr mkS ifc pick rdy wts aG sti cond aV Gives ah dy dP cOp
section
open Go.RowKit
structure AK where
 k:Int
 n:Int
 t:Int
 a:Int
 r:Int
 f:Int
def akC (x:AK):List Value:=[kv8 x.k,u6 x.n,iv x.t,iv x.a,u6 x.r,u6 x.f]
def mkE (i s:Int)(V:List Int)(x:AK):EV:=⟨i,s,V.getD 0 0,V.getD 1 0,V.getD 2 0,V.getD 3 0,V.getD 4 0,V.getD 5 0,x.k,x.n,x.t,x.a,x.r,x.f⟩
theorem zb6 {i s:Int}{V:List Int}{x:AK}(h:V.length=6):(mkE i s V x).V=V:=by
 obtain⟨_,_,_,_,_,_,rfl⟩:=sR h;rfl
theorem Ze (h:K (pA b (o+0)) w):ai Q 51 (pA b o) 0 K w:=aH kr h
theorem Zf (h:K (pA b (o+1)) w):ai Q 51 (pA b o) 1 K w:=aH kr h
theorem Zg (h:K (pA b (o+2)) w):ai Q 51 (pA b o) 2 K w:=aH kr h
theorem Zh (h:K (pA b (o+3)) w):ai Q 51 (pA b o) 3 K w:=aH kr h
theorem Tg (h:K (pA b (o+4)) w):ai Q 51 (pA b o) 4 K w:=aH kr h
theorem Zi (h:K (pA b (o+5)) w):ai Q 51 (pA b o) 5 K w:=aH kr h
theorem HL (e:EV):jf Q 6 35 (evC e)=true:=by kernel_rfl
section
variable {w:World}{K:KV}{x:AK}
theorem IA (j:blk w b 51 (akC x))(h:K (.agg (akC x).toArray) w):ld Q 51 (pB b) K w:=ldA (n:=6) (vs:=akC x) underlying51 rfl kr j rfl rfl h
theorem Iz (h:∀w',blk w' w.heap.size 51 (akC x)→Below w.heap.size w w'→w'.heap.size=w.heap.size+1→K (pB w.heap.size) w'):box Q 51 (.agg (akC x).toArray) K w:=br fun w' j b s=>h w' (by simpa[Value.cells]using j) b s
theorem zbl {v:Value}{i:Int}(j:x.r=0)(h:∀w',Below w.heap.size w w'→K (.tuple #[.bool false,ci 0]) w'):call Q 172 #[v,iv i,.agg (akC x).toArray] K w:=by
 refine ak (goK func172) (OC (br fun U Z b1 J=>br fun w2 z2 u M=>Iz fun I z3 C O=>?_));refine Tg (lK (v:=u6 x.r) z3 rfl (aO ?_));exact iq j (HP (by simp[asB,gd,undef]) (iq j (bA j (aT (h I (b1.trans ((u.trans (C.mono oo)).mono b1.size)))))))
theorem zcK {V:List Int}(C:V.length=6)(hi:i<6)(j:0≤V.getD i 0∧V.getD i 0<M40)(h:∀w',Below w.heap.size w w'→K (.tuple #[u6 (V.getD i 0+1),ci 0]) w'):call Q 204 #[.agg (vCs V).toArray,iv ((i:Int)+1)] K w:=by
 refine ak (goK func204) (RF (yf C fun I u b1 J=>?_));refine Wc (bK ?_);rw[show bG ((i:Int)+1)=true by unfold bG;simp;omega];have c:(vCs V)[0+i]? = some (u6 (V.getD i 0)):=by
  rw[Nat.zero_add];unfold vCs;rw[List.getElem?_map,List.getD_eq_getElem?_getD,gE oo];rfl
 refine aF (ba oo oo ?_);rw[show (i:Int)+1-1=(i:Nat)by omega];refine ixV (k:=i) rfl hi (lK (v:=u6 (V.getD i 0)) u c (bI (ao (by unfold M40 at j;omega) ?_)));refine ba oo oo ?_;rw[show (i:Int)+1-1=(i:Nat)by omega];refine ixV (k:=i) rfl hi (lK (v:=u6 (V.getD i 0)) u c (iW ?_));rw[eu,show (V.getD i 0+1)%18446744073709551616=V.getD i 0+1 by unfold M40 at j;omega]
 exact h I b1
theorem zdO {q:LB}{s:PL}{e:EV}(h:PM w q s)(hi:PI s)(u:∀w',Below w.heap.size w w'→K (ci (oN e s)) w'):call Q 207 #[pB q.p,evV e] K w:=by
 refine ak (goK func207) (Hh (yk fun M e1 b1 J=>dT e1 ?_));refine Ud (h.below b1) hi (fun w2 _ j=>bu (bv (u w2 (b1.trans (j.mono b1.size))))) fun C w2 I j _=>bu (bv ?_)
 have:=u w2 (b1.trans (j.mono b1.size))
 rwa[C]at this
theorem zdA {i s:Int}{V:List Int}(hV:V.length=6)(hi:blk w b 3 [iv i])(hs:blk w c 31 [u6 s])(hk:blk w o 33 (vCs V))(h:∀w',Below w.heap.size w w'→K (evV (mkE i s V x)) w'):call Q 205 #[.agg (akC x).toArray,.func (.func 206) #[] #[pB b,pB c,pB o]] K w:=by
 obtain⟨J,M,v2,O,U,Z,rfl⟩:=sR hV;refine ak (goK func205) (Sk (Iz fun w1 z1 b1 s1=>jT fun w2 t2 b2 s2=>?_));have z2:=ae b2 z1 z1.lt;refine Ze (lK (v:=kv8 x.k) z2 rfl (Zf (lK (v:=u6 x.n) z2 rfl (Zg (lK (v:=iv x.t) z2 rfl (Zh (lK (v:=iv x.a) z2 rfl (Tg (lK (v:=u6 x.r) z2 rfl (Zi (lK (v:=u6 x.f) z2 rfl ?_)))))))))))
 refine dl (vs:=evC ⟨0,0,0,0,0,0,0,0,x.k,x.n,x.t,x.a,x.r,x.f⟩) kr (jT fun w3 e3 b3 s3=>?_);refine iU (e':=⟨0,0,0,0,0,0,0,0,x.k,x.n,x.t,x.a,x.r,x.f⟩) e3 fun w4 e4 o4=>?_;have u:Below w.heap.size w w4:=aR ((b1.trans (b2.mono oo)).trans (b3.mono oo)) o4 oo;have i4:=ae u hi hi.lt;have q4:=ae u hs hs.lt;have k4:=ae u hk hk.lt
 have t4:=o4.blk (ae b3 t2 t2.lt) oo;have li:=hi.lt;have ls:=hs.lt;have lk:=hk.lt;have z4:=o4.size;refine dn rfl (ak (goK func206) (P9 ?_));refine au (fun y=>blk y b 3 [iv i]∧blk y c 31 [u6 s]∧blk y o 33 (vCs [J,M,v2,O,U,Z])) ⟨i4.drew,q4.drew,k4.drew⟩ ?_
 refine ab (v:=iv i) (fun y d _ j=>lK d.1 rfl j) (ab (v:=u6 s) (fun y d _ j=>lK d.2.1 rfl j) (ab (fun y d _ j=>sa rfl d.2.2 j) ?_));refine ab (fun y d _ j=>aj j) (ab (fun y d _ j=>bw j) ?_);refine cB kf e4.drew (by show 0+0<14;omega) rfl fun w5 e5 C=>aC ⟨C.blk i4.drew oo,C.blk q4.drew oo,C.blk k4.drew oo⟩ ?_
 have e5:blk w5 w2.heap.size 35 (evC ⟨i,0,0,0,0,0,0,0,x.k,x.n,x.t,x.a,x.r,x.f⟩):=e5;have i5:=C.blk i4.drew oo;have q5:=C.blk q4.drew oo;have k5:=C.blk k4.drew oo;refine ab (fun y d _ j=>aj j) (ab (fun y d _ j=>gN j) ?_);refine cB kf e5 (by show 0+1<14;omega) rfl fun w6 e6 I=>aC ⟨I.blk i5 oo,I.blk q5 oo,I.blk k5 oo⟩ ?_
 have e6:blk w6 w2.heap.size 35 (evC ⟨i,s,0,0,0,0,0,0,x.k,x.n,x.t,x.a,x.r,x.f⟩):=e6;refine ab (fun y d _ j=>aj j) (ab (fun y d _ j=>qn j) ?_);refine ip (n:=6) (vs:=vCs [J,M,v2,O,U,Z]) kr rfl e6 (by show 0+2+6≤14;omega) MH fun w7 e7 o7=>?_;have e7:blk w7 w2.heap.size 35 (evC (mkE i s [J,M,v2,O,U,Z] x)):=e7
 have t7:=o7.blk (I.blk (C.blk t4.drew oo) oo) oo;refine dT e7 (iU (e':=mkE i s [J,M,v2,O,U,Z] x) t7 fun w8 t8 o8=>?_);exact Cx (v:=evV (mkE i s [J,M,v2,O,U,Z] x)) (fun _ j=>dT t8 j) (h w8 (aR (aR (aR (aR u.drew C oo) I oo) o7 oo) o8 oo))
theorem KU {q:Nat}{u:Value}{e:EV}(C:blk w q 35 (evC e))(h:K (.tuple #[evV e,u]) w):aV Q [(some 35,pA q 0),(none,u)] K w:=FW (v:=evV e) (fun _ j=>dT C j) h
def mkP (i:Nat)(s:PL)(x:AK):EV:=mkE ((i:Int)+1) (s.V.getD i 0+1) s.V x
theorem zdB {q:LB}{s:PL}(h:PM w q s)(hp:PI s)(hi:i<6)(h0:oN (mkP i s x) s=0)(az:∀w',Below w.heap.size w w'→K (.tuple #[evV (mkP i s x),ci 0]) w'):call Q 173 #[pB q.p,iv ((i:Int)+1),.agg (akC x).toArray] K w:=by
 refine ak (goK func173) (Sj (br fun w1 i1 b1 s1=>Iz fun w2 z2 b2 s2=>jT fun w3 t3 b3 s3=>HG (aF ?_)));have i1:blk w1 w.heap.size 3 [iv ((i:Int)+1)]:=i1;have M:=(b1.trans (b2.mono oo)).trans (b3.mono oo);refine FP (h.below M) fun w4 b4=>Il fun w5 k5 b5 s5=>G8 (W:=s.V) rfl hp.v6 k5 fun w6 k6 o6=>?_;have ad:=M.trans (b4.mono M.size);have z4:=b4.size;have z6:=o6.size
 have I:Below w4.heap.size w4 w6:=aR b5 o6 oA;have C:=ad.trans (I.mono ad.size);have i6:=ae I (ae b4 (ae b3 (ae b2 i1 i1.lt) oo) oo) oo;have a6:=ae I (ae b4 (ae b3 z2 z2.lt) oo) oo;have t6:=ae I (ae b4 t3 t3.lt) oo;refine sa hp.v6 k6 (lK (v:=iv ((i:Int)+1)) i6 rfl (zcK hp.v6 hi (hp.vb i hi) fun w7 Z=>bu (bv ?_)))
 have k7:=ae Z k6 k6.lt;have i7:=ae Z i6 i6.lt;have a7:=ae Z a6 a6.lt;have t7:=ae Z t6 t6.lt;have z7:=Z.size;refine vJ (x:=u6 0) kr rfl fun w8 q8 b8 s8=>cB kf q8 sm rfl fun w9 q9 o9=>?_;have q9:blk w9 w7.heap.size 31 [u6 (s.V.getD i 0+1)]:=q9;have u:Below w7.heap.size w7 w9:=aR b8 o9 oA;have k9:=ae u k7 k7.lt;have i9:=ae u i7 i7.lt
 have a9:=ae u a7 a7.lt;have t9:=ae u t7 t7.lt;have z9:=o9.size;refine aO (ao oo (IA a9 (zdA hp.v6 i9 q9 k9 fun a1 af=>jT fun a2 am al a0=>iU (e':=mkP i s x) am fun w12 U ap=>?_)));have aS:=af.size;have J:Below w9.heap.size w9 w12:=aR (af.trans (al.mono aS)) ap oo
 have j:=((C.trans (Z.mono C.size)).trans (u.mono (by have:=C.size;omega))).trans (J.mono (by have:=C.size;omega));have ag:=ae J t9 t9.lt;refine Pa (dT U (zdO (h.below j) hp fun a3 O=>aX ?_));have an:=ae O U U.lt;have t13:=ae O ag ag.lt;have aa:=j.trans (O.mono j.size)
 exact ao (fun hh=>hh h0) (dT an (iU (e':=mkP i s x) t13 fun av t14 ar=>KU t14 (az av (aR aa ar oo))))
theorem Yu {q:LB}{s:PL}(h:PM w q s)(hp:PI s)(hi:i<6)(hG:s.G.length≤1000000)(hr:x.r=0)(h0:oN (mkP i s x) s=0)(aa:∀w',PM w' q (eff (mkP i s x) s)→Ch q.wv w w'→K (.tuple #[evV (mkP i s x),ci 0]) w'):call Q 126 #[pB q.p,iv ((i:Int)+1),.agg (akC x).toArray] K w:=by
 have U:=h.lt;refine ak (goK func126) (Sz (Iz fun w1 z1 b1 s1=>jT fun w2 t2 b2 s2=>HG (aF ?_)));have M:=b1.trans (b2.mono oo);have h2:=(h.below M).below (Below.refl _ w2).drew;have z2:=ae b2 z1 z1.lt;refine au (fun y=>blk y w.heap.size 51 (akC x)) z2.drew (ab (fun y d _ u=>IA d u) ?_);refine Uf h2 hp hG fun w3 t ga gc so b3=>?_
 have I:Below w2.heap.size w2 w3:=(Below.refl _ w2).drew.trans b3;have z3:=ae I z2 z2.lt;have t3:=ae I t2 t2.lt;have O:=M.trans (I.mono oo);refine aC z3 (zbl hr fun w4 b4=>?_);have z4:=ae b4 z3 z3.lt;have t4:=ae b4 t3 t3.lt;have j:=O.trans (b4.mono O.size);have l2:=t2.lt;have l1:w.heap.size≤w1.heap.size:=by omega
 refine au (fun _=>True) trivial (ab (fun y _ _ u=>bu u) (ab (fun y _ _ u=>bv u) ?_));refine aF (IA z4 (zdB (h.below j) hp hi h0 fun w5 Z=>bu (bv ?_)));refine jT fun w6 x6 b6 s6=>iU (e':=mkP i s x) x6 fun w7 x7 o7=>Qg (aX (ao sm ?_));have J:Below w4.heap.size w4 w7:=aR (Z.trans (b6.mono Z.size)) o7 Z.size;have C:=j.trans (J.mono j.size)
 have h7:=(h.below C).below (Below.refl _ w7).drew;have t7:=ae J t4 t4.lt;have s7:=C.size;have s5:=Z.size;refine au (fun y=>blk y w5.heap.size 35 (evC (mkP i s x))) x7.drew (ab (fun y d _ u=>dT d u) (ab (fun y d _ u=>dT d u) ?_));refine Ox h7 hp fun w8 p8 c8=>?_;rw[h0];rw[show lJ (mkP i s x) s=eff (mkP i s x) s by unfold lJ;rw[if_pos h0]]at p8
 have hn:∀k,w.heap.size≤k→k∉q.wv:=fun k hk hh=>by have:=U k (LB.wl k hh);omega
 have af:=J.size;have ad:=j.size;have x8:=x7.drew.ch c8 (hn _ oo);have t8:=t7.drew.ch c8 (hn _ oo);refine aC x8 (iU (e':=mkP i s x) t8 fun w9 t9 o9=>au (fun _=>True) trivial (KU t9 (aa w9 (p8.oth o9 fun hh=>by have:=U _ hh;omega) ?_)));exact((Ch.of_below C.drew:Ch q.wv w w7.drew).trans c8 fun y hy=>.inl hy).add (aR (Below.refl _ w8) o9 oo)
end
end
section
open Go.RowKit Go.ChangeMaps
theorem Q5 {l:PL}{x:AK}:(mkP i l x).q=i:=by
 show ((i:Int)+1-1).toNat=i;omega
theorem WC {l:PL}{x:AK}{r:Bool}(h:r=true↔evC (mkP i l x)=evC evZ):r=false:=by
 cases r with
 | false=>rfl
 | true =>
  have:=congrArg (fun l=>l[0]?) (h.1 rfl)
  simp[evC,mkP,mkE,iv,evZ]at this;omega
abbrev rpC (R:RpB)(i:Nat):List Value:=[iv ((i+1:Nat)),pB R.q.p,pB R.g,pB R.h,pB R.e,pB R.d]
section
variable {w:World}{K:KV}{R:RpB}{i:Nat}{l:PL}{W:HM}{Rw:List jl}{c:Int}{L:List (List Int)}{x:AK}
theorem T9 {y wB:World}{e e0:EV}(h:RpM w0 R (i+1) l W Rw c L)(hi:PI l)(hm:eX l.V e=true)(I:bJ e=true)(hc:c<1000000)(p2:PM y R.q (eff e l))(c2:Ch R.q.wv w0 y)(hz:blk y z 35 (evC e))(ht:blk y b 35 (evC e0))(ad:∀k∈R.q.l,k<b)(hb:Below wB.heap.size wB w0)(aa:wB.heap.size≤b)(C:∀w' j,RpM w' R (i+1) (eff e l) W j (c+1) L→Ch (RpF R Rw) wB w'→(∀k∈lrB j,k∈lrB Rw∨wB.heap.size≤k)→pE j=Ew (pE Rw) e c→K (.tuple #[evV e,ci 0]) w'):lj K (fB (pB R.p) V0 W0 (pB b) (pB z) (ci 0) (.bool true) zf) y:=by
 have z2:=h.b.ch c2 (h.wq h.pq);have g2:=h.g.ch c2 fun k u=>h.wq (h.gq k u);refine Eg (aT ?_);refine au (fun v=>blk v R.p 144 (rpC R i)∧blk v z 35 (evC e)) ⟨z2.drew,hz.drew⟩ ?_;refine ab (fun v d _ C=>aj C) (ab (fun v d _ C=>To C) (ab (v:=pB R.g) (fun v d _ C=>lK d.1 rfl C) (ab (fun v d _ C=>dT d.2 C) ?_)));have U:=c2.add (Below.refl _ y).drew;have d2:y.drew.heap.size=y.heap.size:=rfl
 have sz:=c2.size;have ag:=hb.size;refine Yr h hi hm I hc p2.drew U fun w3 j r3 Z n3 i3=>?_;have M:∀{k:Nat} {cs:List Value},blk y k 35 cs→k∉R.g::lrB Rw:=fun u O=>(List.mem_cons.1 O).elim (fun e=>u.ne g2.b dc e) fun O=>g2.ty u dc O;have af:=hz.drew.ch Z (M hz);have J:=ht.drew.ch Z (M ht)
 refine Eh (dT af (iU (e':=e) J fun w4 t4 o4=>KU t4 (C w4 j (r3.othE (B:=b) ad J oA o4) ?_ (fun k u=>(n3 k u).imp id fun O=>by omega) i3)));have V0:Ch (RpF R Rw) wB w0:=Ch.of_below hb;have a2:Ch (RpF R Rw) wB y:=V0.trans c2 fun k u=>.inl (fQ.2 (.inl u))
 have W0:=(a2.add (Below.refl _ y).drew).trans Z fun k u=>.inl (fQ.2 ((List.mem_cons.1 u).elim (fun h=>.inr (.inl h)) fun h=>.inr (.inr (.inl h))));exact W0.add (aR (Below.refl _ w3) o4 aa)
theorem zd8 (h:RpM w R (i+1) l W Rw c L)(hp:PI l)(hi:i<6)(hG:l.G.length≤1000000)(hc:c<1000000)(hr:x.r=0)(h0:oN (mkP i l x) l=0)(aa:∀w' u,RpM w' R (i+1) (eff (mkP i l x) l) W u (c+1) L→Ch (RpF R Rw) w w'→(∀k∈lrB u,k∈lrB Rw∨w.heap.size≤k)→pE u=Ew (pE Rw) (mkP i l x) c→K (.tuple #[evV (mkP i l x),ci 0]) w'):call Q 73 #[pB R.p,.agg (akC x).toArray] K w:=by
 have J:=h.pm.lt;refine ak (goK func73) (GA (Iz fun w1 z1 b1 s1=>jT fun w2 t2 b2 s2=>?_));have Z:=b1.trans (b2.mono oo);have h2:=h.below Z;have z2:=ae b2 z1 z1.lt;refine au (fun y=>blk y R.p 144 (rpC R i)∧blk y w.heap.size 51 (akC x)) ⟨h2.b.drew,z2.drew⟩ ?_;refine ab (fun y d _ j=>aj j) (ab (fun y d _ j=>yv j) (ab (v:=pB R.q.p) (fun y d _ j=>lK d.1 rfl j) ?_))
 refine ab (fun y d _ j=>aj j) (ab (fun y d _ j=>Tn j) (ab (v:=iv ((i:Int)+1)) (fun y d _ j=>lK (v:=iv ((i:Int)+1)) d.1 (show some (iv ((i+1:Nat)))=some (iv ((i:Int)+1))from congrArg (fun z=>some (iv z)) (by push_cast;rfl)) j) (ab (fun y d _ j=>IA d.2 j) ?_)));have I:=h2.below (Below.refl _ w2).drew;have C:Below w.heap.size w w2.drew:=Z.drew
 have nq:∀k,w.heap.size≤k→k∉R.q.wv:=fun k hk hh=>by have:=J k (LB.wl k hh);omega
 have l2:=t2.lt;have al:w1.heap.size=w.heap.size+1:=s1;have ag:w2.drew.heap.size=w2.heap.size:=rfl;have rdy:=(qi hp).1 h0;refine⟨?_,?_⟩
 ·refine Yu I.pm hp hi hG hr h0 fun w3 p3 c3=>?_;have t3:=t2.drew.ch c3 (nq _ oo);have ad:=c3.size;refine au (fun _=>True) trivial (ab (fun y _ _ j=>bu j) (ab (fun y _ _ j=>bv j) ?_));refine jT fun w4 z4 b4 s4=>aC trivial (iU (e':=mkP i l x) z4 fun w5 z5 o5=>aC trivial ?_);have M:Below w3.heap.size w3 w5:=aR b4 o5 oA
  refine dT z5 (dl (vs:=evC evZ) kr (AI 6 oo kr kr (HL _) (HL _) fun r O=>?_));rw[WC O];exact T9 (wB:=w) I hp rdy.rdy rdy.may hc (p3.below M) (c3.add (M.mono ad)) z5 (ae M t3 t3.lt) (fun k hk=>by have:=J k hk;omega) C oo fun w6 u a1 a2 a3 a4=>aa w6 u a1 a2 a3 a4
 ·refine jT fun w3 z3 U s3=>aC (by
   have:=I.below U
   exact⟨this.b,ae U z2.drew z2.drew.lt⟩) ?_
  have h3:=I.below U;have t3:=ae U t2.drew t2.drew.lt;have af:=C.trans (U.mono C.size);refine Yu h3.pm hp hi hG hr h0 fun w4 p4 c4=>?_;have z4:=z3.ch c4 (nq _ oo);have t4:=t3.ch c4 (nq _ oo);refine au (fun _=>True) trivial (ab (fun y _ _ j=>bu j) (ab (fun y _ _ j=>bv j) ?_));refine iU (e':=mkP i l x) z4 fun w5 z5 o5=>aC trivial ?_;have am:=c4.size
  refine dT z5 (dl (vs:=evC evZ) kr (AI 6 oo kr kr (HL _) (HL _) fun r O=>?_));rw[WC O];have c5:Ch R.q.wv w2.drew w5:=((Ch.of_below U:Ch R.q.wv w2.drew w3).trans c4 fun y hy=>.inl hy).add (aR (Below.refl _ w4) o5 oo)
  exact T9 (wB:=w) I hp rdy.rdy rdy.may hc (p4.oth o5 fun hh=>by have:=J _ hh;omega) c5 z5 (o5.blk t4 oo) (fun k hk=>by have:=J k hk;omega) C oo fun w6 u a1 a2 a3 a4=>aa w6 u a1 a2 a3 a4
end
theorem StpX.nz {X X':RpX}(C:StpX w' w0 X X')(j:∀k∈AF X,k<w.heap.size)(I:w.heap.size≤z)(J:z<w'.heap.size):z∉AF X':=fun u =>
 (C.af z u).elim (fun h=>by have:=j z h;omega) fun h=>by omega
theorem RepW.oth {X:RpX}{s:RS}(h:RepW w i X s)(o:Oth z w w')(u:z∉AF X):RepW w' i X s:=h.keep fun k j=>o.other k fun e=>u (e ▸ j)
theorem StpX.oth {X X':RpX}(h:StpX w w' X X')(o:Oth z w' w0)(j:w.heap.size≤z):StpX w w0 X X' :=
 ⟨h.R,h.m,h.ch.add (aR (Below.refl _ w') o j),h.new⟩
section
variable {w:World}{K:KV}{i:Nat}{X:RpX}{s:RS}{x:AK}
theorem RepW.add {j:List jl}{e:EV}(h:RepW w i X s)(C:e.q<6)(J:RpM w' X.R (i+1) (eff e s.l) X.W j ((s.A.length:Nat)+1) s.P)(u:Ch (RpF X.R X.Rw) w w')(I:pE j=Ew (pE X.Rw) e (s.A.length:Nat)):RepW w' i {X with Rw:=j} ⟨eff e s.l,s.A++[e],s.P⟩:=by
 refine h.turn ?_ ?_ u
 ·have:((s.A++[e]).length:Int)=(s.A.length:Nat)+1:=by rw[List.length_append];push_cast;rfl
  show RpM w' X.R (i+1) (eff e s.l) X.W j ((s.A++[e]).length:Nat) s.P;rw[this];exact J
 ·show pE j=yu (s.A++[e]);rw[I,h.it,Qn C]
theorem zdW {e j:EV}{v:Value}(u:blk w b 35 (evC j))(h:∀w',Oth b w w'→K (.tuple #[evV j,v]) w'):gV K (iz (pB X.R.p) V0 W0 X0 (pB b) v Y0 zf) w :=
 Gy (dT u (iU (e':=j) u fun w2 t2 C=>KU t2 (h w2 C)))
theorem Ym {now:Int}(h:RepW w i X s)(hp:PI s.l)(hi:i<6)(hG:s.l.G.length≤1000000)(hA:s.A.length<1000000)(hr:x.r=0)(h0:oN (mkP i s.l x) s.l=0)(hK:∀w' X',StpX w w' X X'→RepW w' i X' ⟨eff (mkP i s.l x) s.l,s.A++[mkP i s.l x],s.P⟩→X'.ws=X.ws→X'.W=X.W→K (.tuple #[evV (mkP i s.l x),ci 0]) w'):call Q 37 #[pB X.R.p,.agg (akC x).toArray,u6 now] K w:=by
 have hX:=h.lt;refine ak (goK func37) (Ih (Iz fun w1 z1 b1 s1=>jT fun w2 t2 M s2=>HH (aF ?_)));have j:=b1.trans (M.mono oo);have I:=h.below j;have z2:=ae M z1 z1.lt;have l2:=t2.lt;have J:w.heap.size≤w1.heap.size:=by omega
 refine IA z2 (zd8 I.rp hp hi hG oo hr h0 fun w3 u r3 C n3 i3=>bu (bv ?_));have Z:StpX w2 w3 X {X with Rw:=u}:=.rw C n3;have h3:=I.add (by rw[Q5];exact hi) r3 C i3;have tz:=Z.nz hX J l2;have t3:blk w3 w1.heap.size 35 (evC evZ):=t2.ch C (I.rp.out t2 dc dc dc fun hh=>by have:=h.rp.pm.lt _ hh;omega);have sw:=(StpX.refl j:StpX w w2 X X).trans Z
 refine iU (e':=mkP i s.l x) t3 fun w4 t4 O=>aO (eB dc (bj dc (Gx (aF ?_))));exact zdW (X:=X) (e:=mkP i s.l x) t4 fun w5 U=>hK w5 _ ((sw.oth O J).oth U J) ((h3.oth O tz).oth U tz) rfl rfl
theorem zdk {nn aa:Int}{V:List Int}{now:Value}(af:r=1∨r=2)(h:RepW w i X s)(hf:f<6)(hV:V.length=6)(hA:s.P[f]? = some A)(I:∀(u:World) (K1:KV),Below w.heap.size w u→(∀w2,Below u.heap.size u w2→K1 (.bool true) w2)→call Q 67 #[.agg (mgC r ((f:Int)+1) ((i:Int)+1) V V0 nn aa).toArray] K1 u)(go:∀u,RepW u i X ⟨s.l,s.A,s.P.set f (jV A V)⟩→StpX w u X X→call Q (if r=1 then 69 else 70) #[pB X.R.p,.agg (mgC r ((f:Int)+1) ((i:Int)+1) V V0 nn aa).toArray] (fun v w=>K (.tuple #[v,ci 0]) w) u):call Q 34 #[pB X.R.p,.agg (mgC r ((f:Int)+1) ((i:Int)+1) V V0 nn aa).toArray,now] K w:=by
 generalize U:mgC r ((f:Int)+1) ((i:Int)+1) V V0 nn aa=ms at I go ⊢;have ag:ms.length=12:=by rw[←U];simp[mgC,bo,hV]
 have ad:(Value.agg ms.toArray).cells.toList=ms:=by simp[Value.cells]
 have m0:ms[0]? = some (kv8 r):=by rw[←U];rfl
 have m1:ms[1]? = some (iv ((f:Int)+1)):=by rw[←U];rfl
 have m2:ms[2]? = some (iv ((i:Int)+1)):=by rw[←U];rfl
 have m3:(ms.drop 3).take 6=vCs V:=by
  rw[←U];unfold mgC;rw[show 3=[Value.int .u8 r,iv ((f:Int)+1),iv ((i:Int)+1)].length+0 by rfl,List.drop_append,List.drop_of_length_le sm];simp only[List.nil_append,List.length_cons,List.length_nil,Nat.sub_self];rw[List.drop_zero,List.take_append_of_le_length (by rw[bo];omega),tL (by rw[bo];omega)]
 refine ak (goK func34) (Gz (br fun u z1 b1 s1=>HH (aF ?_)));rw[ad]at z1;have Z:∀{y:World} {K:KV},blk y w.heap.size 49 ms→K (.agg ms.toArray) y→ld Q 49 (pB w.heap.size) K y:=fun hy j=>ldA (n:=12) (vs:=ms) underlying49 rfl kr hy (by rw[List.drop_zero,tL oo]) ag j;refine Z z1 (I u _ b1 fun w2 b2=>bK ?_);have M:=b1.trans (b2.mono b1.size)
 have h2:=h.below M;have z2:=ae b2 z1 z1.lt;refine Ec (aF ?_);refine ac (fun _=>NV) (ac (v:=iv ((i:Int)+1)) (fun _=>lK z2.drew m2) ?_);refine ac (fun _=>aj) (ac (fun _=>Tn) (ac (v:=iv ((i+1:Nat))) (fun _=>lK h2.rp.b.drew rfl) ?_));refine ac (v:=.bool false) (fun K j=>aX (by rw[decide_eq_false (by push_cast;simp)];exact j)) ?_;refine Ee (aF (Ed ?_))
 have O:Below w.heap.size w w2.drew.drew:=M.drew.drew;have C:=h.below O;have z3:blk w2.drew.drew w.heap.size 49 ms:=z2;refine au (fun y=>blk y X.R.p 144 (rpC X.R i)∧blk y w.heap.size 49 ms) ⟨C.rp.b,z3⟩ ?_;refine ab (fun y d _ j=>aj j) (ab (fun y d _ j=>Zn j) (ab (v:=pB X.R.e) (fun y d _ j=>lK d.1 rfl j) ?_))
 refine ab (fun y d _ j=>NU j) (ab (v:=iv ((f:Int)+1)) (fun y d _ j=>lK d.2 m1 j) ?_);refine ab (fun y d _ j=>Tm j) (ab (fun y d _ j=>ldA (n:=6) (vs:=vCs V) underlying33 rfl kr d.2 m3 (by rw[bo];exact hV) j) ?_);refine ze7 C.rp.e hf hA hV fun w4 e4 c4=>?_
 have h4:RepW w4 i {X with Rw:=X.Rw} ⟨s.l,s.A,s.P.set f (jV A V)⟩:=C.turn (s':=⟨s.l,s.A,s.P.set f (jV A V)⟩) (C.rp.setE c4 e4) C.it (C.rp.sub2 c4);have z4:=z3.ch c4 fun hh=>absurd (mS hh) (z3.ne C.rp.e.b dc);have ap:StpX w w4 X X:=(StpX.refl O:StpX w _ X X).trans (.rw (C.rp.sub2 c4) fun k hk=>.inl hk)
 refine ub underlying160 rfl (Value.int .u8) (id:Value→Value) fun w5 al b5 s5=>?_;refine uI (v:=Value.func (.func 69) #[pB X.R.p] #[]) (x:=1) u8K underlying160 al fun w6 am o6=>?_;refine uI (v:=Value.func (.func 70) #[pB X.R.p] #[]) (x:=2) u8K underlying160 am fun w7 an o7=>?_;have J:Below w4.heap.size w4 w7:=aR (aR b5 o6 oA) o7 oA;have h7:=h4.below J
 have z7:=ae J z4 z4.lt;have ar:StpX w w7 X X:=ap.trans (.refl J);refine Tl (lK (v:=kv8 r) z7 m0 ?_);refine TO (x:=r) (z0:=Value.nilFunc) u8K underlying160 kf an (Z z7 ?_)
 have:=go w7 h7 ar
 rcases af with rfl|rfl
 ·exact dn (all:=#[pB X.R.p,.agg ms.toArray]) rfl this
 ·exact dn (all:=#[pB X.R.p,.agg ms.toArray]) rfl this
theorem UR {w:World}{B B':Nat}{E:TypeId}{s:Nat}{v:Value}{n:Nat}{xs:List Value}(h:w.ownsRow B E s v n xs)(u:B'≤B):w.ownsRow B' E s v n xs :=
 ⟨h.1,h.2.imp id fun⟨g,cap,j,I,C,r⟩=>⟨g,cap,j,I,Nat.le_trans u C,r⟩⟩
theorem zar {L:List EV}{V:List Int}{now:Value}(h:RepW w i X s)(hi:i<6)(hp:PI s.l)(hk:HK s.l.V X.W)(ad:s.A.length≤999000)(U:VR w a c n L)(aa:∀b o,a=some ⟨b,o,none⟩→b∉FF X)(hm:∀e∈L,bJ e=true)(C:c≤16)(hf:f<6)(af:f≠i)(M:V.length=6)(O:leV V (List.replicate 6 1099511627776)=true)(hA:s.P[f]? = some A)(hK:∀w' X' l' F I J,StpX w w' X X'→RepW w' i X' ⟨l',s.A++F,s.P.set f (jV A V)⟩→DG s.l (nX s.l.V X.W L) l' X'.W F→eK l'.V X'.W 6=none→X'.ws=X.ws→w'.ownsRow w.heap.size 35 14 (.slice I F.length J) F.length (F.flatMap evC)→K (.tuple #[.slice I F.length J,ci 0]) w'):call Q 34 #[pB X.R.p,.agg (mgC 1 ((f:Int)+1) ((i:Int)+1) V (.slice a c n) 0 0).toArray,now] K w:=by
 refine zdk (.inl rfl) h hf M hA (fun w1 K1 b1 h1=>zc8 (U.bel b1 oA) C hm M O (by unfold bG;simp;omega) (by unfold bG;simp;omega) oo h1) fun w1 r1 u=>?_;rw[if_pos rfl];have Z:=U.ch u.ch aa;have hl:=U.len;refine zcu r1.rp hp hk (by show ((s.A.length:Nat):Int)+100≤1000000;omega) Z C M fun w2 l' W' j F I J r2 d2 n2 o2 c2 k2 i2=>?_
 have hq:∀e∈F,e.q<6:=fun e he=>(sj ((d2.inv hp hk.puts).2.2.2.2.2 e he).1).1;refine hK w2 {X with Rw:=j,W:=W'} l' F I J (u.trans (StpX.rww (W':=W') c2 k2)) (r1.turn (W':=W') (s':=⟨l',s.A++F,s.P.set f (jV A V)⟩) ?_ ?_ c2) d2 n2 rfl (UR o2 u.ch.size)
 ·show RpM w2 X.R (i+1) l' W' j ((s.A++F).length:Nat) _;rw[List.length_append];push_cast;exact r2
 ·show pE j=yu (s.A++F);rw[i2,r1.it,WS hq]
end
end
end
section
open Go.RowKit
def GO (t6 t7 t8:Value)(zf:Nat→Value):List Value:=zT zf 0 6 (t6::t7::t8::zT zf 9 9 ([]))
def GP (zf:Nat→Value):List Value:=zT zf 0 18 ([])
def lC (K:KV):KE:=kZ f57 [1,1] K
def uU (K:KV):KE:=ah Q (cd f57 [1,0,1,0]) (lC K) (xx xf (lC K) 0) (rk f57 K)
theorem PQ (h:lN 208 V0 (fun W0=>uU K (GO V0 W0 (ci 0) (zV (zV zu 0 [V0]) 2 [ci 0]))) w):Gives Q 57 #[V0] w K:=by
 refine aq func57 kr ?_;revert h;delta uU lC;exact mpF
theorem MY (Inv:Value→World→Prop)(μ:Value→World→Nat)(U:Inv X0 w)(Z:∀(j:Value) (O:Nat→Value) (w:World) (m:Nat),Inv j w→m=μ j w →
  lS j W0 (fun M w=>cond M (aL Q 208 V0 j (fun I=>ld Q 114 I fun J=>aZ Q J #[] fun t13=>bT .neq 40 t13 (ci 0) fun t15 w=>cond t15 (K t13 w) (nC j (fun u w=>(Inv u w)∧((μ u w)<m)) w)) w) (lC K (GP (zV O 6 [V0,W0,j,M])) w)) w):uU K (GO V0 W0 X0 zf) w:=by
 refine aI (cd f57 (b1 52)) (zr [(2,1),(4,2),(8,10)]) kr (vP [8] Inv) (vQ [8] μ) U ?_;intro e' w' hI;have h:=Z _ (zM zf (gd e') (zr [(2,1),(4,2),(8,10)])) w' _ hI rfl;revert h;generalize (lC K)=qc0;exact mpF
theorem MZ (h:K (ci 0) w):lC K (GP zf) w:=by
 delta lC;exact mpK h
attribute [irreducible] lC uU
theorem Oe (h:call Q 55 #[V0,ci 1] (fun t7=>ext Q t7 0 fun J=>ext Q t7 1 fun M=>bT .neq 40 M (ci 0) fun j w=>aG j false (fun C=>lN 92 J (fun t14=>bT .eql 3 t14 (ci 0) fun t15=>C [J,t14,t15]) w) (fun k=>k [uu,uu,uu] w) fun u=>pick j cT (gd u 2) fun I w=>cond I (K M w) (call Q 59 #[V0,ci 1,ci 0] K w)) w):Gives Q 61 #[V0] w K:=by
 refine aq func61 kr ?_;exact mpK h
def GN (d1 b5 l6 at7:Value)(zf:Nat→Value):List Value:=zf 0::d1::zT zf 2 3 (b5::l6::at7::zT zf 8 26 ([]))
def rH (K:KV):KE:=ah Q (cd f29 [1,1,1,1]) (rk f29 K) xf (rk f29 K)
theorem PP {K:KV}{d0:Value}{w:World}(h:box Q 37 d0 (fun V0=>ld Q 37 V0 fun t9=>call Q 55 #[t9,ci 0] fun t10=>ext Q t10 0 fun t11=>ext Q t10 1 fun t12=>alc Q 92 fun W0=>sto Q 92 W0 t11 fun _=>bT .neq 40 t12 (ci 0) fun t14 w=>cond t14 (K (.tuple #[.pointer none,cN,t12]) w) (ld Q 92 W0 (fun t17=>call Q 56 #[t17] fun t18=>ext Q t18 0 fun t19=>ext Q t18 1 fun t20=>alc Q 3 fun Y0=>sto Q 3 Y0 t20 fun _=>rH K (GN V0 W0 t19 Y0 (zV (zV (zV (zV zu 0 [d0]) 2 [.pointer none,cN,t12]) 8 [t10,t9,t10,t11,t12,t12,t14]) 16 [t18,t17,t18,t19,t20]))) w)) w):Gives Q 29 #[d0] w K:=by
 refine aq func29 (by kernel_rfl) ?_
 refine Eq.mp (congrArg (fun c=>ah Q c _ _ _ _ w) (by kernel_rfl:(rep [1,1,1,1] (cd f29 [1,1,1,1]) (cd f29 []))=(cd f29 []))) ?_
 revert h
 delta rH
 generalize (cd f29 [1,1,1,1])=xc0
 exact mpF
theorem MX (h:bg Q 208 3 #[(0,.func (.func 58) #[] #[Y0,W0,V0]),(1,.func (.func 60) #[] #[V0]),(2,.func (.func 62) #[] #[V0])] (fun t24=>call Q 57 #[t24] fun j=>bT .neq 40 j (ci 0) fun u w=>cond u (K (.tuple #[.pointer none,cN,j]) w) (ld Q 37 V0 (fun C=>ld Q 3 Y0 fun I=>bld Q 154 #[(0,C),(1,I)] fun J=>box Q 154 J fun M=>K (.tuple #[M,X0,ci 0])) w)) w):rH K (GN V0 W0 X0 Y0 zf) w:=by
 delta rH;exact mpK h
attribute [irreducible] rH
theorem MT (h:ld Q 3 V0 (fun t4=>ld Q 92 W0 fun j=>lN 92 j fun u=>bF .eql 3 t4 u fun t7 w=>cond t7 (K (ci 0) w) (ld Q 37 X0 (fun C=>ld Q 3 V0 fun I=>call Q 59 #[C,ci 0,I] K) w)) w):Gives Q 58 #[V0,W0,X0] w K:=by
 refine aq func58 kr ?_;exact mpK h
theorem MU (h:ld Q 37 V0 (fun t2=>call Q 61 #[t2] K) w):Gives Q 60 #[V0] w K:=by
 refine aq func60 kr ?_;exact mpK h
theorem MV (h:ld Q 37 V0 (fun t2=>call Q 63 #[t2] fun j=>bT .eql 3 j (ci 0) fun t4 w=>cond t4 (K (ci 0) w) (ld Q 37 V0 (fun u=>call Q 64 #[u] K) w)) w):Gives Q 62 #[V0] w K:=by
 refine aq func62 kr ?_;exact mpK h
theorem EW (h:bT .eql 101 V0 (.pointer none) (fun J w=>cond J (K (.tuple #[cN,ci 2]) w) (aJ V0 (fun j=>ai Q 154 j 2 fun u=>ld Q 4 u fun t13 w=>cond t13 (K (.tuple #[cN,ci 3]) w) (call Q 170 #[cN,W0] (fun t15=>ext Q t15 0 fun C=>ext Q t15 1 fun I=>K (.tuple #[C,I])) w)) w)) w):Gives Q 122 #[V0,W0] w K:=by
 refine aq func122 kr ?_;exact mpK h
def xh (j0 size1 e_2 t13:Value)(zf:Nat→Value):List Value:=j0::size1::e_2::zT zf 3 10 (t13::zT zf 14 5 ([]))
def qW (e_2:Value)(zf:Nat→Value):List Value:=zf 0::zf 1::e_2::zT zf 3 16 ([])
def g9 (K:KV):KE:=kZ f125 [1,1,1] K
def lf (K:KV):KE:=ah Q (cd f125 [1,1,0,1]) (g9 K) xf (rk f125 K)
theorem Gg {K:KV}{V0 W0 X0:Value}{w:World}(h:bT .eql 40 X0 (ci 8) (fun t9=>aJ V0 fun t10=>ai Q 154 t10 2 fun t11=>sto Q 4 t11 t9 fun _=>bT .eql 40 X0 (ci 0) fun Y0=>lf K (xh V0 W0 X0 Y0 (zV zu 6 [ci 0,V0,X0,t9,t10,t11,X0]))) w):Gives Q 125 #[V0,W0,X0] w K:=by
 refine aq func125 (by kernel_rfl) ?_
 refine Eq.mp (congrArg (fun c=>ah Q c _ _ _ _ w) (by kernel_rfl:(rep [1,1,0,1] (cd f125 [1,1,0,1]) (cd f125 []))=(cd f125 []))) ?_
 revert h
 delta lf g9
 generalize (cd f125 [1,1,0,1])=xc0
 exact mpF
theorem DM (h:cond Y0 (aJ V0 (fun j=>ai Q 154 j 1 fun u=>sto Q 3 u W0 fun _=>g9 K (qW X0 (zV (zV zf 0 [V0,W0]) 13 [Y0,V0,W0,j,u]))) w) (g9 K (qW X0 (zV (zV zf 0 [V0,W0]) 13 [Y0])) w)):lf K (xh V0 W0 X0 Y0 zf) w:=by
 delta lf;revert h;generalize (g9 K)=qc0;exact mpF
theorem DN (h:K X0 w):g9 K (qW X0 zf) w:=by
 delta g9;exact mpK h
attribute [irreducible] g9 lf
def xz (j2 b5 e6:Value)(zf:Nat→Value):List Value:=zf 0::zf 1::j2::zf 3::zf 4::b5::e6::zT zf 7 32 ([])
def lL (K:KV):KE:=ah Q (cd f72 [1,1,1,1]) (rk f72 K) xf (rk f72 K)
theorem Hd {K:KV}{j0 records1:Value}{w:World}(h:box Q 101 j0 (fun V0=>ld Q 101 V0 fun t8=>call Q 122 #[t8,records1] fun t10=>ext Q t10 0 fun t11=>ext Q t10 1 fun t12=>alc Q 92 fun W0=>sto Q 92 W0 t11 fun _=>bT .neq 40 t12 (ci 0) fun t14 w=>aG t14 false (fun k16=>lN 102 records1 (fun t17=>bT .eql 3 t17 (ci 0) fun t18=>k16 [records1,t17,t18]) w) (fun k=>k [uu,uu,uu] w) fun us16=>pick t14 cT (gd us16 2) fun t19 w=>cond t19 (K t12 w) (ld Q 101 V0 (fun t22=>aJ t22 fun t23=>ai Q 154 t23 0 fun t24=>ld Q 37 t24 fun t25=>bg Q 208 2 #[(0,.func (.func 123) #[] #[V0,W0]),(1,.func (.func 64) #[t25] #[])] fun t27=>call Q 57 #[t27] fun t28=>lL K (xz V0 W0 t28 (zV (zV (zV (zV zu 0 [j0,records1]) 4 [ci 0]) 7 [t10,t8,records1,t10,t11,t12,t12,t14,t14,gd us16 0,gd us16 1,gd us16 2,t19]) 21 [.func (.func 123) #[] #[V0,W0],t22,t23,t24,t25,.func (.func 64) #[t25] #[],t27,t28]))) w)) w):Gives Q 72 #[j0,records1] w K:=by
 refine aq func72 (by kernel_rfl) ?_
 refine Eq.mp (congrArg (fun c=>ah Q c _ _ _ _ w) (by kernel_rfl:(rep [1,1,1,1] (cd f72 [1,1,1,1]) (cd f72 []))=(cd f72 []))) ?_
 revert h
 delta lL
 generalize (cd f72 [1,1,1,1])=xc0
 exact mpF
theorem EU (h:aE (fun S w=>hL S 101 V0 fun j=>hL S 101 V0 fun u=>hN S u fun C=>hF S 154 C 1 fun I=>hL S 3 I fun J=>hL S 92 W0 fun M=>hld S (blt Q .len #[92] 3 #[false] #[M]) fun O=>hld (fun _=>True) (bF .add 3 J O) fun U=>call Q 125 #[j,U,X0] (fun Z=>aE fun _=>K Z) w) w.drew):lL K (xz V0 W0 X0 zf) w:=by
 delta lL;exact mpK h
attribute [irreducible] lL
theorem ES (h:aE (fun S w=>hL S 101 V0 fun j=>hN S j fun t4=>hF S 154 t4 0 fun u=>hL S 37 u fun C=>hL S 92 W0 fun t7=>call Q 124 #[C,ci 0,t7] (fun I=>aE fun _=>K I) w) w.drew):Gives Q 123 #[V0,W0] w K:=by
 refine aq func123 kr ?_;exact mpK h
def Hy (s0 t3:Value)(zf:Nat→Value):List Value:=s0::zf 1::zf 2::t3::zT zf 4 9 ([])
def Hz (s0:Value)(zf:Nat→Value):List Value:=s0::zT zf 1 12 ([])
def mn (K:KV):KE:=kZ f226 [1,1] K
def wE (K:KV):KE:=ah Q (cd f226 [1,0,1,0]) (mn K) (xx xf (mn K) 0) (rk f226 K)
theorem QB (h:wE K (Hy V0 (ci 0) (zV zu 2 [Value.int IntKind.u32 0])) w):Gives Q 226 #[V0] w K:=by
 refine aq func226 kr ?_;revert h;delta wE mn;exact mpF
theorem NC (Inv:Value→Value→World→Prop)(μ:Value→Value→World→Nat)(O:Inv V0 W0 w)(U:∀(j u:Value) (M:Nat→Value) (w:World) (m:Nat),Inv j u w→m=μ j u w →
  bT .lss 3 u (ci 8) (fun t4 w=>cond t4 (bT .shr 302 j (cu 1) (fun Z=>bT .and 302 j (Value.int IntKind.u32 1) fun t8=>bin Q .mul 302 true false (Value.int IntKind.u32 3988292384) t8 fun t9=>bF .xor 302 Z t9 fun I=>nC u fun J w=>(Inv I J w)∧((μ I J w)<m)) w) (mn K (Hz j (zV M 3 [u,t4])) w)) w):wE K (Hy V0 W0 zf) w:=by
 refine aI (cd f226 (b1 52)) (zr [(0,1),(3,9)]) kr (vP [0,3] Inv) (vQ [0,3] μ) O ?_;intro e' w' hI;have h:=U _ _ (zM zf (gd e') (zr [(0,1),(3,9)])) w' _ hI rfl;revert h;generalize (mn K)=qc0;exact mpF
theorem NE (h:K V0 w):mn K (Hz V0 zf) w:=by
 delta mn;exact mpK h
attribute [irreducible] mn wE
def Nq (s5 t10 t11 t12:Value)(zf:Nat→Value):List Value:=zT zf 0 5 (s5::zT zf 6 4 (t10::t11::t12::zT zf 13 11 ([])))
def Nr (s5:Value)(zf:Nat→Value):List Value:=zT zf 0 5 (s5::zT zf 6 18 ([]))
def pU (K:KV):KE:=kZ f193 [1,1,1] K
def Bh (K:KV):KE:=ah Q (cd f193 (b1 58)) (pU K) (xx xf (pU K) 0) (rk f193 K)
theorem UJ (h:un Q .xor V0 (fun j=>lN 92 W0 fun X0=>Bh K (Nq j W0 X0 (ci 0) (zV (zV (zV zu 0 [V0,W0]) 4 [Value.int IntKind.u32 0]) 8 [V0,j]))) w):Gives Q 193 #[V0,W0] w K:=by
 refine aq func193 kr ?_;revert h;delta Bh pU;exact mpF
theorem Sm (Inv:Value→Value→World→Prop)(μ:Value→Value→World→Nat)(Z:Inv V0 Y0 w)(hs:∀(u j:Value) (U:Nat→Value) (w:World) (m:Nat),Inv u j w→m=μ u j w →
  lS j X0 (fun t13 w=>cond t13 (aL Q 92 W0 j (fun t14=>ld Q 5 t14 fun t15=>conv Q 5 302 t15 fun M=>bF .xor 302 u M fun O=>call Q 226 #[O] fun I=>nC j fun J w=>(Inv I J w)∧((μ I J w)<m)) w) (pU K (Nr u (zV U 10 [W0,X0,j,t13])) w)) w):Bh K (Nq V0 W0 X0 Y0 zf) w:=by
 refine aI (cd f193 (b1 116)) (zr [(5,1),(7,1),(12,10)]) kr (vP [5,12] Inv) (vQ [5,12] μ) Z ?_;intro e' w' hI;have h:=hs _ _ (zM zf (gd e') (zr [(5,1),(7,1),(12,10)])) w' _ hI rfl;revert h;generalize (pU K)=qc0;exact mpF
theorem Sn (h:un Q .xor V0 K w):pU K (Nr V0 zf) w:=by
 delta pU;exact mpK h
attribute [irreducible] pU Bh
theorem Wo (h:call Q 193 #[Value.int IntKind.u32 0,V0] K w):Gives Q 194 #[V0] w K:=by
 refine aq func194 kr ?_;exact mpK h
theorem PF (h:conv Q 302 31 V0 (fun t7=>call Q 120 #[cN,t7,ci 4] fun j=>ext Q j 0 fun u=>ext Q j 1 fun _=>K u) w):Gives Q 195 #[V0] w K:=by
 refine aq func195 kr ?_;exact mpK h
def L9 (ud t13 t14 t15:Value)(zf:Nat→Value):List Value:=zT zf 0 6 (ud::zT zf 7 6 (t13::t14::t15::zT zf 16 24 ([])))
def La (ud:Value)(zf:Nat→Value):List Value:=zT zf 0 6 (ud::zT zf 7 33 ([]))
def oO (K:KV):KE:=kZ f170 [1,1,1] K
def zw (K:KV):KE:=ah Q (cd f170 (b1 58)) (oO K) (xx xf (oO K) 0) (rk f170 K)
section
variable {K:KV}{ud t13 t14 t15:Value}{zf:Nat→Value}{w:World}
theorem Tt (h:call Q 96 #[V0] (fun j=>lN 102 W0 fun t14=>zw K (L9 j W0 t14 (ci 0) (zV (zV (zV zu 0 [V0,W0]) 4 [cN,ci 0]) 11 [V0,j]))) w):Gives Q 170 #[V0,W0] w K:=by
 refine aq func170 kr ?_;revert h;delta zw oO;exact mpF
theorem QL (Inv:Value→Value→World→Prop)(μ:Value→Value→World→Nat)(h0:Inv ud t15 w)(hs:∀(u j:Value) (dd:Nat→Value) (w:World) (m:Nat),Inv u j w→m=μ u j w →
  lS j t14 (fun J w=>cond J (aL Q 102 t13 j (fun Z=>ld Q 92 Z fun C=>lN 92 C fun aa=>bT .gtr 3 aa (ci 4096) fun ad w=>cond ad (K (.tuple #[cN,ci 6]) w) (lN 92 C (fun af=>conv Q 3 302 af fun t24=>call Q 195 #[t24] fun M=>call Q 194 #[M] fun ag=>call Q 193 #[ag,C] fun al=>blt Q .append #[92,92] 92 #[false,false] #[u,M] fun am=>call Q 195 #[al] fun an=>blt Q .append #[92,92] 92 #[false,false] #[am,an] fun ap=>blt Q .append #[92,92] 92 #[false,false] #[ap,C] fun O=>nC j fun U w=>(Inv O U w)∧((μ O U w)<m)) w)) w) (oO K (La u (zV dd 13 [t13,t14,j,J])) w)) w):zw K (L9 ud t13 t14 t15 zf) w:=by
 refine aI (cd f170 (b1 116)) (zr [(4,3),(8,3),(15,24)]) kr (vP [6,15] Inv) (vQ [6,15] μ) h0 ?_;intro e' w' hI;have h:=hs _ _ (zM zf (gd e') (zr [(4,3),(8,3),(15,24)])) w' _ hI rfl;revert h;generalize (oO K)=qc0;exact mpF
theorem QN (h:K (.tuple #[ud,ci 0]) w):oO K (La ud zf) w:=by
 delta oO;exact mpK h
end
attribute [irreducible] oO zw
theorem HN (h:aE (fun S w=>hN S V0 fun t9=>hF S 261 t9 0 fun u=>hL S 92 u fun C=>hN S V0 fun t13=>hF S 261 t13 1 fun t14=>hL S 3 t14 fun t15=>call Q 104 #[C,t15,ci 4] (fun j=>aE fun S w=>hld S (ext Q j 0) fun I=>hld S (ext Q j 1) fun J=>hld S (ext Q j 2) fun M=>bT .neq 40 M (ci 0) (fun O w=>cond O (K (.tuple #[Value.int IntKind.u32 0,cF]) w) (aJ V0 (fun t24=>ai Q 261 t24 1 fun U=>sto Q 3 U J fun _=>conv Q 31 302 I fun Z=>K (.tuple #[Z,cT])) w)) w) w) w.drew):Gives Q 192 #[V0] w K:=by
 refine aq func192 kr ?_;exact mpK h
def yP (p0 q4 size5 sum7 s9:Value)(zf:Nat→Value):List Value:=p0::zT zf 1 3 (q4::size5::zf 6::sum7::zf 8::s9::zT zf 10 56 ([]))
def yQ (p0:Value)(zf:Nat→Value):List Value:=p0::zT zf 1 65 ([])
def pe (K:KV):KE:=ah Q (cd f153 (b1 127)) (rk f153 K) xf (rk f153 K)
abbrev zx (K:KV)(hA0:KE)(p0:Value)(w:World):Prop :=
  aJ p0 (fun t11=>ld Q 261 t11 fun t12=>alc Q 261 fun q4=>sto Q 261 q4 t12 fun _=>call Q 192 #[q4] fun t14=>ext Q t14 0 fun t15=>ext Q t14 1 fun t16=>call Q 192 #[q4] fun t18=>ext Q t18 0 fun t19=>ext Q t18 1 fun t20=>un Q .not t16 fun t22 w=>aG t22 false (fun k24=>un Q .not t20 (fun t25=>k24 [t20,t25]) w) (fun k=>k [uu,uu] w) fun us24=>pick t22 cT (gd us24 1) fun t26 w=>aG t26 false (fun k28=>bT .gtr 302 t15 (Value.int IntKind.u32 4096) (fun t29=>k28 [t15,t29]) w) (fun k=>k [uu,uu] w) fun us28=>pick t26 cT (gd us28 1) fun t30 w=>aG t30 false (fun k32=>conv Q 302 3 t15 (fun t33=>ai Q 261 q4 0 fun t34=>ld Q 92 t34 fun t35=>lN 92 t35 fun t36=>ai Q 261 q4 1 fun t37=>ld Q 3 t37 fun t38=>bF .sub 3 t36 t38 fun t39=>bF .gtr 3 t33 t39 fun t40=>k32 [t15,t33,t34,t35,t36,t37,t38,t39,t40]) w) (fun k=>k [uu,uu,uu,uu,uu,uu,uu,uu,uu] w) fun us32=>pick t30 cT (gd us32 8) fun t41 w=>cond t41 (K (.tuple #[cN,cF]) w) (ai Q 261 q4 0 (fun t42=>ld Q 92 t42 fun t43=>ai Q 261 q4 1 fun t44=>ld Q 3 t44 fun t45=>slc Q 92 t43 (some t45) none none fun t46=>slc Q 92 t46 none (some t15) none fun t48=>hA0 (yP p0 q4 t15 t19 t48 (zV (zV (zV (zV zu 2 [cN,cF]) 6 [t16]) 8 [t20]) 10 [p0,t11,t12,t14,t14,t15,t16,t18,t18,t19,t20,t16,t22,t22,gd us24 0,gd us24 1,t26,t26,gd us28 0,gd us28 1,t30,t30,gd us32 0,gd us32 1,gd us32 2,gd us32 3,gd us32 4,gd us32 5,gd us32 6,gd us32 7,gd us32 8,t41,t42,t43,t44,t45,t46,t15,t48]))) w)) w
theorem IX (j:Code)(h:zx K (ah Q j (rk f153 K) (fun _ _ _=>False) (rk f153 K)) V0 w):ah Q (rep (b1 127) j (cd f153 [])) (rk f153 K) xf (rk f153 K) (yQ V0 zu) w:=Eq.mp kr h
theorem HO {K:KV}{V0:Value}{w:World}(h:zx K (pe K) V0 w):Gives Q 153 #[V0] w K:=aq func153 (by kernel_rfl) (Eq.mp (congrArg (fun c=>ah Q c (rk f153 K) xf (rk f153 K) (yQ V0 zu) w) (by kernel_rfl:(rep (b1 127) (cd f153 (b1 127)) (cd f153 []))=(cd f153 []))) (IX (cd f153 (b1 127)) h))
theorem Gf (h:call Q 195 #[X0] (fun j=>call Q 194 #[j] fun u=>call Q 193 #[u,Z0] fun C=>bF .neq 302 C Y0 fun I w=>cond I (K (.tuple #[cN,cF]) w) (ai Q 261 W0 1 (fun J=>ld Q 3 J fun M=>conv Q 302 3 X0 fun O=>bF .add 3 M O fun U=>aJ V0 fun Z=>ai Q 261 Z 1 fun aa=>sto Q 3 aa U fun _=>call Q 96 #[Z0] fun ad=>K (.tuple #[ad,cT])) w)) w):pe K (yP V0 W0 X0 Y0 Z0 zf) w:=by
 delta pe;exact mpK h
attribute [irreducible] pe
theorem Tr (h:call Q 96 #[V0] (fun t4=>bld Q 261 #[(0,t4)] fun j=>bld Q 263 #[(0,j)] fun u=>box Q 263 u K) w):Gives Q 97 #[V0] w K:=by
 refine aq func97 kr ?_;exact mpK h
theorem IW (h:bT .eql 204 V0 (.pointer none) (fun I w=>cond I (K (.tuple #[cN,cF]) w) (aJ V0 (fun t7=>ai Q 263 t7 0 fun J=>call Q 153 #[J] fun C=>ext Q C 0 fun j=>ext Q C 1 fun u=>K (.tuple #[j,u])) w)) w):Gives Q 98 #[V0] w K:=by
 refine aq func98 kr ?_;exact mpK h
theorem Lb (h:bT .eql 204 V0 (.pointer none) (fun t4 w=>cond t4 (K (ci 0) w) (aJ V0 (fun j=>ai Q 263 j 0 fun t7=>ai Q 261 t7 1 fun u=>ld Q 3 u K) w)) w):Gives Q 99 #[V0] w K:=by
 refine aq func99 kr ?_;exact mpK h
def L8 (l2 r4:Value)(zf:Nat→Value):List Value:=zf 0::zf 1::l2::zf 3::r4::zT zf 5 18 ([])
def zv (K:KV):KE:=ah Q (cd f56 [1,1,0]) (rk f56 K) (xx xf (rk f56 K) 0) (rk f56 K)
theorem Tq (h:call Q 97 #[V0] (fun j=>zv K (L8 cN j (zV (zV (zV zu 0 [V0]) 3 [ci 0]) 7 [V0,j]))) w):Gives Q 56 #[V0] w K:=by
 refine aq func56 kr ?_;revert h;delta zv;exact mpF
theorem QK (Inv:Value→World→Prop)(μ:Value→World→Nat)(U:Inv V0 w)(Z:∀(j:Value) (dd:Nat→Value) (w:World) (m:Nat),Inv j w→m=μ j w →
  call Q 98 #[W0] (fun u=>ext Q u 0 fun J=>ext Q u 1 fun t13=>un Q .not t13 fun t15 w=>cond t15 (call Q 99 #[W0] (fun M=>K (.tuple #[j,M])) w) (bg Q 102 1 #[(0,J)] (fun O=>blt Q .append #[102,102] 102 #[false,false] #[j,O] fun C w=>(Inv C w)∧((μ C w)<m)) w)) w):zv K (L8 V0 W0 zf) w:=by
 refine aI (cd f56 [1,1,0,0]) (zr [(2,2),(5,2),(9,14)]) kr (vP [2] Inv) (vQ [2] μ) U ?_;intro e' w' hI;have h:=Z _ (zM zf (gd e') (zr [(2,2),(5,2),(9,14)])) w' _ hI rfl;exact mpK h
attribute [irreducible] zv
theorem Ij :∀w,(sizeOf 5).run Q w=.ok 1 w:=fun _=>by kernel_rfl
theorem HR :(Tryz.prog.info? 5).map (fun i=>(i.zero,i.size,i.bytes))=some (some (.int .u8 0),1,1):=by kernel_rfl
theorem WG (l:List UInt8):∀u∈l.map u8v,u.oneCell'=true:=by
 intro u h;obtain⟨_,_,rfl⟩:=List.mem_map.1 h;rfl
def OB (w:World)(B:Nat)(a:Option Addr)(n c:Nat)(l:List UInt8):Prop:=OV w B 5 a n c (l.map u8v)
theorem OB.rb {l:List UInt8}(h:OB w B a n c l):RB w a n c l:=OV.rv h
theorem OB.below {l:List UInt8}(h:OB w B a n c l)(u:Below D w w')(j:w.heap.size≤D):OB w' B a n c l:=OV.below h u j
theorem OB.nil (w:World)(B:Nat):OB w B none 0 0 []:=OV.nil w B _
theorem OB.len {l:List UInt8}(h:OB w B a n c l):l.length=n:=(OB.rb h).len
theorem we {cs:Array Bool}(h:K (ci (n:Int)) w):blt Q .len #[92] E cs #[.slice av n c] K w:=bh underlying92 h
theorem KA {cs:Array Bool}(base:Nat){xs:List UInt8}{ys:List UInt8}(u:OB w base av n c xs)(hy:RB w a2 m c2 ys)(J:n+m≤140737488355328)(j:base≤w.heap.size)(h:∀C I w',OB w' base C (n+m) I (xs++ys)→w.grownBy w' (Value.slice av n c).ownBlock→K (.slice C (n+m) I) w'):blt Q .append #[92,92] E cs #[.slice av n c,.slice a2 m c2] K w:=by
 obtain⟨i,hi,hz,O,M⟩:=info_parts HR;refine Va underlying92 hi hz O M rfl u hy (WG ys) oo oo j ?_;intro C I w' Z U;exact h C I w' (by simpa[OB]using Z) U
theorem zd0 {v:Value}{c:UInt8}(J:v=u8v c)(h:∀w',Below w.heap.size w w'→RB w' (some ⟨w.heap.size,0,none⟩) 1 1 [c]→w'.heap.size=w.heap.size+1→K (.slice (some ⟨w.heap.size,0,none⟩) 1 1) w'):bg Q 92 1 #[(0,v)] K w:=by
 obtain⟨i,hi,M,j,u⟩:=info_parts HR;subst J;exact zaP underlying92 hi M j rfl rfl fun I=>h _ (cM (World.grownBy_alloc _ _ none) oA (fun k C=>by cases C)) I sm
theorem mk8 {C:Int}(base n:Nat)(M:C=(n:Int))(U:n≤140737488355328)(J:base≤w.heap.size)(h:∀I w',OB w' base I 0 n []→Below w.heap.size w w'→K (.slice I 0 n) w'):mkS Q 92 (.int J0 0) (.int K0 C) K w:=by
 obtain⟨i,hi,O,u,j⟩:=info_parts HR;exact zfc underlying92 hi O u j M oo oo J h
theorem ZE {k:IntKind}{l:List UInt8}(j:RB w av n c l)(C:0≤x)(I:x<n)(h:w.cell? (pu av x.toNat)=some (.int .u8 ((l.getD x.toNat 0).toNat:Int))→K (.pointer (some (pu av x.toNat))) w):aL Q 92 (.slice av n c) (.int k x) K w:=by
 refine HQ underlying92 Ij C I j.some_ (h ?_);have u:x.toNat<l.length:=by rw[j.len];omega
 rw[j.cell _ u];simp[List.getD,u]
theorem ld8 {j:Addr}{n:Int}(u:w.cell? j=some (.int .u8 n))(h:K (.int .u8 n) w):ld Q 5 (.pointer (some j)) K w:=by
 exact yR kf u h
theorem Wp {l:Nat}{xs:List UInt8}(O:RB w av n c xs){lo hi:Option Value}(I:(lo=none∧l=0)∨∃k,lo=some (.int k (l:Int)))(u:(hi=none∧m=n)∨∃k,hi=some (.int k (m:Int)))(C:l≤m)(J:m≤n)(h:∀j,RB w j (m-l) (c-l) ((xs.take m).drop l)→K (.slice j (m-l) (c-l)) w):slc Q 92 (.slice av n c) lo hi none K w:=by
 refine ze2 underlying92 Ij O I u C J fun j M=>h j ?_;simpa[RB,List.map_drop,List.map_take]using M
theorem zdb (base:Nat)(j:base≤w.heap.size)(h:∀C w',OB w' base C 0 0 []→Below w.heap.size w w'→K (.slice C 0 0) w'):bg Q 92 0 #[] K w:=by
 obtain⟨i,hi,J,u,I⟩:=info_parts HR;exact zej underlying92 hi u j h
/-! ## Slices of byte slices -/
theorem Eu :∀w,(sizeOf 92).run Q w=.ok 1 w:=fun _=>by kernel_rfl
theorem Vx :(Tryz.prog.info? 92).map (fun i=>(i.zero,i.size,i.bytes))=some (some (.slice none 0 0),1,24):=by kernel_rfl
def slv (v:Option Addr×Nat×Nat):Value:=.slice v.1 v.2.1 v.2.2
theorem WF (l:List (Option Addr×Nat×Nat)):∀u∈l.map slv,u.oneCell'=true:=by
 intro u h;obtain⟨_,_,rfl⟩:=List.mem_map.1 h;rfl
structure RBB (w:World) (a:Option Addr) (n c:Nat) (vs:List (Option Addr×Nat×Nat)) (L:List (List UInt8)):Prop where
 row:RV w a n c (vs.map slv)
 len:vs.length=L.length
 each:∀(i:Nat) (v:Option Addr×Nat×Nat) (l:List UInt8),vs[i]? = some v→L[i]? = some l→RB w v.1 v.2.1 v.2.2 l
theorem RBB.below {vs:List (Option Addr×Nat×Nat)}{L:List (List UInt8)}(h:RBB w a n c vs L)(u:Below B w w')(j:w.heap.size≤B):RBB w' a n c vs L :=
 ⟨h.row.below u j,h.len,fun i v l I C=>(h.each i v l I C).below u j⟩
theorem RBB.lenL {vs:List (Option Addr×Nat×Nat)}{L:List (List UInt8)}(h:RBB w a n c vs L):L.length=n:=by
 have:=h.row.len
 simp only[List.length_map]at this;rw[←h.len];exact this
structure OBB (w:World) (B:Nat) (a:Option Addr) (n c:Nat) (vs:List (Option Addr×Nat×Nat)) (L:List (List UInt8)):Prop where
 row:OV w B 92 a n c (vs.map slv)
 len:vs.length=L.length
 each:∀(i:Nat) (v:Option Addr×Nat×Nat) (l:List UInt8),vs[i]? = some v→L[i]? = some l→OB w B v.1 v.2.1 v.2.2 l
theorem OBB.rbb {vs:List (Option Addr×Nat×Nat)}{L:List (List UInt8)}(h:OBB w B a n c vs L):RBB w a n c vs L :=
 ⟨h.row.rv,h.len,fun i v l u j=>(h.each i v l u j).rb⟩
theorem OBB.below {vs:List (Option Addr×Nat×Nat)}{L:List (List UInt8)}(h:OBB w B a n c vs L)(u:Below D w w')(j:w.heap.size≤D):OBB w' B a n c vs L :=
 ⟨h.row.below u j,h.len,fun i v l I C=>(h.each i v l I C).below u j⟩
theorem OBB.nil (w:World)(B:Nat):OBB w B none 0 0 [] []:=⟨OV.nil w B _,rfl,fun i v l h=>by simp at h⟩
theorem OB.grown_sl {l:List UInt8}{vs:List (Option Addr×Nat×Nat)}(h:OB w B a n c l)(U:OV w B2 92 a2 b c2 (vs.map slv))(hg:w.grownBy w' (Value.slice a2 b c2).ownBlock):OB w' B a n c l:=by
 refine World.ownsRow.kept h hg ?_;rcases h.2 with⟨C,_⟩|⟨g,cap,O,C,_,M,_⟩
 ·left;rw[C];rfl
 ·right;rw[C];rcases U.2 with⟨j,_⟩|⟨g2,I,J,j,_,u,_⟩
  ·rw[j];simp[Value.ownBlock]
  ·rw[j];simp only[Value.ownBlock,ne_eq,Option.some.injEq];intro Z;rw[Z,u]at M;simp at M
theorem zez {cs:Array Bool}(h:K (ci (n:Int)) w):blt Q .len #[102] E cs #[.slice av n c] K w:=bh underlying102 h
theorem Yj {cs:Array Bool}(base:Nat){vs:List (Option Addr×Nat×Nat)}{L:List (List UInt8)}{v:Option Addr×Nat×Nat}{l:List UInt8}(j:OBB w base av n c vs L)(hy:RV w a2 1 c2 [slv v])(hl:OB w base v.1 v.2.1 v.2.2 l)(U:n<4294967296)(I:base≤w.heap.size)(h:∀M O w',OBB w' base M (n+1) O (vs++[v]) (L++[l])→w.grownBy w' (Value.slice av n c).ownBlock→K (.slice M (n+1) O) w'):blt Q .append #[102,102] E cs #[.slice av n c,.slice a2 1 c2] K w:=by
 obtain⟨i,hi,hz,aa,Z⟩:=info_parts Vx;refine Va underlying102 hi hz aa Z rfl j.row hy (WF [v]) oo oo I ?_;intro M O w' ho hg;refine h M O w' ⟨by simpa using ho,by simp[j.len],?_⟩ hg;intro i v' l' u C;by_cases J:i<vs.length
 ·rw[List.getElem?_append_left J]at u;rw[List.getElem?_append_left (by rw[←j.len];exact J)]at C;exact(j.each i v' l' u C).grown_sl j.row hg
 ·rw[List.getElem?_append_right oo]at u;rw[List.getElem?_append_right (by rw[←j.len];omega)]at C;have h0:i-vs.length=0:=by
   have:=(gS u).1
   simpa using this
  rw[h0]at u;rw[←j.len,h0]at C;simp at u C;subst u C;exact hl.grown_sl j.row hg
theorem zaO {v:Option Addr×Nat×Nat}(h:∀w',Below w.heap.size w w'→RV w' (some ⟨w.heap.size,0,none⟩) 1 1 [slv v]→w'.heap.size=w.heap.size+1→K (.slice (some ⟨w.heap.size,0,none⟩) 1 1) w'):bg Q 102 1 #[(0,.slice v.1 v.2.1 v.2.2)] K w:=by
 obtain⟨i,hi,J,j,u⟩:=info_parts Vx;exact zaP underlying102 hi J j rfl rfl fun I=>h _ (cM (World.grownBy_alloc _ _ none) oA (fun k C=>by cases C)) I sm
theorem zaZ {k:IntKind}{vs:List (Option Addr×Nat×Nat)}{L:List (List UInt8)}(u:RBB w av n c vs L)(C:0≤x)(I:x<n)(h:∀v l,vs[x.toNat]? = some v→L[x.toNat]? = some l→w.cell? (pu av x.toNat)=some (.slice v.1 v.2.1 v.2.2)→RB w v.1 v.2.1 v.2.2 l→K (.pointer (some (pu av x.toNat))) w):aL Q 102 (.slice av n c) (.int k x) K w:=by
 refine HQ underlying102 Eu C I u.row.some_ ?_;have J:=u.row.len;simp only[List.length_map]at J;have hi:x.toNat<vs.length:=by omega
 have j:x.toNat<L.length:=by rw[←u.len];exact hi
 refine h vs[x.toNat] L[x.toNat] (gE hi) (gE j) ?_ (u.each _ _ _ (gE hi) (gE j));exact u.row.cell _ _ (by simp[List.getElem?_map,gE hi,slv])
theorem zdv {j:Addr}(u:w.cell? j=some (.slice a n c))(h:K (.slice a n c) w):ld Q 92 (.pointer (some j)) K w :=
 yR kf u h
end
section
attribute [local irreducible] bin un conv call aZ blt slc ai fld aL idx lkp cP eP eSt rng nxt ent ext alc box bld bg ld sto aJ cr mkS ifc pick rdy wts aG sti cond aV Gives ah dy dP cOp
section
open Go.RowKit
def zd5 :BitVec 32:=0xedb88320#32
def cst (s:BitVec 32):BitVec 32:=(s >>> 1) ^^^ (if s.getLsbD 0 then zd5 else 0#32)
def NF :Nat→BitVec 32→BitVec 32
 | 0,s=>s
 | n+1,s=>cst (NF n s)
def Pg (c:UInt8):BitVec 32:=BitVec.ofNat 32 c.toNat
def ID (s:BitVec 32)(l:List UInt8):BitVec 32:=l.foldl (fun s c=>NF 8 (s ^^^ Pg c)) s
def CI (sum:BitVec 32)(l:List UInt8):BitVec 32 := ~~~ (ID (~~~ sum) l)
theorem T5 (s:BitVec 32)(x y:List UInt8):ID s (x++y)=ID (ID s x) y:=by simp[ID,List.foldl_append]
theorem T6 (s:BitVec 32)(x y:List UInt8):CI (CI s x) y=CI s (x++y):=by simp[CI,T5]
theorem Xq (s:BitVec 32)(x:List UInt8)(c:UInt8):ID s (x++[c])=NF 8 (ID s x ^^^ Pg c):=by rw[T5];rfl
/-! ## It goes back: no two numbers are stepped to the same. -/
/-! ## The walks -/
def qm (s:BitVec 32):Value:=.int .u32 (s.toNat:Int)
theorem yX (s:BitVec 32):BitVec.ofInt 32 (s.toNat:Int)=s:=by rw[BitVec.ofInt_natCast];simp
theorem RK (s:BitVec 32):IntKind.u32.wrap (s.toNat:Int)=(s.toNat:Int):=by
 rw[JL];have:=s.isLt;omega
theorem zbj {x y:BitVec 32}(h:K (qm (x ^^^ y)) w):bin P .xor t cx cy (qm x) (qm y) K w:=by
 refine Mg ?_;have e:oM .xor .u32 (x.toNat:Int) (y.toNat:Int)=((x ^^^ y).toNat:Int):=by
  show IntKind.u32.wrap ((BitVec.ofInt 32 (x.toNat:Int) ^^^ BitVec.ofInt 32 (y.toNat:Int)).toNat:Int)=_;rw[yX,yX];exact RK _
 rw[e];exact h
theorem zeh {x y:BitVec 32}(h:K (qm (x &&& y)) w):bin P .and t cx cy (qm x) (qm y) K w:=by
 refine Qw ?_;have e:oM .and .u32 (x.toNat:Int) (y.toNat:Int)=((x &&& y).toNat:Int):=by
  show IntKind.u32.wrap ((BitVec.ofInt 32 (x.toNat:Int) &&& BitVec.ofInt 32 (y.toNat:Int)).toNat:Int)=_;rw[yX,yX];exact RK _
 rw[e];exact h
theorem zaQ {x:BitVec 32}(h:K (qm (~~~ x)) w):un P .xor (qm x) K w:=by
 refine zea ?_;have e:oM .xor .u32 (if IntKind.u32.signed=true then -1 else IntKind.u32.max) (x.toNat:Int)=((~~~ x).toNat:Int):=by
  rw[show (if IntKind.u32.signed=true then -1 else IntKind.u32.max)=(((BitVec.allOnes 32).toNat:Nat):Int)from rfl];show IntKind.u32.wrap ((BitVec.ofInt 32 ((BitVec.allOnes 32).toNat:Int) ^^^ BitVec.ofInt 32 (x.toNat:Int)).toNat:Int)=_;rw[yX,yX,BitVec.allOnes_xor];exact RK _
 rw[e];exact h
theorem zeS {x:BitVec 32}{k:IntKind}(h:K (qm (x >>> 1)) w):bin P .shr t cx cy (qm x) (.int k 1) K w:=by
 refine Ek oo ?_;have e:((x.toNat:Int)).fdiv (2 ^ min (1:Int).toNat IntKind.u32.bits)=((x >>> 1).toNat:Int):=by
  rw[show (2:Int) ^ min (1:Int).toNat IntKind.u32.bits=2 from rfl,BitVec.toNat_ushiftRight,Nat.shiftRight_eq_div_pow,Int.fdiv_eq_ediv_of_nonneg _ oo];omega
 rw[e];exact h
theorem zeE {x y:BitVec 32}(h:K (qm (x*y)) w):bin P .mul t cx cy (qm x) (qm y) K w:=by
 refine Vb ?_;have e:IntKind.u32.wrap ((x.toNat:Int)*(y.toNat:Int))=((x*y).toNat:Int):=by
  rw[JL,BitVec.toNat_mul];omega
 rw[e];exact h
theorem zbm (s:BitVec 32):s &&& 1#32=if s.getLsbD 0 then 1#32 else 0#32:=by
 apply BitVec.eq_of_toNat_eq;rw[BitVec.toNat_and];have j:(1#32).toNat=1:=rfl;rw[j,Nat.and_one_is_mod];have u:s.getLsbD 0=decide (s.toNat%2=1):=by simp[BitVec.getLsbD,Nat.testBit_zero]
 rw[u];by_cases h:s.toNat%2=1
 ·simp[h]
 ·simp[h];omega
section
theorem YE {s:BitVec 32}(h:K (qm (NF 8 s)) w):call Q 226 #[qm s] K w:=by
 refine ak (goK func226) (QB ?_);refine NC (Inv:=fun x i wr=>∃j:Nat,j≤8∧i=ci (j:Nat)∧x=qm (NF j s)∧wr=w) (μ:=fun _ i _=>8-(intOf i).toNat) ⟨0,by omega,rfl,rfl,rfl⟩ ?_;rintro _ _ _ w2 m ⟨j,I,rfl,rfl,rfl⟩ C;by_cases u:j<8
 ·(repeat (first|refine aK ?_|refine ax oo ?_))
  refine zeS <|zeh (y:=1#32) <|zeE (x:=zd5) <|zbj ?_
  (repeat (first|refine aM oo oo ?_))
  refine⟨⟨j+1,by omega,by simp,?_,rfl⟩,by rw[C];simp only[intOf];omega⟩;show qm _=qm (cst (NF j s));rw[zbm];unfold cst;cases (NF j s).getLsbD 0<;>simp
 ·have:j=8:=by omega
  subst this
  (repeat (first|refine NE ?_|refine aK ?_|refine aF ?_))
  exact h
theorem zd2 {c:UInt8}(h:K (qm (Pg c)) w):conv Q 5 302 (.int .u8 (c.toNat:Int)) K w:=by
 refine bX underlying5 underlying302 ?_;have e:IntKind.u32.wrap (c.toNat:Int)=((Pg c).toNat:Int):=by
  have:=c.toNat_lt
  rw[JL];simp only[Pg,BitVec.toNat_ofNat];omega
 rw[e];exact h
theorem Xc (l:List UInt8)(j:Nat)(h:j<l.length):l.take (j+1)=l.take j++[l.getD j 0]:=by
 rw[List.take_succ_eq_append_getElem h];simp[List.getD,h]
theorem TU {s:BitVec 32}{l:List UInt8}(u:RB w a n c l)(U:n≤9223372036854775807)(h:K (qm (CI s l)) w):call Q 193 #[qm s,.slice a n c] K w:=by
 have O:=u.len;refine ak (goK func193) (UJ ?_);refine zaQ ?_
 (repeat (first|refine we ?_))
 refine Sm (Inv:=fun x i wr=>∃j:Nat,j≤n∧i=ci (j:Nat)∧x=qm (ID (~~~ s) (l.take j))∧wr=w) (μ:=fun _ i _=>n-(intOf i).toNat) ⟨0,by omega,rfl,by simp[ID],rfl⟩ ?_;rintro _ _ _ w2 m ⟨j,M,rfl,rfl,rfl⟩ J;by_cases I:j<n
 ·(repeat (first|refine aK ?_|refine ax oo ?_))
  refine ZE u oo oo ?_;intro C;refine ld8 C <|zd2 <|zbj <|YE ?_
  (repeat (first|refine aM oo oo ?_))
  refine⟨⟨j+1,by omega,by simp,?_,rfl⟩,by rw[J];simp only[intOf];omega⟩;rw[Xc _ _ oo,Xq];simp
 ·have:j=n:=by omega
  subst this
  (repeat (first|refine Sn ?_|refine aK ?_|refine ao oo ?_))
  refine zaQ ?_;rw[tL oo];exact h
theorem zbh {l:List UInt8}(j:RB w a n c l)(u:n≤9223372036854775807)(h:K (qm (CI 0 l)) w):call Q 194 #[.slice a n c] K w:=by
 refine ak (goK func194) (Wo ?_);exact TU (s:=0) j u h
end
end
end
section
open Go.RowKit
def jM (bits3 t4:Value)(zf:Nat→Value):List Value:=zT zf 0 3 (bits3::t4::zT zf 5 17 ([]))
def fS (bits3:Value)(zf:Nat→Value):List Value:=zT zf 0 3 (bits3::zT zf 4 18 ([]))
def cA (K:KV):KE:=kZ f154 [1,1,1] K
def tj (K:KV):KE:=ah Q (cd f154 [1,1,0,1]) (cA K) xf (rk f154 K)
def dA (K:KV):KE:=kY f154 (b1 117) (cA K) (xx xf (cA K) 0) K
def tl (K:KV):KE:=ah Q (cd f154 (b1 116)) (dA K) (xx xf (cA K) 0) (rk f154 K)
def eO (K:KV):KE:=kY f154 (b1 465) (dA K) (xx (xx xf (cA K) 0) (dA K) 4) K
def tq (K:KV):KE:=ah Q (cd f154 (b1 464)) (eO K) (xx (xx xf (cA K) 0) (dA K) 4) (rk f154 K)
def my (K:KV):KE:=kY f154 (b1 1857) (eO K) (xx (xx (xx xf (cA K) 0) (dA K) 4) (eO K) 3) K
def tt (K:KV):KE:=ah Q (cd f154 (b1 1856)) (my K) (xx (xx (xx xf (cA K) 0) (dA K) 4) (eO K) 3) (rk f154 K)
theorem Ra {K:KV}{size0:Value}{w:World}(h:tj K (jM (ci 0) size0 (zV (zV zu 0 [size0]) 2 [ci 0])) w):Gives Q 154 #[size0] w K:=by
 refine aq func154 (by kernel_rfl) ?_
 refine Eq.mp (congrArg (fun c=>ah Q c _ _ _ _ w) (by kernel_rfl:(rep [1,1,0,1] (cd f154 [1,1,0,1]) (cd f154 []))=(cd f154 []))) ?_
 revert h
 delta tj cA
 generalize (cd f154 [1,1,0,1])=xc0
 exact mpF
theorem qD (h:tl K (jM V0 W0 zf) w):tj K (jM V0 W0 zf) w:=by
 delta tj
 refine Eq.mp (congrArg (fun c=>ah Q c _ _ _ _ w) (by kernel_rfl:(rep [0,0] (cd f154 (b1 116)) (cd f154 [1,1,0,1]))=(cd f154 [1,1,0,1]))) ?_
 revert h
 delta tl dA
 generalize (cd f154 (b1 116))=xc0
 generalize (cA K)=qc0
 exact mpF
theorem qE (h:tq K (jM V0 W0 zf) w):tl K (jM V0 W0 zf) w:=by
 delta tl
 refine Eq.mp (congrArg (fun c=>ah Q c _ _ _ _ w) (by kernel_rfl:(rep [0,0] (cd f154 (b1 464)) (cd f154 (b1 116)))=(cd f154 (b1 116)))) ?_
 revert h
 delta tq eO
 generalize (cd f154 (b1 464))=xc0
 generalize (dA K)=qc0
 generalize (cA K)=qc1
 exact mpF
theorem qF (h:tt K (jM V0 W0 zf) w):tq K (jM V0 W0 zf) w:=by
 delta tq
 refine Eq.mp (congrArg (fun c=>ah Q c _ _ _ _ w) (by kernel_rfl:(rep [0,0] (cd f154 (b1 1856)) (cd f154 (b1 464)))=(cd f154 (b1 464)))) ?_
 revert h
 delta tt my
 generalize (cd f154 (b1 1856))=xc0
 generalize (eO K)=qc0
 generalize (cA K)=qc1
 generalize (dA K)=qc2
 exact mpF
abbrev FL (K:KV)(hA0 hA1 hA2 hA3:KE)(V0 W0:Value)(zf:Nat→Value)(w:World):Prop :=
  bT .eql 3 W0 (ci 8) (fun t6 w=>cond t6 (bT .add 3 V0 (ci 32) (fun t14=>hA0 (fS t14 (zV (zV zf 4 [W0,t6,t6]) 13 [V0,t14]))) w) (bT .eql 3 W0 (ci 4) (fun t8 w=>cond t8 (hA0 (fS V0 (zV zf 4 [W0,t6,t6,t8,t8])) w) (bT .eql 3 W0 (ci 2) (fun t10 w=>cond t10 (hA1 (fS V0 (zV zf 4 [W0,t6,t6,t8,t8,t10,t10])) w) (bT .eql 3 W0 (ci 1) (fun t12 w=>cond t12 (hA2 (fS V0 (zV zf 4 [W0,t6,t6,t8,t8,t10,t10,t12,t12])) w) (hA3 (fS V0 (zV zf 4 [W0,t6,t6,t8,t8,t10,t10,t12,t12])) w)) w)) w)) w)) w
theorem Ou (j:KE)(u:KE)(C:KE)(I:KE)(h:FL K j I C u V0 W0 zf w):ah Q (cd f154 (b1 1856)) j (xx (xx (xx xf u 0) C 4) I 3) (rk f154 K) (jM V0 W0 zf) w:=Eq.mp kr h
theorem qG (h:FL K (my K) (eO K) (dA K) (cA K) V0 W0 zf w):tt K (jM V0 W0 zf) w:=by
 delta tt
 exact Eq.mp (congrArg (fun c=>ah Q c (my K) (xx (xx (xx xf (cA K) 0) (dA K) 4) (eO K) 3) (rk f154 K) (jM V0 W0 zf) w) (by kernel_rfl:(cd f154 (b1 1856))=(cd f154 (b1 1856)))) (Ou (my K) (cA K) (dA K) (eO K) h)
abbrev FM (K:KV)(hA0:KE)(V0:Value)(zf:Nat→Value)(w:World):Prop :=
  bT .add 3 V0 (ci 16) (fun t16=>hA0 (fS t16 (zV zf 15 [V0,t16]))) w
theorem Ov (j:KE)(u:KE)(C:KE)(h:FM K j V0 zf w):ah Q (cd f154 (b1 1857)) j (xx (xx (xx xf u 0) C 4) j 3) (rk f154 K) (fS V0 zf) w:=Eq.mp kr h
theorem FN (h:FM K (eO K) V0 zf w):my K (fS V0 zf) w:=by
 delta my
 exact Eq.mp (congrArg (fun c=>ah Q c (eO K) (xx (xx (xx xf (cA K) 0) (dA K) 4) (eO K) 3) (rk f154 K) (fS V0 zf) w) (by kernel_rfl:(cd f154 (b1 1857))=(cd f154 (b1 1857)))) (Ov (eO K) (cA K) (dA K) h)
theorem yF (h:bT .add 3 V0 (ci 8) (fun j=>dA K (fS j (zV zf 17 [V0,j]))) w):eO K (fS V0 zf) w:=by
 delta eO;revert h;generalize (dA K)=qc0;generalize (cA K)=qc1;exact mpF
theorem uc (h:bT .add 3 V0 (ci 8) (fun j=>cA K (fS j (zV zf 19 [V0,j]))) w):dA K (fS V0 zf) w:=by
 delta dA;revert h;generalize (cA K)=qc0;exact mpF
theorem qH (h:K V0 w):cA K (fS V0 zf) w:=by
 delta cA;exact mpK h
attribute [irreducible] cA tj dA tl eO tq my tt
def zS (n1 bits8 out9:Value)(zf:Nat→Value):List Value:=zf 0::n1::zT zf 2 6 (bits8::out9::zT zf 10 31 ([]))
def LI (out9:Value)(zf:Nat→Value):List Value:=zT zf 0 9 (out9::zT zf 10 31 ([]))
def wi (K:KV):KE:=ah Q (cd f120 [1,1,1,1]) (rk f120 K) xf (rk f120 K)
def oS (K:KV):KE:=kZ f120 (b1 63) K
def zU (K:KV):KE:=ah Q (cd f120 (b1 250)) (oS K) (xx xf (oS K) 1) (rk f120 K)
theorem U5 {K:KV}{b0 V0 size2:Value}{w:World}(h:call Q 154 #[size2] (fun t11=>bT .eql 3 t11 (ci 0) fun t14 w=>cond t14 (K (.tuple #[cN,ci 1]) w) (bF .shr 31 V0 t11 (fun t18=>bT .gtr 31 t18 (cu 0) fun t19 w=>cond t19 (K (.tuple #[cN,ci 6]) w) (lN 92 b0 (fun t21=>bF .add 3 t21 size2 fun t23=>mkS Q 92 (ci 0) t23 fun t24=>blt Q .append #[92,92] 92 #[false,false] #[t24,b0] fun t26=>wi K (zS V0 t11 t26 (zV (zV (zV (zV zu 0 [b0]) 2 [size2]) 6 [cN,ci 0]) 10 [size2,t11,t14,t11,t14,t19,V0,t11,t18,t19,b0,t21,size2,t23,t24,b0,t26]))) w)) w)) w):Gives Q 120 #[b0,V0,size2] w K:=by
 refine aq func120 (by kernel_rfl) ?_
 refine Eq.mp (congrArg (fun c=>ah Q c _ _ _ _ w) (by kernel_rfl:(rep [1,1,1,1] (cd f120 [1,1,1,1]) (cd f120 []))=(cd f120 []))) ?_
 revert h
 delta wi
 generalize (cd f120 [1,1,1,1])=xc0
 exact mpF
theorem R6 (h:bT .sub 3 W0 (ci 8) (fun j=>zU K (zS V0 j X0 (zV zf 27 [W0,j]))) w):wi K (zS V0 W0 X0 zf) w:=by
 delta wi;revert h;delta zU oS;exact mpF
theorem R8 (Inv:Value→Value→World→Prop)(μ:Value→Value→World→Nat)(h0:Inv W0 X0 w)(hs:∀(j u:Value) (dd:Nat→Value) (w:World) (m:Nat),Inv j u w→m=μ j u w →
  bT .geq 3 j (ci 0) (fun I w=>cond I (bF .shr 31 V0 j (fun O=>conv Q 31 5 O fun U=>bg Q 92 1 #[(0,U)] fun Z=>blt Q .append #[92,92] 92 #[false,false] #[u,Z] fun M=>bT .sub 3 j (ci 8) fun J w=>(Inv J M w)∧((μ J M w)<m)) w) (oS K (LI u (zV (zV (zV dd 1 [V0]) 8 [j]) 29 [j,I])) w)) w):zU K (zS V0 W0 X0 zf) w:=by
 refine aI (cd f120 (b1 500)) (zr [(8,2),(29,11)]) kr (vP [8,9] Inv) (vQ [8,9] μ) h0 ?_;intro e' w' hI;have h:=hs _ _ (zM zf (gd e') (zr [(8,2),(29,11)])) w' _ hI rfl;revert h;generalize (oS K)=qc0;exact mpF
theorem R9 (h:K (.tuple #[X0,ci 0]) w):oS K (LI X0 zf) w:=by
 delta oS;exact mpK h
attribute [irreducible] wi oS zU
def rB (b0 at1 size2 n6 t11:Value)(zf:Nat→Value):List Value:=b0::at1::size2::zT zf 3 3 (n6::zT zf 7 4 (t11::zT zf 12 36 ([])))
def JU (b0 at1 size2 n6:Value)(zf:Nat→Value):List Value:=b0::at1::size2::zT zf 3 3 (n6::zT zf 7 41 ([]))
def JV (n6 next7 t34 t35 t36:Value)(zf:Nat→Value):List Value:=zT zf 0 6 (n6::next7::zT zf 8 26 (t34::t35::t36::zT zf 37 11 ([])))
def JW (n6 next7:Value)(zf:Nat→Value):List Value:=zT zf 0 6 (n6::next7::zT zf 8 40 ([]))
def kS (K:KV):KE:=kZ f104 [1,1] K
def me (K:KV):KE:=kY f104 [1,0,0,1] (kS K) (xx xf (kS K) 0) K
def ur (K:KV):KE:=ah Q (cd f104 (b1 49)) (me K) (xx xf (kS K) 0) (rk f104 K)
def nM (K:KV):KE:=kZ f104 [1,1,1,1] K
def yo (K:KV):KE:=ah Q (cd f104 (b1 122)) (nM K) (xx xf (nM K) 1) (rk f104 K)
theorem Sw {K:KV}{V0 W0 X0:Value}{w:World}(h:call Q 154 #[X0] (fun t13=>bT .eql 3 t13 (ci 0) fun t14=>ur K (rB V0 W0 X0 (cu 0) t14 (zV (zV zu 7 [ci 0,ci 0]) 12 [X0,t13,t14]))) w):Gives Q 104 #[V0,W0,X0] w K:=by
 refine aq func104 (by kernel_rfl) ?_
 refine Eq.mp (congrArg (fun c=>ah Q c _ _ _ _ w) (by kernel_rfl:(rep (b1 49) (cd f104 (b1 49)) (cd f104 []))=(cd f104 []))) ?_
 revert h
 delta ur kS me
 generalize (cd f104 (b1 49))=xc0
 exact mpF
theorem GS (h:cond H1 (me K (rB V0 W0 X0 Y0 H1 zf) w) (bT .lss 3 W0 (ci 0) (fun j w=>cond j (me K (rB V0 W0 X0 Y0 j (zV zf 15 [W0,j])) w) (lN 92 V0 (fun u=>bF .gtr 3 W0 u fun C=>me K (rB V0 W0 X0 Y0 C (zV zf 15 [W0,j,W0,V0,u,C]))) w)) w)):ur K (rB V0 W0 X0 Y0 H1 zf) w:=by
 delta ur;revert h;generalize (me K)=qc0;generalize (kS K)=qc1;exact mpF
theorem zW (h:cond H1 (K (.tuple #[cu 0,ci 0,ci 1]) w) (lN 92 V0 (fun u=>bF .sub 3 u W0 fun C=>lS C X0 fun j w=>cond j (K (.tuple #[cu 0,ci 0,ci 5]) w) (kS K (JU V0 W0 X0 Y0 (zV (zV zf 11 [H1]) 21 [j,V0,u,W0,C,X0,j])) w)) w)):me K (rB V0 W0 X0 Y0 H1 zf) w:=by
 delta me;revert h;generalize (kS K)=qc0;exact mpF
theorem Q7 (h:bF .add 3 W0 X0 (fun j=>slc Q 92 V0 (some W0) (some j) none fun I1=>lN 92 I1 fun J1=>yo K (JV Y0 j I1 J1 (ci 0) (zV (zV zf 0 [V0,W0,X0]) 28 [W0,X0,j,V0,W0,j]))) w):kS K (JU V0 W0 X0 Y0 zf) w:=by
 delta kS;revert h;delta yo nM;exact mpF
theorem Q6 (Inv:Value→Value→World→Prop)(μ:Value→Value→World→Nat)(h0:Inv Y0 M1 w)(hs:∀(u j:Value) (dd:Nat→Value) (w:World) (m:Nat),Inv u j w→m=μ u j w →
  lS j J1 (fun I w=>cond I (aL Q 92 I1 j (fun O=>ld Q 5 O fun U=>bT .shl 31 u (cu 8) fun Z=>conv Q 5 31 U fun aa=>bF .or 31 Z aa fun J=>nC j fun M w=>(Inv J M w)∧((μ J M w)<m)) w) (nM K (JW u Z0 (zV dd 34 [I1,J1,j,I])) w)) w):yo K (JV Y0 Z0 I1 J1 M1 zf) w:=by
 refine aI (cd f104 (b1 244)) (zr [(6,1),(10,1),(36,10)]) kr (vP [6,36] Inv) (vQ [6,36] μ) h0 ?_;intro e' w' hI;have h:=hs _ _ (zM zf (gd e') (zr [(6,1),(10,1),(36,10)])) w' _ hI rfl;revert h;generalize (nM K)=qc0;exact mpF
theorem Q8 (h:K (.tuple #[Y0,Z0,ci 0]) w):nM K (JW Y0 Z0 zf) w:=by
 delta nM;exact mpK h
attribute [irreducible] kS me ur nM yo
theorem Qx (h:bT .eql 92 V0 cN (fun t4 w=>cond t4 (K cN w) (bg Q 92 0 #[] (fun j=>blt Q .append #[92,92] 92 #[false,false] #[j,V0] K) w)) w):Gives Q 96 #[V0] w K:=by
 refine aq func96 kr ?_;exact mpK h
end
section
attribute [local irreducible] bin un conv call aZ blt slc ai fld aL idx lkp cP eP eSt rng nxt ent ext alc box bld bg ld sto aJ cr mkS ifc pick rdy wts aG sti cond aV Gives ah dy dP cOp
section
open Go.RowKit
theorem El {l:List UInt8}(C:RB w a n c l)(hn:n≤140737488351232)(h:∀M O w',OB w' w.heap.size M n O l→Below w.heap.size w w'→K (.slice M n O) w'):call Q 96 #[.slice a n c] K w:=by
 refine ak (goK func96) (Qx ?_);refine Z9 underlying92 ?_;cases a with
 | none =>
  obtain⟨rfl,rfl⟩:=RV.nil_ C rfl
  have:l=[]:=List.eq_nil_of_length_eq_zero C.len
  subst this;refine aT ?_;exact h _ _ _ (OB.nil _ _) (Below.refl _ _)
 | some ad =>
  refine aF <|zdb w.heap.size oA ?_;intro Z w1 u j;refine KA w.heap.size u (C.below j oA) oo j.size ?_;intro a2 c2 w2 J I;rw[Nat.zero_add,List.nil_append]at *;exact h _ _ _ J (j.grown I j.size (fun k U=>(OV.block u k U).1))
def rC (k:Int):Int:=if k=8 then 64 else if k=4 then 32 else if k=2 then 16 else if k=1 then 8 else 0
theorem Wd {k:Int}(h:K (ci (rC k)) w):call Q 154 #[ci k] K w:=by
 refine ak (goK func154) (Ra ?_);by_cases I:k=8
 ·subst I;(repeat (first|refine qH ?_|refine qD ?_|refine uc ?_|refine qE ?_|refine yF ?_|refine qF ?_|refine FN ?_|refine qG ?_|refine aO ?_|refine aM oo oo ?_|refine aT ?_));exact h
 by_cases C:k=4
 ·subst C;(repeat (first|refine qH ?_|refine qD ?_|refine uc ?_|refine qE ?_|refine yF ?_|refine qF ?_|refine FN ?_|refine qG ?_|refine aO ?_|refine aM oo oo ?_|refine aT ?_|refine aF ?_));exact h
 by_cases u:k=2
 ·subst u;(repeat (first|refine qH ?_|refine qD ?_|refine uc ?_|refine qE ?_|refine yF ?_|refine qF ?_|refine qG ?_|refine aO ?_|refine aM oo oo ?_|refine aT ?_|refine aF ?_));exact h
 by_cases j:k=1
 ·subst j;(repeat (first|refine qH ?_|refine qD ?_|refine uc ?_|refine qE ?_|refine qF ?_|refine qG ?_|refine aO ?_|refine aM oo oo ?_|refine aT ?_|refine aF ?_));exact h
 have J:rC k=0:=by simp[rC, *]
 rw[J]at h
 (repeat (first|refine qH ?_|refine qD ?_|refine qE ?_|refine qF ?_|refine qG ?_|refine aO ?_|refine ao oo ?_))
 exact h
theorem zcL (K:Nat)(h:K=1∨K=2∨K=4∨K=8):rC K=8*K:=by
 rcases h with rfl|rfl|rfl|rfl<;>rfl
theorem UC {k:Int}(h:rC k≠0):∃K:Nat,(K=1∨K=2∨K=4∨K=8)∧k=K:=by
 unfold rC at h;by_cases I:k=8
 ·exact⟨8,by simp,I⟩
 by_cases C:k=4
 ·exact⟨4,by simp,C⟩
 by_cases u:k=2
 ·exact⟨2,by simp,u⟩
 by_cases j:k=1
 ·exact⟨1,by simp,j⟩
 simp[*]at h
def bl (n:Nat):Nat→List UInt8
 | 0=>[]
 | k+1=>UInt8.ofNat (n / 256 ^ k)::bl n k
theorem bm (x K:Nat):(bl x K).length=K:=by
 induction K with
 | zero=>rfl
 | succ k ih=>simp[bl,ih]
theorem UI (x:Nat):∀(K j:Nat) (h:j<(bl x K).length),(bl x K)[j]=UInt8.ofNat (x / 256 ^ (K-1-j)):=by
 intro K
 induction K with
 | zero=>intro j h;simp[bl]at h
 | succ k ih =>
  intro j h;cases j with
  | zero=>simp[bl]
  | succ j =>
   simp only[bl,List.getElem_cons_succ];rw[ih]
   congr 2
   congr 1
   omega
theorem KB (x K j:Nat)(h:j<K):(bl x K).take (j+1)=(bl x K).take j++[UInt8.ofNat (x / 256 ^ (K-1-j))]:=by
 have u:j<(bl x K).length:=by rw[bm];exact h
 rw[List.take_succ_eq_append_getElem u,UI]
theorem LZ (x e:Nat)(u:8*e≤64):((x:Int).fdiv (2 ^ min ((8*(e:Int))).toNat IntKind.u64.bits))=((x / 256 ^ e:Nat):Int):=by
 have h:(2:Int) ^ (8*e)=((256 ^ e:Nat):Int):=by rw[Int.pow_mul];simp
 have j:min ((8*(e:Int))).toNat IntKind.u64.bits=8*e:=by
  have:IntKind.u64.bits=64:=rfl
  omega
 rw[j,h,Int.fdiv_eq_ediv_of_nonneg _ (Int.natCast_nonneg _)];rfl
theorem SW (y:Nat):Value.int .u8 (IntKind.u8.wrap (y:Int))=u8v (UInt8.ofNat y):=by
 rw[Iu];simp only[u8v,UInt8.toNat_ofNat']
 congr 1
def Dh (l:List UInt8)(n:Nat)(k:Int):List UInt8×Int :=
 if rC k=0 then ([],1)else if 256 ^ k.toNat≤n then ([],6)else (l++bl n k.toNat,0)
theorem put_c {l:List UInt8}{x:Nat}{k:Int}(hb:RB w a n c l)(hn:n≤140737488351232)(hx:x<18446744073709551616)(h:∀Z n' c' w',OB w' w.heap.size Z n' c' (Dh l x k).1→Below w.heap.size w w'→K (.tuple #[.slice Z n' c',ci (Dh l x k).2]) w'):call Q 120 #[.slice a n c,.int .u64 x,ci k] K w:=by
 refine ak (goK func120) (U5 ?_);refine Wd ?_;by_cases O:rC k=0
 ·have hp:Dh l x k=([],1):=by simp[Dh,O]
  rw[hp]at h
  (repeat (first|refine aO ?_|refine ax oo ?_))
  exact h _ _ _ _ (OB.nil _ _) (Below.refl _ _)
 obtain⟨N,hN,rfl⟩:=UC O;have aS:=zcL N hN;rw[aS];have a4:1≤N∧N≤8:=by omega
 (repeat (first|refine aO ?_|refine ao oo ?_))
 refine Ek oo ?_
 (repeat (first|refine bO ?_))
 rw[LZ x N oo];by_cases C:256 ^ N≤x
 ·have hp:Dh l x N=([],6):=by simp[Dh,O,C]
  rw[hp]at h;have hq:(0:Int)<((x / 256 ^ N:Nat):Int):=by
   have:0<x / 256 ^ N:=Nat.div_pos C (Nat.pow_pos oo)
   omega
  (repeat (first|refine ax oo ?_))
  exact h _ _ _ _ (OB.nil _ _) (Below.refl _ _)
 have hp:Dh l x N=(l++bl x N,0):=by simp[Dh,O,C]
 rw[hp]at h;have hq:((x / 256 ^ N:Nat):Int)=0:=by
  have:x / 256 ^ N=0:=Nat.div_eq_of_lt oo
  omega
 rw[hq]
 (repeat (first|refine aM oo oo ?_|refine we ?_|refine aF ?_))
 refine mk8 w.heap.size (n+N) oo oo oo ?_;intro a1 w1 ad J;refine KA w.heap.size ad (hb.below J oo) oo J.size ?_;intro a2 c2 w2 af al;have ag:Below w.heap.size w w2:=J.grown al J.size (fun k hk=>(OV.block ad k hk).1);rw[List.nil_append,Nat.zero_add]at af
 (repeat (first|refine R6 ?_|refine ba oo oo ?_))
 refine R8 (Inv:=fun u a0 wr=>∃j Z n' c',j≤N∧u=ci (8*(N:Int)-8-8*(j:Int))∧a0=.slice Z n' c'∧OB wr w.heap.size Z n' c' (l++(bl x N).take j)∧Below w.heap.size w wr)
  (μ:=fun u _ _=>(intOf u+8).toNat) ⟨0,_,_,_,by omega,by simp,rfl,by simpa using af,ag⟩ ?_
 rintro _ _ _ w3 m ⟨j,a3,n3,c3,hj,rfl,rfl,I,M⟩ hm;have ap:=I.len;have a6:=hb.len;simp only[List.length_append,List.length_take,bm]at ap;by_cases an:j<N
 ·(repeat (first|refine bI ?_|refine ax oo ?_))
  refine Ek oo ?_;rw[show (8*(N:Int)-8-8*(j:Int))=8*((N-1-j:Nat):Int)by omega,LZ x (N-1-j) oo];refine bX underlying31 underlying5 ?_;rw[SW];refine zd0 rfl ?_;intro w4 U av a7;refine KA w.heap.size (I.below U oo) av oo (by have:=M.size;omega) ?_;intro a5 c5 w5 ar am
  (repeat (first|refine ba oo oo ?_))
  have az:=M.size;refine⟨⟨j+1,_,_,_,by omega,by congr 1;omega,rfl,?_,?_⟩,?_⟩
  ·rw[KB x N j an, ←List.append_assoc];exact ar
  ·exact(M.trans (U.mono az)).grown am oo (fun k hk=>(OV.block (I.below U oo) k hk).1)
  ·rw[hm];simp only[intOf];omega
 ·have aa:j=N:=by omega
  subst aa
  (repeat (first|refine R9 ?_|refine bI ?_|refine ao oo ?_))
  have:(bl x j).take j=bl x j:=tL (by rw[bm];omega)
  rw[this]at I;exact h _ _ _ _ I M
def nU (l:List UInt8):Nat:=l.foldl (fun n c=>n*256+c.toNat) 0
theorem Pd (l:List UInt8)(c:UInt8):nU (l++[c])=nU l*256+c.toNat:=by simp[nU,List.foldl_append]
theorem Nz (l:List UInt8):nU l<256 ^ l.length:=by
 have j:∀l:List UInt8,∀n k,n<256 ^ k→l.foldl (fun n c=>n*256+c.toNat) n<256 ^ (k+l.length):=by
  intro l
  induction l with
  | nil=>intro n k h;simpa using h
  | cons c l ih =>
   intro n k h;simp only[List.foldl_cons,List.length_cons];have u:=c.toNat_lt
   have:=ih (n*256+c.toNat) (k+1) (by rw[Nat.pow_succ];omega)
   rw[show k+(l.length+1)=k+1+l.length by omega];exact this
 have:=j l 0 0 sm
 simpa[nU]using this
theorem Sg (l:List UInt8)(j:Nat)(h:j<l.length):l.take (j+1)=l.take j++[l.getD j 0]:=by
 rw[List.take_succ_eq_append_getElem h];simp[List.getD,h]
def pw (l:List UInt8)(p k:Int):Nat×Int×Int :=
 if rC k=0∨p<0∨(l.length:Int)<p then (0,0,1)else if (l.length:Int)-p<k then (0,0,5)else (nU ((l.drop p.toNat).take k.toNat),p+k,0)
theorem YI {l:List UInt8}{p k:Int}(hb:RB w a n c l)(hn:n≤9223372036854775807)(h:K (.tuple #[.int .u64 (pw l p k).1,ci (pw l p k).2.1,ci (pw l p k).2.2]) w):call Q 104 #[.slice a n c,ci p,ci k] K w:=by
 have I:=hb.len;refine ak (goK func104) (Sw ?_);refine Wd <|aO ?_;by_cases M:rC k=0
 ·rw[show pw l p k=(0,0,1)by simp[pw,M]]at h
  (repeat (first|refine zW ?_|refine GS ?_|refine ax oo ?_))
  exact h
 (repeat (first|refine GS ?_|refine aK ?_|refine ao oo ?_))
 by_cases h1:p<0
 ·rw[show pw l p k=(0,0,1)by simp[pw,h1]]at h
  (repeat (first|refine zW ?_|refine ax oo ?_))
  exact h
 (repeat (first|refine zW ?_|refine bO ?_|refine we ?_|refine ao oo ?_))
 by_cases h2:(n:Int)<p
 ·rw[show pw l p k=(0,0,1)by simp[pw,I,h2]]at h
  (repeat (first|refine ax oo ?_))
  exact h
 obtain⟨N,hN,rfl⟩:=UC M;obtain⟨q,rfl⟩:=Int.eq_ofNat_of_zero_le (show 0≤p by omega);have af:1≤N∧N≤8:=by omega
 (repeat (first|refine aK ?_|refine ba oo oo ?_|refine we ?_|refine ao oo ?_))
 by_cases h3:(n:Int)-q<N
 ·rw[show pw l q N=(0,0,5)by unfold pw;rw[if_neg (by simp[I,M];omega),if_pos (by rw[I];exact h3)]]at h
  (repeat (first|refine ax oo ?_))
  exact h
 have hs:pw l q N=(nU ((l.drop q).take N),(q:Int)+N,0):=by
  unfold pw;rw[if_neg (by simp[I,M];omega),if_neg (by rw[I];exact h3)];simp
 rw[hs]at h
 (repeat (first|refine Q7 ?_|refine aM oo oo ?_|refine ao oo ?_))
 rw[show ((q:Int)+(N:Int))=((q+N:Nat):Int)by omega];refine Wp (l:=q) (m:=q+N) hb (.inr ⟨_,rfl⟩) (.inr ⟨_,rfl⟩) oo oo ?_;intro a' u;have hx:(l.take (q+N)).drop q=(l.drop q).take N:=by rw[List.drop_take];congr 1;omega
 rw[hx]at u;have ad:=u.len;rw[show q+N-q=N by omega]at *
 (repeat (first|refine we ?_))
 refine Q6 (Inv:=fun x i wr=>∃j,j≤N∧i=ci (j:Nat)∧x=.int .u64 (nU (((l.drop q).take N).take j):Nat)∧wr=w)
  (μ:=fun _ i _=>N-(intOf i).toNat) ⟨0,by omega,by simp,by simp[nU],rfl⟩ ?_
 rintro _ _ _ w2 m ⟨j,hj,rfl,rfl,rfl⟩ hm;by_cases ag:j<N
 ·(repeat (first|refine aK ?_|refine ax oo ?_))
  refine ZE u oo oo ?_;intro hc;refine ld8 hc <|yL oo <|bX underlying5 underlying31 ?_;have aa:=Nz (((l.drop q).take N).take j);have Z:(((l.drop q).take N).take j).length=j:=by rw[List.length_take];omega
  rw[Z]at aa;have J:nU (((l.drop q).take N).take j)<72057594037927936:=by
   have:256 ^ j≤256 ^ 7:=Nat.pow_le_pow_right oo oo
   omega
  generalize U:((l.drop q).take N).getD (((j:Nat):Int)).toNat 0=cc;have O:=cc.toNat_lt;refine Pe ?_;rw[eu (cc.toNat:Int),show (cc.toNat:Int)%18446744073709551616=((cc.toNat:Nat):Int)by omega,Rb J oo]
  (repeat (first|refine aM oo oo ?_))
  have C:((l.drop q).take N).getD j 0=cc:=by simpa using U
  refine⟨⟨j+1,by omega,by simp,?_,rfl⟩,by rw[hm];simp only[intOf];omega⟩;rw[Sg _ _ oo,Pd,C]
 ·have:j=N:=by omega
  subst this
  (repeat (first|refine Q8 ?_|refine aK ?_|refine ao oo ?_))
  rw[tL oo];exact h
end
end
section
theorem Zt (l:List UInt8):∀n:Nat,l.foldl (fun n c=>n*256+c.toNat) n=n*256 ^ l.length+l.foldl (fun n c=>n*256+c.toNat) 0:=by
 induction l with
 | nil=>intro n;simp
 | cons c r ih =>
  intro n;simp only[List.foldl_cons,List.length_cons];rw[ih (n*256+c.toNat),ih (0*256+c.toNat)];rw[Nat.pow_succ,Nat.add_mul,Nat.add_mul,Nat.mul_assoc,Nat.mul_comm (256 ^ r.length) 256];omega
theorem Wk (c:UInt8)(l:List UInt8):nU (c::l)=c.toNat*256 ^ l.length+nU l:=by
 unfold nU;rw[List.foldl_cons,Zt];simp
theorem IB (x:Nat):∀k,nU (bl x k)=x%256 ^ k:=by
 intro k
 induction k with
 | zero=>simp[bl,nU,Nat.mod_one]
 | succ k ih =>
  rw[bl,Wk,ih,bm,Nat.mod_pow_succ]
  have:(UInt8.ofNat (x / 256 ^ k)).toNat=x / 256 ^ k%256:=by simp
  rw[this,Nat.mul_comm];omega
def Dj :List (List UInt8)→Nat
 | []=>0
 | s::r=>s.length+Dj r
theorem YN (L:List (List UInt8))(j:Nat)(s:List UInt8)(h:L[j]? = some s):Dj (L.take j)+s.length+Dj (L.drop (j+1))=Dj L:=by
 induction L generalizing j with
 | nil=>simp at h
 | cons x L ih =>
  cases j with
  | zero=>simp at h;subst h;simp[Dj]
  | succ j =>
   simp at h
   have:=ih j h
   simp only[List.take_succ_cons,List.drop_succ_cons,Dj];omega
end
section
open Go.RowKit
abbrev ptr (b:Nat):Value:=pA b 0
theorem OP :∀w,(sizeOf 3).run Q w=.ok 1 w:=fun _=>by kernel_rfl
theorem RV.drew (h:RV w a n c xs):RV w.drew a n c xs:=⟨h.len,h.cap,h.some_,h.nil_,h.cell⟩
theorem RB.drew {xs:List UInt8}(h:RB w a n c xs):RB w.drew a n c xs:=RV.drew h
theorem U7 {T:List TypeId}{v:Value}(h:w.ownsRow B2 E s v n xs)(M:Keep T B w w')(C:E∉T):w'.ownsRow B2 E s v n xs:=by
 refine⟨h.1,?_⟩;rcases h.2 with u|⟨g,cap,j,O,I,J,r⟩
 ·exact .inl u
 ·exact .inr ⟨g,cap,j,O,I,M.block _ _ J (.inr fun cs E' z e=>by cases e;exact C),r⟩
theorem OB.keep {T:List TypeId}{l:List UInt8}(h:OB w B2 a n c l)(u:Keep T B w w')(j:5∉T):OB w' B2 a n c l:=U7 h u j
end
section
attribute [local irreducible] bin un conv call aZ blt slc ai fld aL idx lkp cP eP eSt rng nxt ent ext alc box bld bg ld sto aJ cr mkS ifc pick rdy wts aG sti cond aV Gives ah dy dP cOp
section
open Go.RowKit
def Ru (l:List UInt8):List UInt8:=bl (CI 0 l).toNat 4
def zt (s:List UInt8):List UInt8:=bl s.length 4++Ru (bl s.length 4++s)++s
def cf :List (List UInt8)→List UInt8
 | []=>[]
 | s::r=>zt s++cf r
def okR (L:List (List UInt8)):Prop:=∀s∈L,s.length≤4096
theorem IV (s:List UInt8):(zt s).length=8+s.length:=by simp[zt,Ru,bm];omega
theorem Hb (x y:List (List UInt8)):cf (x++y)=cf x++cf y:=by
 induction x with
 | nil=>rfl
 | cons s r ih=>simp[cf,ih]
theorem Bi (L:List (List UInt8)):(cf L).length=8*L.length+Dj L:=by
 induction L with
 | nil=>rfl
 | cons s r ih=>simp only[cf,List.length_append,IV,ih,List.length_cons,Dj];omega
theorem Lc (L:List (List UInt8))(j:Nat)(s:List UInt8)(h:L[j]? = some s):cf (L.take (j+1))=cf (L.take j)++zt s:=by
 have u:=gS h;rw[List.take_succ_eq_append_getElem u.1,Hb,u.2];simp[cf]
theorem YG {l:List UInt8}(h:p+4≤l.length):pw l p 4=(nU ((l.drop p).take 4),(p:Int)+4,0):=by
 unfold pw;rw[if_neg (by rintro(j|j|j)<;>first|exact absurd j dc|omega),if_neg oo];rfl
theorem Xb {l:List UInt8}(h:l.length<p+4):(pw l p 4).2.2≠0:=by
 unfold pw;split
 ·decide
 ·rw[if_pos oo];decide
theorem zcZ (l:List UInt8)(p:Nat):nU ((l.drop p).take 4)<4294967296:=by
 have:=Nz ((l.drop p).take 4)
 have h:((l.drop p).take 4).length≤4:=by simp;omega
 have j:256 ^ ((l.drop p).take 4).length≤256 ^ 4:=Nat.pow_le_pow_right oo h;omega
section
theorem zb2 {cs:Array Bool}(h:K (ci (n:Int)) w):blt Q .len #[102] E cs #[.slice av n c] K w:=zez h
theorem L7 {x:Nat}(O:x<4294967296)(h:∀j C u w',OB w' w.heap.size j C u (bl x 4)→Below w.heap.size w w'→K (.slice j C u) w'):call Q 195 #[.int .u32 (x:Int)] K w:=by
 refine ak (goK func195) (PF ?_);refine bX underlying302 underlying31 ?_;rw[eu,show (x:Int)%18446744073709551616=((x:Nat):Int)by omega];refine put_c (l:=[]) (k:=4) (RV.nil w) oo oo ?_;rw[show Dh [] x 4=(bl x 4,0)by unfold Dh;rw[if_neg dc,if_neg (by show ¬256 ^ 4≤x;omega)];rfl];intro J U M Z I b1
 (repeat (first|refine bu ?_|refine bv ?_))
 exact h _ _ _ _ I b1
theorem YM {x:Nat}(h:x<4294967296):IntKind.u32.wrap (x:Int)=(x:Int):=by rw[JL];omega
theorem zdf {vs:List (Option Addr×Nat×Nat)}{L:List (List UInt8)}(hL:RBB w a2 b c2 vs L)(ap:b≤4294967296)(hv:Dj L≤1000000000000)(ok:okR L)(h:∀C U J w',OB w' w.heap.size C U J (cf L)→Below w.heap.size w w'→K (.tuple #[.slice C U J,ci 0]) w'):call Q 170 #[.slice none 0 0,.slice a2 b c2] K w:=by
 have an:=hL.lenL;refine ak (goK func170) (Tt ?_);refine El (l:=[]) (RV.nil w) oo ?_;intro a1 c1 w1 o1 b1;refine zb2 ?_;refine QL (Inv:=fun ag i wr=>∃(j:Nat) (C:Option Addr) (U J:Nat),j≤b∧i=ci (j:Nat)∧ag=.slice C U J∧OB wr w.heap.size C U J (cf (L.take j))∧Below w.heap.size w wr)
  (μ:=fun _ i _=>b-(intOf i).toNat) ⟨0,_,_,_,by omega,rfl,rfl,by simpa[cf]using o1,b1⟩ ?_
 rintro _ _ _ w2 m ⟨j,a3,n3,c3,hj,rfl,rfl,Z,b3⟩ hm;by_cases am:j<b
 ·(repeat (first|refine aK ?_|refine ax oo ?_))
  refine zaZ (hL.below b3 oA) oo oo ?_;intro v s O u hc hr;rw[Int.toNat_natCast]at O u;refine zdv hc ?_;have af:=hr.len;have ar:=ok s (mO u);have aa:=Z.len;rw[Bi,List.length_take]at aa;have al:=YN L j s u
  (repeat (first|refine bO ?_|refine we ?_|refine ao oo ?_))
  refine bX underlying3 underlying302 ?_;rw[YM oo];refine L7 oo ?_;intro a4 n4 c4 w4 o4 I;have h4:=o4.len;rw[bm]at h4;refine zbh o4.rb oo ?_;have ad:=hr.below I oA;refine TU ad oo ?_;have s3:=b3.size;have s4:=I.size;refine KA w.heap.size (Z.below I oA) o4.rb oo oo ?_;intro a5 c5 w5 o5 g5
  have k5:Below w.heap.size w4 w5:=cM g5 oo (fun k M=>(OV.block (OB.below Z I oA) k M).1);refine L7 (BitVec.isLt _) ?_;intro a6 n6 c6 w6 o6 b6;have h6:=o6.len;rw[bm]at h6;have s5:=k5.size;have s6:=b6.size;refine KA w.heap.size (OB.below o5 b6 oA) o6.rb oo oo ?_;intro a7 c7 w7 o7 g7
  have k7:Below w.heap.size w6 w7:=cM g7 oo (fun k M=>(OV.block (OB.below o5 b6 oA) k M).1);have s7:=k7.size;have B7:Below w.heap.size w w7:=(((b3.trans (I.mono s3)).trans k5).trans (b6.mono oo)).trans k7;have r7:RB w7 v.1 v.2.1 v.2.2 s:=(hL.below B7 oA).each j v s O u;refine KA w.heap.size o7 r7 oo oo ?_;intro a8 c8 w8 o8 g8
  have k8:Below w.heap.size w7 w8:=cM g8 oo (fun k M=>(OV.block o7 k M).1)
  (repeat (first|refine aM oo oo ?_))
  refine⟨⟨j+1,_,_,_,by omega,by simp,rfl,?_,B7.trans k8⟩,by rw[hm];simp only[intOf];omega⟩;rw[Lc L j s u];have e:cf (L.take j)++zt s=cf (L.take j)++bl v.2.1 4++bl (CI (CI 0 (bl v.2.1 4)) s).toNat 4++s:=by
   rw[T6];simp only[zt,Ru,af,List.append_assoc]
  rw[e];exact o8
 ·have:j=b:=by omega
  subst this;rw[tL oo]at Z
  (repeat (first|refine QN ?_|refine aK ?_|refine ao oo ?_))
  exact h _ _ _ _ Z b3
/-! ## Taking -/
theorem IR (h:K (pA b (o+0)) w):ai Q 261 (pA b o) 0 K w:=aH kr h
theorem tT (h:K (pA b (o+1)) w):ai Q 261 (pA b o) 1 K w:=aH kr h
theorem Ns (h:K (pA b (o+0)) w):ai Q 263 (pA b o) 0 K w:=aH kr h
theorem RB.oth {l:List UInt8}(h:RB w a n c l)(I:Oth p w w')(J:0<n→∀j,a=some j→j.block≠p):RB w' a n c l :=
 ⟨RV.len h,RV.cap h,RV.some_ h,RV.nil_ h,fun i v C=>by
  have u:=RV.cell h i v C;have hi:i<n:=by have:=(gS C).1;rw[RV.len h]at this;exact this
  obtain⟨b,o,rfl⟩:=RV.some_ h oo;rw[rV]at u ⊢;rw[World.cell?_of_block (w:=w) (I.other b (J oo _ rfl))];exact u⟩
theorem GU {q:Nat}{v:Option Addr×Nat×Nat}{b:List UInt8}(M:blk w p E [slv v,ci (q:Nat)])(U:RB w v.1 v.2.1 v.2.2 b)(hn:v.2.1≤4294967296)(h0:b.length<q+4→∀w',Below w.heap.size w w'→blk w' p E [slv v,ci (q:Nat)]→K (.tuple #[.int .u32 0,.bool false]) w')(h1:q+4≤b.length→∀w',blk w' p E [slv v,ci ((q+4:Nat):Int)]→Keep [E] p w w'→K (.tuple #[.int .u32 (nU ((b.drop q).take 4):Nat),.bool true]) w'):call Q 192 #[ptr p] K w:=by
 have hl:=U.len;refine ak (goK func192) (HN ?_);refine au (fun w=>blk w p E [slv v,ci (q:Nat)]) M <|ab (fun w j _=>aj) <|ab (fun w j _=>IR) <|ab (fun w j _=>lK j rfl) <|ab (fun w j _=>aj) <|ab (fun w j _=>tT) <|ab (fun w j _=>lK j rfl) <|YI (w:=w.drew) (l:=b) U.drew oo <|au (fun _=>True) trivial <|ab (fun w j _=>PB) <|ab (fun w j _=>PC) <|ab (fun w j _=>PD) ?_
 have u:blk w.drew p E [slv v,ci (q:Nat)]:=M;by_cases O:q+4≤b.length
 ·rw[YG O]
  (repeat (first|refine aX ?_|refine aF ?_))
  refine aj <|tT <|cB OP u sm rfl ?_;intro Z C J;refine bX underlying31 underlying302 ?_;have I:=zcZ b q;rw[YM I];refine h1 O Z ?_ (J.keep (w:=w.drew) u sm oA).undrew;have C:blk Z p E [slv v,ci ((q:Int)+4)]:=C;rw[show ((q+4:Nat):Int)=(q:Int)+4 by omega];exact C
 ·have he:=Xb (l:=b) (p:=q) oo;refine aX <|ax he ?_;exact h0 oo _ ((Below.refl _ w).drew) u
end
end
end
end Go.Proofs.YtkfgimlaijifaaaGreatDoor
