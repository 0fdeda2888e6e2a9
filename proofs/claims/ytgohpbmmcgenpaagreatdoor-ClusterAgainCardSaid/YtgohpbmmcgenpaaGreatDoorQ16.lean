import Derived.Test.YtgohpbmmcgenpaaGreatDoorQ15
import Derived.Test.YtgohpbmmcgenpaaGreatDoorRows
import Derived.WalkKit
import Derived.ProofKit
import Derived.OpenShut
import Derived.ShutString
import Derived.ChangeOld
import Derived.Below
import Derived.JoinedCond
import Derived.Deep.Matrix
import Derived.Test.YtgohpbmmcgenpaaGreatDoorQ10
import Derived.LaidMore
import Derived.LaidHandle
import Derived.ChangeSame
import Derived.Stop.Joined
import Derived.Test.YtgohpbmmcgenpaaGreatDoorQ9
import Derived.Deep.Slices
import Derived.Test.YtgohpbmmcgenpaaGreatDoorQ14
namespace Go.Proofs.YtgohpbmmcgenpaaGreatDoor
set_option maxRecDepth 100000
set_option linter.defProp false
set_option maxHeartbeats 4000000
open Go.Proofs.Tryz
open Go.RowKit
variable {w w' w0 w2 W0 S O:oG}{zf:Nat->oF}{b c o i g m s j z f d c2 gc D pc pn ba hi:Nat}{a av a2:Option Addr}{x v r N fu:Int}{E t e:TypeId}{A:List Int}{xs ys vs:oE}{P:Program}{cx:Bool}{T:List (Int×Int)}{H Z U Y J C:oF}
section
attribute [local irreducible] bin un conv call bS blt slc aq fld bv idx lkp fJ nl eSt rng nxt ent ext alc box bld cH ld sto bj fK mkS ifc pick rdy wts aT sti cond bA Gives aj iK kH cOp
section
open Go.ChangeMaps
def ziH{nd a:Int}(h:0<=nd/\nd<M64):Ak (tkX nd a):=⟨h,by show (0:Int)<=R39/\R39<M64;decide,by show (0:Int)<=0/\(0:Int)<M64;decide⟩
def PI.idb{l:PL}(b:PI l):∀x∈l.N,0<=x.id/\x.id<M64:=λx c=>by
 obtain⟨o,q,d,e,f,g,a,_⟩:=b.ids x c;rw[a];simp only[M40,M64]at *;omega
section
variable  {K:KV}{B0 n t:Nat}{Z:List Nat}{c:CX}{l:PL}{y nd a:Int}
theorem zdl {W0 : World} {zf : Nat → Value} {q : Nat} {B : Nat} {Y : DuX} {r : RS} {F M N : Int} {pa : Option Addr} {pn pc : Nat} {P : List Int} {ga : Option Addr} {gc : Nat} {st : STA} (h : CM w B0 n b Z c) (hb : b ≤ 7000) (hi : i < 6) (hX : c.X i = .up Y r (-1)) (g : AgS r.l i) (hT : R39 < c.T 6)
    (hq : q ∈ Z) (zq : blk w q 38 (saC st)) (so : SO w B r.l st ga gc) (hN : 0 ≤ N ∧ N ≤ 255) (hM : 0 ≤ M ∧ M ≤ 65535) (hF : 0 ≤ F ∧ F ≤ 255) (hP : RIn W0 pa pn pc P) (b0 : Below B0 W0 w) (hW0 : W0.heap.size ≤ B0)
    (hW : ∀ w' (K' : KV), GD w' → Below B0 w w' → (∀ w'', Below w'.heap.size w' w'' → K' cT w'') → call Tryz.prog 5 #[] K' w') (hK : ∀ w', Below B0 w w' → K cT w') :
    lE K (lI (.int .u8 N) (.int .u16 M) (.int .u8 F) (.slice pa pn pc) (pB c.p) (iv ((i : Int) + 1)) (pB q) cT zf) w := by
  have hs := h.st i hi
  have sz := h.sz i hi
  rw [hX] at hs sz
  have sz : r.A.length ≤ b := sz
  have hp := hs.2.d.pi
  have sk := so.sk hp
  have c18 := Ee (t := st) (by rw [so.eI]; exact hp.i6) (by rw [so.eL]; exact hp.l6) (by rw [so.eV]; exact hp.v6)
  refine EC (bH (aD (nP (ld1 (v := .slice st.na st.nodes.length st.nc) (fun _ => by kernel_rfl) zq c18 (bM Tryz.underlying35 (aU ?_))))))
  by_cases h0 : st.nodes.length = 0
  · refine aG (by omega) (hW w K h.kd (Below.refl _ _) fun w' b' => hK w' (b'.mono h.b0))
  refine aB (by omega) ?_
  have few := sk.few
  have bd : Below w.heap.size w w.drew := (Below.refl _ w).drew
  obtain ⟨k, hk⟩ : ∃ k : Nat, (N % (st.nodes.length : Int)) = (k : Nat) := ⟨(N % (st.nodes.length : Int)).toNat, by have := Int.emod_nonneg N (show (st.nodes.length : Int) ≠ 0 by omega); omega⟩
  have hkl : k < st.nodes.length := by have := Int.emod_lt_of_pos N (show 0 < (st.nodes.length : Int) by omega); omega
  have hx : st.nodes[k]? = some st.nodes[k] := List.getElem?_eq_getElem hkl
  have hxm : st.nodes[k] ∈ r.l.N := by rw [← so.eN]; exact List.getElem_mem hkl
  generalize st.nodes[k] = x at hx hxm
  obtain ⟨nb, no, hna⟩ := sk.nr.some_ (by omega)
  refine ax (fun y => Below w.heap.size w y ∧ blk y q 38 (saC st)) ⟨bd, zq.drew⟩ ?_
  refine ac (fun y d _ hK => nP hK) (ac (v := .slice st.na st.nodes.length st.nc) (fun y d _ hK => ld1 (fun _ => by kernel_rfl) d.2 c18 hK) ?_)
  refine ac (v := iv N) (fun y d _ hK => dP Tryz.underlying5 Tryz.underlying3 (by rw [eY (by omega) (by omega)]; exact hK)) ?_
  refine ac (fun y d _ hK => nP hK) (ac (v := .slice st.na st.nodes.length st.nc) (fun y d _ hK => ld1 (fun _ => by kernel_rfl) d.2 c18 hK) (ac (fun y d _ hK => bM Tryz.underlying35 hK) (ac (v := iv (k : Nat)) (fun y d _ hK => LH hN.1 (by omega) (by rw [hk]; exact hK)) ?_)))
  rw [hna]
  refine ac (v := .pointer (some ⟨nb, no + k * 56, none⟩)) (fun y d _ hK => gO Tryz.underlying35 (s := 56) (fun _ => by kernel_rfl) (by omega) (by omega) (by rw [Int.toNat_natCast]; exact hK)) ?_
  refine ac (fun y d _ hK => RO hK) (ac (v := u6 x.id) (fun y d _ hK => ux (fun _ => by kernel_rfl) ((sk.nr.bel d.1 (Nat.le_refl _)).cell k x hx nb no hna 0 _ rfl) hK) ?_)
  refine ac (v := iv M) (fun y d _ hK => dP Tryz.underlying23 Tryz.underlying2 (by rw [eY (by omega) (by omega)]; exact hK)) (ac (v := iv (1 + M)) (fun y d _ hK => aY (by omega) (by omega) hK) ?_)
  refine ac (v := .agg (akC (tkX x.id (1 + M))).toArray) (fun y d _ hK => cE (vs := akC (tkX x.id (1 + M))) (by kernel_rfl) hK) ?_
  refine cD (z := .agg (akC ⟨0, 0, 0, 0, 0, 0⟩).toArray) (by kernel_rfl) fun w1 z1 b1 s1 => ?_
  have z1 : blk w1 w.drew.heap.size 42 (akC ⟨0, 0, 0, 0, 0, 0⟩) := by simpa [Value.cells] using z1
  have b1 : Below w.heap.size w.drew w1 := b1
  refine aI ⟨bd.trans b1, ae b1 zq.drew (by have := zq.lt; exact this)⟩ (fY (n := 6) (vs := akC (tkX x.id (1 + M))) (by kernel_rfl) rfl z1 (by decide) (fun v hv => by
    simp only [akC, List.mem_cons, List.not_mem_nil, or_false] at hv
    rcases hv with rfl | rfl | rfl | rfl | rfl | rfl <;> rfl) fun w2 z2 o2 => ?_)
  have z2 : blk w2 w.drew.heap.size 42 (akC (tkX x.id (1 + M))) := z2
  have b2 : Below w.heap.size w w2 := aK (bd.trans b1) o2 (Nat.le_refl _)
  have s2 := h.csb b2
  have hV := hs.2.Vl
  exact zdm (h.new b2 (Nat.le_refl _) z2.lt) (by omega) hi hX g (ziH (hp.idb x hxm)) hT (g.err hp hi (List.any_eq_true.2 ⟨x, hxm, by simp⟩) (by omega) (by omega)) hF List.mem_cons_self z2 hP (b0.trans s2.bel) hW0 (fun w' K' hg hb' => hW w' K' hg (s2.bel.trans hb')) fun w' hb' => hK w' (s2.bel.trans hb')
theorem zdr {W0 : World} {zf : Nat → Value} {F M N o : Int} {pa : Option Addr} {pn pc : Nat} {P : List Int} (h : CM w B0 n b Z c) (hb : b ≤ 6000) (hT : c.T 6 = R39) (ho : 0 ≤ o ∧ o ≤ 255) (hN : 0 ≤ N ∧ N ≤ 255) (hM : 0 ≤ M ∧ M ≤ 65535) (hF : 0 ≤ F ∧ F ≤ 255) (hP : RIn W0 pa pn pc P) (b0 : Below B0 W0 w) (hW0 : W0.heap.size ≤ B0)
    (hW : ∀ w' (K' : KV), GD w' → Below B0 w w' → (∀ w'', Below w'.heap.size w' w'' → K' cT w'') → call Tryz.prog 5 #[] K' w') (hK : ∀ w', Below B0 w w' → K cT w') :
    cq K (iT (.int .u8 o) (.int .u8 N) (.int .u16 M) (.int .u8 F) (.slice pa pn pc) (iv (n : Nat)) (pB c.p) zf) w := by
  have n1 := h.n1
  have n6 := h.n6
  refine EW (dP Tryz.underlying5 Tryz.underlying3 ?_)
  rw [eY (by omega) (by omega)]
  obtain ⟨i, hk⟩ : ∃ i : Nat, (o % (n : Int)) = (i : Nat) := ⟨(o % (n : Int)).toNat, by have := Int.emod_nonneg o (show (n : Int) ≠ 0 by omega); omega⟩
  have hin : i < n := by have := Int.emod_lt_of_pos o (show 0 < (n : Int) by omega); omega
  have hi : i < 6 := by omega
  refine LH ho.1 (by omega) (aY (by omega) (by omega) ?_)
  rw [hk, show (1 : Int) + (i : Nat) = (i : Int) + 1 by omega]
  refine cE (vs := stC (stO 10 i 0) (.slice none 0 0)) (by kernel_rfl) (h.offA hi fun w1 h1 s1 => ?_)
  obtain ⟨p, u, A', L', hX1⟩ := zap (c.X i)
  refine cE (vs := stC (stO 11 i 0) (.slice none 0 0)) (by kernel_rfl) (CM.onA (c := { c with X := eR c.X i (ue (c.X i)) }) (P := []) h1 (by omega) hi (updX_eq.trans hX1) (RV.nil w1) fun w2 Y2 j c2 e1 e2 hX2 h2 s2 => ?_)
  have hcp : c2.p = c.p := e1
  have hT2 : c2.T 6 = R39 := e2.trans hT
  have s02 := s1.trans s2
  refine zhL (off := 14) (n := 1) (v := ci 0) (by kernel_rfl) rfl (bo (aB (by decide) ?_))
  have hs2 := h2.st i hi
  rw [hX2] at hs2
  have g := hs2.2.ag (by rw [hT2]; exact Int.le_refl _) hin n6
  have h2' := h2.req (R := R39 + 1) (by rw [hT2]; decide)
  rw [← hcp]
  refine HA h2 (by omega) (by constructor <;> omega) (fun w3 b3 hn => ?_) fun w3 i' Y3 r3 fu3 t3 ga gc hi3 e3 hX3 so3 b3 => ?_
  · have := hn i hi rfl
    rw [hX2] at this; cases this
  obtain rfl : i' = i := by omega
  rw [hX2] at hX3
  cases hX3
  refine bK (bJ (h2'.alcSt b3 so3 hs2.2.d.pi fun w4 q h4 s4 so4 zq => ?_))
  have s04 := s02.trans s4
  exact zdl (c := { c2 with T := fun q => if q = 6 then R39 + 1 else c2.T q }) h4 (by omega) hi hX2 g (by show R39 < R39 + 1; decide) (by simp) zq so4 hN hM hF hP (b0.trans s04.bel) hW0 (fun w' K' hg hb' => hW w' K' hg (s04.bel.trans hb')) fun w' hb' => hK w' (s04.bel.trans hb')
end
def RR{K:KV}(h:K (pA b (o+0)) w):aq Q 46 (pA b o) 0 K w:=aQ kr h
def zdT{K:KV}(h:K (pA b (o+12)) w):aq Q 46 (pA b o) 1 K w:=aQ kr h
def zdU{K:KV}(h:K (pA b (o+13)) w):aq Q 46 (pA b o) 2 K w:=aQ kr h
def Qr{s:STP}{n:Nat}:∀v∈stC s (.slice a n c),v.oneCell'=true:=by intro v b;simp only[stC,oO,oR,or_false]at b;rcases b with rfl|rfl|rfl|rfl|rfl|rfl|rfl|rfl|rfl|rfl|rfl|rfl<;>rfl
def Nk:STP:=⟨0,0,0,0,0,0,0,0,0,0,0,[]⟩
section
variable  {K:KV}{B0 n t:Nat}{Z:List Nat}{c:CX}
def zji{L:List S24}(h:S24R w a m pc L)(g:K cF w)(d:m<=100->K cT w):call Q 4 #[.slice a m pc] K w:=by
 have r:=h.len;refine ao (goK func4) (Sf (bM underlying22 (dE ?_)));by_cases p:100<m
 .exact aG oo g
 refine aB oo <|Pi (Inv:=λu l=>∃q:Nat,u=ci (q:Nat)/\q<=m/\w=l) (μ:=λu _=>m-(intOf u).toNat) ⟨0,rfl,qG _,rfl⟩ ?_;rintro _ n _ y ⟨q,rfl,t,rfl⟩ c;refine bM underlying22 (aW ?_);by_cases b:q<m
 .have f:L[q]? = some L[q]:=gE oo;generalize L[q]=x at f;obtain⟨i,o,j⟩:=h.some_ oo;subst j;have k:=h.cell q x f i o rfl;refine aG oo (gO underlying22 (s:=14) kf oo oo (RR (Yg ?_)));rw[oQ]
  refine ux (v:=.slice x.pa x.s.picks.length x.pc) kf (k 11 _ rfl) (bM underlying24 (dE ?_));by_cases e:(20:Int)<(x.s.picks.length:Nat)
  .exact aG e g
  .exact aB e (aY oo oo ⟨⟨q+1,qH ci (by push_cast;rfl),b,rfl⟩,by rw[c];show m-((q:Int)+1).toNat<m-(q:Int).toNat;omega⟩)
 .exact aB oo (Pj (d oo))
def zdg{x:S24}{b:STA}(Y:YP w x)(hI:b.I.length=6/\b.L.length=6/\b.V.length=6)(E:NR w b.na b.nodes.length b.nc b.nodes)(aa:b.nodes.length<=1000000)(R:∀y∈b.nodes,0<=y.id/\y.id<M64)(hg:b.gv.oneCell'=true)(a:∀w' nd,(0<=nd/\nd<=18446744073709551615)->Below w.heap.size w w'->K (.agg (stC {x.s with node:=nd} (.slice x.pa x.s.picks.length x.pc)).toArray) w'):call Q 8 #[.agg (PN x).toArray,.agg (saC b).toArray] K w:=by
 have f:=Ee (t:=b) hI.1 hI.2.1 hI.2.2;refine ao (goK func8) (Ku (bU λG J D s1=>bU λr M O s2=>cD (z:=.agg (stC Nk (.slice none 0 0)).toArray) kr λw3 B U s3=>?_));have J:=cZ J
 have M:=cZ M
 have B:=cZ B
 have d:Below G.heap.size G w3:=O.trans (U.mono O.size);have l:=D.trans (d.mono D.size);have h:=ae d J J.lt;have A:=ae U M M.lt;obtain⟨v,hv⟩:∃v,v=Value.slice x.pa x.s.picks.length x.pc:=⟨_,rfl⟩
 refine RR (ldA (n:=12) (vs:=stC x.s (.slice x.pa x.s.picks.length x.pc)) underlying44 rfl kr h rfl rfl ?_);refine cD (z:=.agg (stC Nk (.slice none 0 0)).toArray) kr λw4 T b4 s4=>?_;have T:=cZ T
 refine fY (n:=12) (vs:=stC x.s (.slice x.pa x.s.picks.length x.pc)) kr rfl T dc Qr λw5 N o5=>?_;have N:blk w5 w3.heap.size 44 (stC x.s (.slice x.pa x.s.picks.length x.pc)):=N;have c:Below w3.heap.size w3 w5:=aK b4 o5 oA;have m:=l.trans (c.mono l.size);have u:=ae c h h.lt;have i:=ae c A A.lt;have C:=ae c B B.lt
 have ab:=c.size;have o:∀{y:oG} {nd:Int} {zf:oD},(0<=nd/\nd<=18446744073709551615)->Below w.heap.size w y->blk y w3.heap.size 44 (stC {x.s with node:=nd} (.slice x.pa x.s.picks.length x.pc))->blk y r.heap.size 44 (stC Nk (.slice none 0 0))->fH K (rr (pB r.heap.size) (pB w3.heap.size) zf) y:=λ{y nd zf} E P zy zt=>by
  refine Ie (Kt (s:={x.s with node:=nd}) zy (fY (n:=12) (vs:=stC {x.s with node:=nd} (.slice x.pa x.s.picks.length x.pc)) kr rfl zt dc Qr λH j F=>?_));have j:blk H r.heap.size 44 (stC {x.s with node:=nd} (.slice x.pa x.s.picks.length x.pc)):=j
  exact uO (v:=.agg (stC {x.s with node:=nd} (.slice x.pa x.s.picks.length x.pc)).toArray) (λ_ a=>Kt (s:={x.s with node:=nd}) j a) (a H nd E (aK P F (by have:=d.size;have:=D.size;have:=O.size;omega)))
 refine zdT (lK (v:=.bool x.near) u rfl ?_);have e:=λzf=>o (zf:=zf) (nd:=x.s.node) Y.wd.node m N C;cases S:x.near with
 | false=>exact js (cA (yI (aD (e _))))
 | true =>
  refine my (nP (lK (v:=.slice b.na b.nodes.length b.nc) i f (bM underlying35 (dE (dD (yI ?_))))));by_cases X:(0:Int)<(b.nodes.length:Nat)
  .refine aG X ?_;have hN:=Y.nd;obtain⟨k,hk⟩:∃k:Nat,(x.node%(b.nodes.length:Int))=(k:Nat):=⟨(x.node%(b.nodes.length:Int)).toNat,by have:=Int.emod_nonneg x.node (show (b.nodes.length:Int)≠0 by omega);omega⟩
   have p:k<b.nodes.length:=by have:=Int.emod_lt_of_pos x.node (show 0<(b.nodes.length:Int)by omega);omega
   have Z:b.nodes[k]? = some b.nodes[k]:=gE p;have g:=R _ (List.getElem_mem p);generalize b.nodes[k]=y at Z g;obtain⟨nb,no,q⟩:=E.some_ oo;have W:Below w.heap.size w w5.drew:=m.drew;refine ah (λ_=>nP) (ah (v:=.slice b.na b.nodes.length b.nc) (λ_=>lK i.drew f) ?_)
   refine ah (λ_=>zdU) (ah (v:=.int .u8 x.node) (λ_=>lK u.drew rfl) (ah (v:=iv x.node) (λK a=>dP underlying5 underlying3 (by rw[eY oo oo];exact a)) ?_));refine ah (λ_=>nP) (ah (v:=.slice b.na b.nodes.length b.nc) (λ_=>lK i.drew f) (ah (λ_=>bM underlying35) (ah (v:=iv (k:Nat)) (λK a=>LH hN.1 oo (by rw[hk];exact a)) ?_)));rw[q]
   refine ah (v:=pA nb (no+k*56)) (λK a=>gO underlying35 (s:=56) kf oo oo (by rw[oQ];exact a)) ?_;refine ah (λ_=>RO) (ah (v:=u6 y.id) (λ_=>ux kf ((E.bel W oA).cell k y Z nb no q 0 _ rfl)) ?_)
   refine ah (λ_=>DO) (ah (λ_=>Mn) (dw (v:=u6 y.id) kf N.drew (by show 0+2+1<12;decide) rfl λH j F=>?_));have j:blk H w3.heap.size 44 (stC {x.s with node:=y.id} (.slice x.pa x.s.picks.length x.pc)):=j;exact o ⟨g.1,by have:=g.2;simp only[M64]at this;omega⟩ (aK W F (by have:=d.size;have:=D.size;omega)) j (F.blk C.drew (by have:=B.lt;omega))
  .exact aB X (e _)
def zhd{s:STP}{K2:oF->KV}(h:∀S,blk S w.heap.size 44 (stC s (.slice a m pc))->Below w.heap.size w S->K2 (pB w.heap.size) undef S):alc Q 44 (λb=>aL λ_=>sto Q 44 b (.agg (stC s (.slice a m pc)).toArray) (K2 b)) w:=by
 refine cD (z:=.agg (stC Nk (.slice none 0 0)).toArray) kr λf c d j=>ax (λ_=>True) trivial ?_;have c:=cZ c
 refine fY (n:=12) (vs:=stC s (.slice a m pc)) kr rfl c dc Qr λg i e=>h g i (aK d e oA)
end
structure StB(w:oG) (st:STA):Prop where
 i:st.I.length=6/\st.L.length=6/\st.V.length=6
 nr:NR w st.na st.nodes.length st.nc st.nodes
 few:st.nodes.length<=1000000
 id:∀y∈st.nodes,0<=y.id/\y.id<M64
 gv:st.gv.oneCell'=true
def StB.bel{st:STA}(h:StB w st)(a:Below w.heap.size w S):StB S st:={h with nr:=h.nr.bel a oA}
section
variable  {K:KV}{B0 n t:Nat}{Z:List Nat}{c:CX}
def zbV(h:CM w B0 n b Z c)(s:b<=20000)(u:FE N)(l:∀S f v,StB S f->Below w.heap.size w S->K (.tuple #[.agg (saC f).toArray,v]) S):call Q 7 #[pB c.p,iv N] K w:=by
 refine HA h s u (λk g _=>l k stZ _ ⟨⟨rfl,rfl,rfl⟩,⟨rfl,Nat.le_refl _,λh=>qI h (qW _),by simp[stZ],λi x y=>by simp[stZ]at y⟩,by simp[stZ],by simp[stZ],rfl⟩ g) λk i Y r z f A B t e q j g=>?_;have o:=h.st i t;rw[q]at o;have m:=o.2.d.pi;have a:=j.sk m
 exact l k f _ ⟨⟨a.i6,a.l6,a.v6⟩,a.nr,by have:=a.few;omega,by rw[j.eN];exact m.idb,by rw[j.gv];rfl⟩ g
def zdp{F o:Int}{L:List S24}{P:List Int}(h:CM w B0 n 0 [] c)(hT:c.T 6=R39)(ho:0<=o/\o<=255)(hN:0<=N/\N<=255)(hM:0<=r/\r<=65535)(hF:0<=F/\F<=255)(hL:S24R W0 a m b L)(hm:m<=60)(hP:RIn W0 av pn pc P)(b0:Below B0 W0 w)(W:W0.heap.size<=B0)(hW:∀w' (K':KV),GD w'->Below B0 W0 w'->(∀ak,Below w'.heap.size w' ak->K' cT ak)->call Q 5 #[] K' w')(I:∀w',Below B0 W0 w'->K cT w'):oz K (bL (.slice a m b) (.int .u8 o) (.int .u8 N) (.int .u16 r) (.int .u8 F) (.slice av pn pc) (iv (n:Nat)) (pB c.p) (ci 0) zf) w:=by
 have hl:=hL.len;refine EQ (Inv:=λu a=>∃(q:Nat) (c':CX),u=ci (q:Nat)/\q<=m/\CM a B0 n (64*q) [] c'/\SP c c'/\Below B0 W0 a) (μ:=λu _=>m-(intOf u).toNat) ⟨0,c,rfl,qG _,h,.refl,b0⟩ ?_;rintro _ dd w1 mu ⟨q,c1,rfl,hq,h1,g,b1⟩ ap;refine bM underlying22 (aW ?_);by_cases ao:q<m
 case neg =>
  refine aB oo ?_;rw[<-g.p];exact zdr h1 oo (g.r.trans hT) ho hN hM hF hP b1 W (λa b c X => hW a b c (b1.trans X)) λw' X => I w' (b1.trans X)
 have hx:L[q]? = some L[q]:=gE oo;have Z:L[q]∈L:=List.getElem_mem oo;generalize L[q]=x at hx Z;obtain⟨bl,D,ha⟩:=hL.some_ oo;subst ha;have rd:∀{y:oG},Below B0 W0 y->∀(j:Nat) u,(PN x)[j]? = some u->y.cell? ⟨bl,D+q*14+j,none⟩=some u:=λhy j u hu=>(hL.bel hy W).cell q x hx bl D rfl j u hu
 have S:∀{y:oG},Below B0 W0 y->YP y x:=λhy=>(hL.bel hy W).ok x Z;have f:=hL.ok x Z
 have B:∀{y:oG} {c2:CX} {zf:oD},CM y B0 n (64*q+64) [] c2->SP c c2->Below B0 W0 y->fp K (λa b=>(∃(q:Nat) (c':CX),gd a 18=ci (q:Nat)/\q<=m/\CM b B0 n (64*q) [] c'/\SP c c'/\Below B0 W0 b)/\m-(intOf (gd a 18)).toNat<mu) (bL (.slice (some ⟨bl,D,none⟩) m b) (.int .u8 o) (.int .u8 N) (.int .u16 r) (.int .u8 F) (.slice av pn pc) (iv (n:Nat)) (pB c.p) (ci (q:Nat)) zf) y:=λ{y c2 zf} hy aq hb =>
  EY (aY oo oo ⟨⟨q+1,c2,qH ci (by push_cast;rfl),ao,hy.le oo,aq,hb⟩,by rw[ap];show m-((q:Int)+1).toNat<m-(q:Int).toNat;omega⟩)
 have al:∀{y:oG} {K:KV},Below B0 W0 y->K (.agg (PN x).toArray) y->ld Q 46 (pA bl (D+q*14)) K y:=λhy I=>ldC (n:=14) (vs:=PN x) underlying46 rfl kr (rd hy) rfl I
 have ix:∀{y:oG} {K:KV},K (pA bl (D+q*14)) y->bv Q 22 (.slice (some ⟨bl,D,none⟩) m b) (ci (q:Nat)) K y:=λI=>gO underlying22 (s:=14) kf oo oo (by rw[oQ];exact I);refine aG oo (EA (ix (RR (DN ?_))));refine ux (v:=iv x.s.who) kf (rd b1 1 _ rfl) ?_;rw[<-g.p]at B |-
 refine zbV h1 oo f.i.who λw2 st v sb b2=>bK (bJ ?_);have V:(saC st).length=20:=ss sb.i.1 sb.i.2.1 sb.i.2.2;refine cD (z:=.agg (saC stZ).toArray) kr λw3 z3 b3 s3=>?_;have z3:=cZ z3
 refine fY (n:=20) (vs:=saC st) kr V z3 dc (W8 sb.gv) λO z4 o4=>?_;rw[qX,oV,oS dc,oW]at z4;have ah:Below w2.heap.size w2 O.drew:=(aK b3 o4 oA).drew;have ag:Below w1.heap.size w1 O.drew:=b2.trans (ah.mono b2.size);have h4:=h1.below ag
 have bW:Below B0 W0 O.drew:=b1.trans (ag.mono h1.b0);have E:=sb.bel ah;have af:=z4.drew;refine ax (λy=>Below B0 W0 y/\blk y w2.heap.size 38 (saC st)) ⟨bW,af⟩ (ac (λy d _ I=>ix I) (ac (λy d _ I=>al d.1 I) (ac (λy d _ I=>ldA (n:=20) (vs:=saC st) underlying38 rfl kr d.2 (by rw[oX,tL oo]) V I) ?_)))
 refine⟨zdg (S bW) E.i E.nr E.few E.id E.gv λw5 J Y U=>ax (λ_=>True) trivial (zhd λw6 G b6=>?_),?_⟩
 rotate_left
 .refine cD (z:=.agg (stC Nk (.slice none 0 0)).toArray) kr λw5 z5 U s5=>?_;have z5:=cZ z5
  have aj:=bW.trans (U.mono h4.b0);have M:=E.bel U;refine aI ⟨aj,ae U af af.lt⟩ (zdg (S aj) M.i M.nr M.few M.id M.gv λau J Y ai => ax (λ_=>True) trivial ?_);have ar:=ae ai z5 z5.lt;refine fY (n:=12) (vs:=stC {x.s with node:=J} (.slice x.pa x.s.picks.length x.pc)) kr rfl ar dc Qr λw6 G o6=>?_
  have G:blk w6 O.drew.heap.size 44 (stC {x.s with node:=J} (.slice x.pa x.s.picks.length x.pc)):=G;have H:Below O.drew.heap.size O.drew w6:=aK (U.trans (ai.mono U.size)) o6 oA;obtain⟨bx,an⟩:∃bx,bx=O.drew.heap.size:=⟨_,rfl⟩
  rw[<-an]at G |-;have R:=h4.below H;have l:=bW.trans (H.mono h4.b0)
  -- the step is done,or not
  have aa:STW {x.s with node:=J}:=⟨f.wd.d,f.wd.kind,Y,f.wd.req,f.wd.of_⟩
  have ab:STI {x.s with node:=J}:=⟨f.i.who,f.i.to,f.i.am,f.i.k,f.i.j,f.i.n⟩
  refine DO (yC (lK (v:=u6 x.s.req) G rfl (aW ?_)));by_cases t:x.s.req<549755813888
  rotate_left
  .exact dt t (bG t (js (cA (aD (B (R.le oo) g l)))))
  refine ck t (DO (yB (lK (v:=kv8 x.s.kind) G rfl (bo (bR t ?_)))));by_cases A:x.s.kind≠7
  rotate_left
  .exact dt A (bG A (aD (B (R.le oo) g l)))
  refine ck A (uY (lK (v:=kv8 x.s.d) G rfl (bo (bR A ?_))));by_cases C:x.s.d≠12
  rotate_left
  .exact aB C (B (R.le oo) g l)
  refine aG C (Kt (s:={x.s with node:=J}) G (ZT (s:={x.s with node:=J}) R oo aa ab (S l).r ⟨A,by rw[g.r,hT];exact t⟩ C λw7 c7 e y h7 s7 ad=>?_));exact B h7 (g.trans ad) (l.trans s7.bel)
 have H:Below O.drew.heap.size O.drew w6:=U.trans (b6.mono U.size);have R:=h4.below H;have l:=bW.trans (H.mono h4.b0)
 -- the step is done,or not
 have aa:STW {x.s with node:=J}:=⟨f.wd.d,f.wd.kind,Y,f.wd.req,f.wd.of_⟩
 have ab:STI {x.s with node:=J}:=⟨f.i.who,f.i.to,f.i.am,f.i.k,f.i.j,f.i.n⟩
 refine DO (yC (lK (v:=u6 x.s.req) G rfl (aW ?_)));by_cases t:x.s.req<549755813888
 rotate_left
 .exact dt t (bG t (js (cA (aD (B (R.le oo) g l)))))
 refine ck t (DO (yB (lK (v:=kv8 x.s.kind) G rfl (bo (bR t ?_)))));by_cases A:x.s.kind≠7
 rotate_left
 .exact dt A (bG A (aD (B (R.le oo) g l)))
 refine ck A (uY (lK (v:=kv8 x.s.d) G rfl (bo (bR A ?_))));by_cases C:x.s.d≠12
 rotate_left
 .exact aB C (B (R.le oo) g l)
 refine aG C (Kt (s:={x.s with node:=J}) G (ZT (s:={x.s with node:=J}) R oo aa ab (S l).r ⟨A,by rw[g.r,hT];exact t⟩ C λw7 c7 e y h7 s7 ad=>?_));exact B h7 (g.trans ad) (l.trans s7.bel)
end
def wX:AK:=⟨1,0,0,10,0,0⟩
def wE:EV:=⟨1,1,0,0,0,0,0,0,1,0,0,10,0,0⟩
def Xt:mkP 0 (pl0 2) wX=wE:=by decide
def zfx:eC wE (pl0 2)=0:=by decide
def wS:PL:=eff wE (pl0 2)
def zjH:lQ wE (pl0 2)=wS:=by unfold lQ;rw[oJ zfx];rfl
def zjI:tl [wE] (List.replicate 6 0)=[wE]:=by decide
def wH:HM:=nM (pl0 2).V [] [wE]
def ziS:eD (pl0 2).V wH 6=some wE:=by decide
def zk3:ud wH (ph wE)=[]:=by decide
def zk5:eD wS.V [] 6=none:=by decide
def zk4:wS.N.length=1:=by decide
def dg1{l':PL}{W':HM}{F:List EV}(h:DG (pl0 2) wH l' W' F):(l'=pl0 2/\W'=wH)\/(l'=wS/\W'=[]):=by
 induction h with
 | nil=>exact .inl ⟨rfl,rfl⟩
 | @snoc l' W' F e hd hn ih =>
  rcases ih with⟨rfl,rfl⟩|⟨rfl,rfl⟩
  .rw[ziS]at hn;cases hn;exact .inr ⟨zjH,zk3⟩
  .rw[zk5]at hn;cases hn
def zjd{l':PL}{W':HM}{F:List EV}(h:DG (pl0 2) wH l' W' F)(a:eD l'.V W' 6=none):l'.N.length=1:=by
 rcases dg1 h with⟨rfl,rfl⟩|⟨rfl,rfl⟩
 .rw[ziS]at a;cases a
 .exact zk4
def ziR:dI wE=true/\vC wE:=⟨by decide,by rw[<-Xt];exact DZ (GI 2) (by unfold Ak;decide)⟩
def ziT:(pF wS.I wS.L 6).length-1=1:=by decide
section
variable  {K:KV}
abbrev wT1:STP:=⟨1,1,1,0,0,10,0,0,0,0,0,[]⟩
abbrev wT2:STP:=⟨2,1,0,0,0,0,0,0,0,0,0,[]⟩
abbrev wT3:STP:=⟨4,0,0,0,0,0,0,0,0,0,0,[]⟩
def WK(ah:GD w)(h:∀w',Below w.heap.size w w'->K cT w'):call Q 5 #[] K w:=by
 refine ao (goK func5) (Pk (zbS (n:=2) (B0:=w.heap.size) ah ah.lt oA oo oo λw1 c h1 b1 eM ec en eT J=>?_));obtain⟨Y0,C,aP,W0⟩:=J 0 oo;obtain⟨Y1,D,aZ,W1⟩:=J 1 oo;refine bK (bJ (bo (dL dc (Dx (bG dc (aD ?_))))));refine cE (vs:=akC wX) kr (cE (vs:=stC wT1 (.slice none 0 0)) kr ?_)
 -- the first region makes a node
 refine tN (d:=1) (s:=wT1) (R:=λg e z=>AskR 0 wX c g e z) (b':=1) h1 rfl oo oo rfl rfl (λ_=>by decide) (λU _ a=>XJ (i:=0) (s:=wT1) U oo rfl oo (by unfold Ak;decide) ⟨by decide,by rw[eT];decide⟩ (λa O _ _=>by rw[C]at O;cases O) λb g e y c S d => a b g e y c S d) λw2 B e2 y2 hr U s2=>?_
 have al:eC (mkP 0 (pl0 2) wX) (pl0 2)=0:=by rw[Xt];exact zfx
 obtain⟨Y2,rfl,rfl,ab,aN,ac,ay,ax,av⟩:∃Y2:DuX,e2=wE/\y2=0/\B.X 0=.up Y2 ⟨wS,[wE],gp0⟩ (-1)/\Y2.X.ws=[]/\B.X 1=c.X 1/\B.p=c.p/\B.cut=c.cut/\B.M=c.M:=by
  cases hr with
  | no hX hn =>
   rw[C]at hX;cases hX;exact qI al (hn.old rfl)
  | yes hX h0 hna hf hw =>
   rw[C]at hX;cases hX;refine⟨_,Xt,rfl,?_,(hw rfl).trans aP,?_,rfl,rfl,rfl⟩
   .rw[hf rfl];show eR c.X 0 _ 0=_;rw[updX_eq];show SX.up _ ⟨eff (mkP 0 (pl0 2) wX) (pl0 2),[mkP 0 (pl0 2) wX],gp0⟩ (-1)=_;rw[Xt];rfl
   .rfl
  | off hX h0 hna hf =>
   rw[C]at hX;cases hX;exact qI rfl hf
 refine U.alcAn λw3 ba h3 s3 na za=>cE (vs:=stC wT2 (.slice none 0 0)) kr ?_
 -- it tells the other
 rw[<-ay];refine tN (d:=2) (s:=wT2) (R:=λg e z=>TickR 0 B g/\e=evZ/\z=0) (b':=1) h3 rfl oo oo rfl rfl (λ_=>by decide) (λU _ a=>ZU (i:=0) (s:=wT2) U oo rfl oo (λa O _ _=>by rw[ab]at O;cases O) λb g c S d => a b g _ _ ⟨c,rfl,rfl⟩ S d) λw4 P e4 y4 aK h4 s4=>?_;obtain⟨aM,rfl,rfl⟩:=aK
 obtain⟨x,k1,t1,n0,a0,xL,Z,q,az⟩:∃x:MG,x.k=1/\x.t=1/\x.n=0/\x.a=0/\x.L=[wE]/\P.M.map (·.1)=[x]/\P.X 1=c.X 1/\P.p=B.p:=by
  cases aM with
  | mk hX hT ha hl hm =>
   rename_i Y' aS s' aB T M ra rc;rw[ab]at hX;cases hX;have hl:=hl aN;have hl:T.length<=1:=by rw[<-ziT];exact hl
   obtain⟨x,hx,hk,ht⟩:=ha dc 1 dc dc;obtain rfl:T=[x]:=by
    match T,hl,hx with
    | [y],_,hx=>rw[mS hx]
   have aJ:=hT x hx;refine⟨x.1,hk,ht,?_⟩;rcases aJ.is with⟨_,n0,a0,v,hv,hL⟩|⟨k2,_⟩
   .refine⟨n0,a0,?_,?_,ac,rfl⟩
    .rw[ht]at hv;have hv:gp0[1]? = some v:=hv;rw[show gp0[1]? = some (List.replicate 6 (0:Int))by decide]at hv;rw[hL, <-Option.some.inj hv];exact zjI
    .show M.map (·.1)=[x.1]
     rw[hm,av,eM,ax,ec];show Pw (List.replicate 36 false) [] x.1=[x.1]
     unfold Pw;rw[oI];rfl;rintro(I|I)
     .rw[oN,jL]at I;split at I<;>cases I
     .exact qI I dc
   .omega
 refine h4.alcAn λw5 bb h5 s5 nb zb=>MN (cE (vs:=stC wT3 (.slice none 0 0)) kr ?_)
 -- the other hears
 rw[<-az];obtain⟨xx,u⟩:∃xx,P.M=[xx]:=by
  have:=qH List.length Z
  rw[oY]at this
  match I:P.M,this with
  | [xx],_=>exact⟨xx,rfl⟩
 have aj:xx.1=x:=by rw[u]at Z;exact(List.cons.inj Z).1
 refine tN (d:=4) (s:=wT3) (R:=λg e z=>e=evZ/\z=0/\g.p=P.p/\g.M=[]/\∃Y s fu,g.X 1=.up Y s fu/\s.l.N.length=1) (b':=65) h5 rfl oo oo rfl rfl (λI=>by cases I) (λU _ k2=>zbR (s:=wT3) (b':=65) (R:=λ_ B g e=>e=0/\g.p=B.p/\g.M=B.M/\∃Y s fu,g.X 1=.up Y s fu/\s.l.N.length=1) U (λ{w6 Z6 c6 y Yh r fu K6} hy e6 h6 j m6 ap aY aC=>?_) (λw' hn _ _=>?_) (λw' y hy O _ _=>?_) λa g y e _ G S b => k2 a g _ _ ⟨rfl,G.1,G.2.1,G.2.2.1.trans (by rw[u];rfl),G.2.2.2⟩ S b) λw6 c6 e6 y6 aL h6 s6=>?_
 .have A:y.1=x:=by
   rw[u]at hy
   have:[xx][0]? = some y:=hy
   rw[<-Option.some.inj this];exact aj
  have ht:y.1.t=1:=by rw[A];exact t1
  have aa:c6.X 1=P.X 1:=by rw[e6]
  rw[ht]at j;rw[aa,q,D]at j;cases j;have m:=h6.st 1 oo;rw[aa,q,D]at m;have ag:=m6.f6;have aG:y.1.f≠1:=λe=>m6.ft (e.trans ht.symm);have aF:gp0[y.1.f]? = some gp0[y.1.f]:=gE (by show _<6;exact ag);have eT:tmC y=mgC 1 ((y.1.f:Int)+1) ((1:Nat)+1) y.1.V (.slice y.2.1 y.1.L.length y.2.2) 0 0:=by rw[PV m6.v6,A,k1,t1,n0,a0]
  have ak:y.1.L=[wE]:=by rw[A];exact xL
  have aq:=ap.vr;rw[eT];rw[ak]at aq |-;refine ZV m.1 oo m.2.d.pi m.2.d.hk oB aq (λb o ha=>?_) (λe a=>by rw[mS a];exact ziR) m.2.d.fw oB ag aG m6.v6 m6.vle aF oB (λw' Y' l' F aB _ aT S t' d' aI ep=>?_) λw' l' W' F aH _ _ _ _=>qI rfl aH
  .obtain⟨_,cs,hk⟩:=ap.ev b o ha;exact m.1.rp.ty hk dc
  .have af:=m6.ev;rw[ak]at af;obtain⟨h7,s7⟩:=h6.up oo (aa.trans (q.trans D)) (λ_=>Int.le_refl _) (λ_ _=>rfl) S (m.2.hear af d') t' ep (d:=64) (by show ([]++F).length<=_;simp;omega);rw[W1]at d';have d':DG (pl0 2) wH l' Y'.X.W F:=d';refine aC w' _ 0 ?_ h7 s7;refine⟨rfl,rfl,rfl,_,_,_,rfl,?_⟩;exact zjd d' aI
 .rw[u]at hn;exact(hn ⟨Int.le_refl _,by show (0:Int)<((1:Nat):Int);decide⟩).elim
 .have A:y.1=x:=by
   rw[u]at hy
   have:[xx][0]? = some y:=hy
   rw[<-Option.some.inj this];exact aj
  rw[show y.1.t=1 by rw[A];exact t1,q,D]at O;cases O
 obtain⟨rfl,rfl,aA,aw,Y6,r6,aV,j,aE⟩:=aL;refine h6.alcAn λw7 bd h7 s7 nd zd=>?_;rw[<-aA];refine HA h7 oo (by constructor<;>decide) (λw8 b8 hn=>?_) λw8 i8 Y8 r8 aW st ga gc aX e8 ad aO b8=>?_
 .have:=hn 1 oo rfl
  rw[j]at this;cases this
 obtain rfl:i8=1:=by omega
 rw[j]at ad;cases ad;have ai:=h7.st 1 oo;rw[j]at ai;have E:=ai.2.d.pi;refine bK (bJ (h7.alcSt b8 aO E λw9 bs h9 s9 H zs=>?_));have aR:=s9.blk oL zd;have an:=(s6.trans (s7.sub λ_ h=>h)).trans (s9.sub λ_ h=>oH _ h);have aQ:=an.blk oL zb;have am:=(s4.trans s5).trans (an.sub λ_ h=>oH _ h)
 have ar:=am.blk oL za;have au:=Ee (t:=st) (by rw[H.eI];exact E.i6) (by rw[H.eL];exact E.l6) (by rw[H.eV];exact E.v6);have ae:Below w.heap.size w w9:=b1.trans ((s2.trans (s3.trans (am.sub λ_ h=>by cases h))).bel);refine FG ar λ_=>aU (ck rfl (zdM (pC (lK (v:=u6 1) ar rfl (aU (bR rfl (ck rfl ?_)))))))
 refine FG aQ λ_=>aU (bR rfl (ck rfl (FG aR λ_=>aU (bR rfl (ck rfl (bR rfl (my ?_)))))));refine nP (lK (v:=.slice st.na st.nodes.length st.nc) zs au (bM underlying35 (aU ?_)));rw[show st.nodes.length=1 by rw[H.eN];exact aE];refine dD (ck rfl (zhB h9 ?_));rw[aw];exact aU (bR rfl (h w9 ae))
def zbI{n F o:Int}{L:List S24}{P:List Int}(e:GD S)(z:0<=n/\n<=255)(A:0<=o/\o<=255)(hN:0<=N/\N<=255)(t:0<=x/\x<=65535)(hF:0<=F/\F<=255)(hL:S24R S a m b L)(u:RIn S av pn pc P)(g:∀O,Below S.heap.size S O->K cT O):call Q 3 #[.int .u8 n,.slice a m b,.int .u8 o,.int .u8 N,.int .u16 x,.int .u8 F,.slice av pn pc] K S:=by
 have j:∀{K':KV},(∀O,Below S.heap.size S O->K' cT O)->call Q 5 #[] K' S:=λh=>WK e h;refine ao (goK func3) (GA (zji hL (bH (iQ (dD (iQ (dD (bc (j g))))))) λl=>bH (eK (bM underlying22 (dE (cA ?_))))));by_cases d:(60:Int)<(m:Nat)
 .exact kW d (bR d (bc (j g)))
 refine dL d (bM underlying24 (dE (bG d ?_)));by_cases f:(20:Int)<(pn:Nat)
 .exact aG f (j g)
 refine aB f (dP underlying5 underlying3 ?_);rw[eY oo oo];refine LH z.1 oo (aY oo oo ?_);obtain⟨k,y⟩:∃k:Nat,(1+n%6)=(k:Nat):=⟨(1+n%6).toNat,by omega⟩
 rw[y];refine zbS (n:=k) (B0:=S.heap.size) e e.lt oA oo oo λE c s q B C D r p=>bK (bJ (Ey ?_));refine bo (dL dc (Dx (bG dc (aD ?_))));exact zdp s (by rw[r];decide) A hN t hF hL oo u q oA (λO a w v i => WK w i) g
end
end
section
open Go.ChangeShapes Go.WideShapes Go.ChangeAt
def zdj{x:Addr}(a:x.spot=none)(i:Nat):x.add i=rV (some x) i:=by obtain⟨b,o,s⟩:=x;cases a;simp[Addr.add,rV]
section
variable {H:Type}{enc:TypeId×oF->H}{W:oG}{base:Nat}{held:Bool}

end
end
def gbk(w:oG)(g:Nat)(cs:oE):Prop:=∃E fr,w.heap[g]? = some (.cells cs.toArray E fr)
def fnV(f:FuncId):oF:=.func (.func f) #[] #[]
def Rm{base:Nat}{e:Nat->Bool}{a:Nat}{c d:Array TypeId}{v:oF}{q:List MemPlace}{enc:TypeId×oF->List UInt8}(b:P.underlying t=some (.func c d cx))(h:DataW.trod enc P w base e true a t [v]=some (.nil,q)):v=.nilFunc:=by
 cases a with
 | zero=>simp[DataW.trod]at h
 | succ n=>cases v<;>simp[DataW.trod,b]at h;rfl
def Yz:oE:=[.nilFunc,fnV 292,fnV 293,fnV 294,fnV 295,fnV 296,fnV 297,fnV 298]
set_option maxRecDepth 100000 in
theorem zcj {W:World} {f:List (String × DataW Unit)} (h:laidMetH Q f W) (hm:("leat/ledger.kinds",Rows.laid_leat_ledger_kinds) ∈ f):gbk W 1 Yz:=by
 obtain ⟨g,t,j,k,p,O,ht,i,hd⟩:=h.funcs hm;obtain rfl:=Option.some.inj ((show Tryz.prog.globalNamed "leat/ledger.kinds" = some 1 by kernel_rfl).symm.trans O);obtain rfl:=Option.some.inj ((show (Tryz.prog.globals[1]?).map (·.type)=some 215 by kernel_rfl).symm.trans ht)
 have L:DataW.trod (funcToken Q) Q W 0 (fun _=>true) true k 215 j.toList=some (.agg [.nil,.held [40,42,108,101,97,116,47,108,101,100,103,101,114,46,76,101,100,103,101,114,41,46,109,97,107,101,115],.held [40,42,108,101,97,116,47,108,101,100,103,101,114,46,76,101,100,103,101,114,41,46,114,97,105,115,101,115],.held [40,42,108,101,97,116,47,108,101,100,103,101,114,46,76,101,100,103,101,114,41,46,116,97,107,101,115],.held [40,42,108,101,97,116,47,108,101,100,103,101,114,46,76,101,100,103,101,114,41,46,102,114,101,101,115],.held [40,42,108,101,97,116,47,108,101,100,103,101,114,46,76,101,100,103,101,114,41,46,109,111,118,101,115],.held [40,42,108,101,97,116,47,108,101,100,103,101,114,46,76,101,100,103,101,114,41,46,106,111,105,110,115],.held [40,42,108,101,97,116,47,108,101,100,103,101,114,46,76,101,100,103,101,114,41,46,108,101,97,118,101,115]],p):=hd
 obtain ⟨xs,m,rfl,A,z,hn,d⟩:=DataW.trod_array (n:=8) (e:=214) kr L;have z:j.toList.length=8:=z.trans kr;have Z:Tryz.prog.cellsOf 214=1:=by kernel_rfl
 rw [Z] at d;have A:=(Prod.mk.inj A).1;generalize J:j.toList=l at z d;obtain ⟨o,r,s,u,v,w,x,y,rfl⟩:∃ o r s u v w x y:Value,l=[o,r,s,u,v,w,x,y]:=by
  match l,z with
  | [o,r,s,u,v,w,x,y],_=>exact ⟨_,_,_,_,_,_,_,_,rfl⟩
 obtain ⟨B,C,D,E,F,G,H,I,rfl⟩:∃ B C D E F G H I:DataW (List UInt8) × List MemPlace,xs=[B,C,D,E,F,G,H,I]:=by
  match xs,hn with
  | [B,C,D,E,F,G,H,I],_=>exact ⟨_,_,_,_,_,_,_,_,rfl⟩
 simp only [List.map_cons,List.map_nil,DataW.agg.injEq,List.cons.injEq,and_true] at A;obtain ⟨y0,y1,y2,y3,y4,y5,y6,y7⟩:=A;obtain ⟨d0,q0⟩:=B;cases y0;have P:DataW.trod (funcToken Q) Q W 0 (fun _=>true) true m 214 [o]=some (_,q0):=d 0 oo;obtain rfl:=Rm underlying214 P;obtain ⟨d1,q1⟩:=C;cases y1
 have R:DataW.trod (funcToken Q) Q W 0 (fun _=>true) true m 214 [r]=some (_,q1):=d 1 oo;obtain rfl:=func_of_trod (f0:=292) underlying214 kr R;obtain ⟨d2,q2⟩:=D;cases y2;have S:DataW.trod (funcToken Q) Q W 0 (fun _=>true) true m 214 [s]=some (_,q2):=d 2 oo;obtain rfl:=func_of_trod (f0:=293) underlying214 kr S;obtain ⟨d3,q3⟩:=E;cases y3
 have T:DataW.trod (funcToken Q) Q W 0 (fun _=>true) true m 214 [u]=some (_,q3):=d 3 oo;obtain rfl:=func_of_trod (f0:=294) underlying214 kr T;obtain ⟨d4,q4⟩:=F;cases y4;have U:DataW.trod (funcToken Q) Q W 0 (fun _=>true) true m 214 [v]=some (_,q4):=d 4 oo;obtain rfl:=func_of_trod (f0:=295) underlying214 kr U;obtain ⟨d5,q5⟩:=G;cases y5
 have V:DataW.trod (funcToken Q) Q W 0 (fun _=>true) true m 214 [w]=some (_,q5):=d 5 oo;obtain rfl:=func_of_trod (f0:=296) underlying214 kr V;obtain ⟨d6,q6⟩:=H;cases y6;have X:DataW.trod (funcToken Q) Q W 0 (fun _=>true) true m 214 [x]=some (_,q6):=d 6 oo;obtain rfl:=func_of_trod (f0:=297) underlying214 kr X;obtain ⟨d7,q7⟩:=I;cases y7
 have Y:DataW.trod (funcToken Q) Q W 0 (fun _=>true) true m 214 [y]=some (_,q7):=d 7 oo;obtain rfl:=func_of_trod (f0:=298) underlying214 kr Y;obtain ⟨N,M⟩:∃ q:TypeId × (Nat × Nat),W.heap[1]? = some (.cells j q.1 q.2):=by
  unfold World.var? at i;rw [O] at i;simp only [Option.bind_some] at i;split at i
  ·rename_i a b c hh; cases i; exact ⟨(b,c),hh⟩
  ·cases i
 exact ⟨N.1,N.2,by rw [M, ← Array.toArray_toList (xs:=j),J]; rfl⟩
def mn{base:Nat}{e:Nat->Bool}{c:Nat}{f0 f1:Field}{a b:oF}{x y:DataW (List UInt8)}{q:List MemPlace}{enc:TypeId×oF->List UInt8}(i:P.underlying t=some (.struct #[f0,f1]))(j:f0.offset=0)(c0:P.cellsOf f0.type=1)(k:f1.offset=1)(c1:P.cellsOf f1.type=1)(h:DataW.trod enc P w base e true c t [a,b]=some (.agg [x,y],q)):∃n l q1,DataW.trod enc P w base e true n f0.type [a]=some (x,l)/\DataW.trod enc P w base e true n f1.type [b]=some (y,q1):=by obtain⟨m,o,n,d,_,f,g⟩:=Go.ChangeShapes.trod_struct2 i h;rw[j,c0]at f;rw[k,c1]at g;have d:=(Prod.mk.inj d).1;simp only[DataW.agg.injEq,List.cons.injEq,and_true]at d;obtain⟨rfl,rfl⟩:=d;exact⟨n,m.2,o.2,by simpa using f,by simpa using g⟩
def jp{base:Nat}{d:Nat->Bool}{a:Nat}{b:Bool}{v:oF}{q:List MemPlace}{enc:TypeId×oF->List UInt8}(c:P.underlying t=some .bool)(h:DataW.trod enc P w base d true a t [v]=some (.lit (.bool b),q)):v=.bool b:=by
 cases a with
 | zero=>simp[DataW.trod]at h
 | succ n=>cases v<;>simp[DataW.trod,c]at h;rw[h.1]
def V9:oE:=[.nilFunc,.bool false,fnV 161,.bool false,fnV 162,.bool false,fnV 163,.bool true,fnV 164,.bool true,fnV 165,.bool true,fnV 166,.bool true,fnV 167,.bool false,fnV 168,.bool true,fnV 169,.bool false,fnV 170,.bool false,fnV 171,.bool false,fnV 172,.bool false]
set_option maxRecDepth 100000 in
theorem zaV {W:World} {G:List (String × DataW Unit)} (h:laidMetH Q G W) (hm:("leat/cluster.doings",Rows.laid_leat_cluster_doings) ∈ G):gbk W 0 V9:=by
 obtain ⟨g,t,I,J,p,hg,ht,H,hd⟩:=h.funcs hm;obtain rfl:=Option.some.inj ((show Tryz.prog.globalNamed "leat/cluster.doings" = some 0 by kernel_rfl).symm.trans hg);obtain rfl:=Option.some.inj ((show (Tryz.prog.globals[0]?).map (·.type)=some 82 by kernel_rfl).symm.trans ht)
 have ak:DataW.trod (funcToken Q) Q W 0 (fun _=>true) true J 82 I.toList=some (.agg [.agg [.nil,.lit (.bool false)],.agg [.held [40,42,108,101,97,116,47,99,108,117,115,116,101,114,46,67,108,117,115,116,101,114,41,46,97,115,107],.lit (.bool false)],.agg [.held [40,42,108,101,97,116,47,99,108,117,115,116,101,114,46,67,108,117,115,116,101,114,41,46,116,105,99,107],.lit (.bool false)],.agg [.held [40,42,108,101,97,116,47,99,108,117,115,116,101,114,46,67,108,117,115,116,101,114,41,46,116,105,109,101],.lit (.bool true)],.agg [.held [40,42,108,101,97,116,47,99,108,117,115,116,101,114,46,67,108,117,115,116,101,114,41,46,100,101,108,105,118,101,114],.lit (.bool true)],.agg [.held [40,42,108,101,97,116,47,99,108,117,115,116,101,114,46,67,108,117,115,116,101,114,41,46,100,114,111,112],.lit (.bool true)],.agg [.held [40,42,108,101,97,116,47,99,108,117,115,116,101,114,46,67,108,117,115,116,101,114,41,46,116,119,105,99,101],.lit (.bool true)],.agg [.held [40,42,108,101,97,116,47,99,108,117,115,116,101,114,46,67,108,117,115,116,101,114,41,46,99,117,116],.lit (.bool false)],.agg [.held [40,42,108,101,97,116,47,99,108,117,115,116,101,114,46,67,108,117,115,116,101,114,41,46,104,101,97,108],.lit (.bool true)],.agg [.held [40,42,108,101,97,116,47,99,108,117,115,116,101,114,46,67,108,117,115,116,101,114,41,46,102,117,115,101],.lit (.bool false)],.agg [.held [40,42,108,101,97,116,47,99,108,117,115,116,101,114,46,67,108,117,115,116,101,114,41,46,111,102,102],.lit (.bool false)],.agg [.held [40,42,108,101,97,116,47,99,108,117,115,116,101,114,46,67,108,117,115,116,101,114,41,46,111,110],.lit (.bool false)],.agg [.held [40,42,108,101,97,116,47,99,108,117,115,116,101,114,46,67,108,117,115,116,101,114,41,46,108,101,97,118,101],.lit (.bool false)]],p):=hd
 obtain ⟨xs,m,rfl,Y,X,hn,d⟩:=DataW.trod_array (n:=13) (e:=81) kr ak;have X:I.toList.length=26:=X.trans kr;have hc:Tryz.prog.cellsOf 81=2:=by kernel_rfl
 rw [hc] at d;have Y:=(Prod.mk.inj Y).1;generalize aj:I.toList=l at X d;obtain ⟨L,M,N,O,P,R,S,T,U,V,f,i,j,k,o,r,s,u,v,w,x,y,z,A,B,C,rfl⟩:∃ L M N O P R S T U V f i j k o r s u v w x y z A B C:Value,l=[L,M,N,O,P,R,S,T,U,V,f,i,j,k,o,r,s,u,v,w,x,y,z,A,B,C]:=by
  match l,X with
  | [L,M,N,O,P,R,S,T,U,V,f,i,j,k,o,r,s,u,v,w,x,y,z,A,B,C],_=>exact ⟨_,_,_,_,_,_,_,_,_,_,_,_,_,_,_,_,_,_,_,_,_,_,_,_,_,_,rfl⟩
 obtain ⟨Z,x1,x2,x3,x4,x5,x6,x7,x8,x9,D,E,F,rfl⟩:∃ Z x1 x2 x3 x4 x5 x6 x7 x8 x9 D E F:DataW (List UInt8) × List MemPlace,xs=[Z,x1,x2,x3,x4,x5,x6,x7,x8,x9,D,E,F]:=by
  match xs,hn with
  | [Z,x1,x2,x3,x4,x5,x6,x7,x8,x9,D,E,F],_=>exact ⟨_,_,_,_,_,_,_,_,_,_,_,_,_,rfl⟩
 simp only [List.map_cons,List.map_nil,DataW.agg.injEq,List.cons.injEq,and_true] at Y;obtain ⟨y0,y1,y2,y3,y4,y5,y6,y7,y8,y9,ap,aq,ar⟩:=Y;obtain ⟨d0,q0⟩:=Z;cases y0;have e0:DataW.trod (funcToken Q) Q W 0 (fun _=>true) true m 81 [L,M]=some (.agg [.nil,.lit (.bool false)],q0):=d 0 oo;obtain ⟨n0,u0,v0,a0,b0⟩:=mn underlying81 rfl kr rfl kr e0
 obtain rfl:=Rm underlying79 a0;obtain rfl:=jp underlying4 b0;obtain ⟨d1,q1⟩:=x1;cases y1;have e1:DataW.trod (funcToken Q) Q W 0 (fun _=>true) true m 81 [N,O]=some (.agg [.held [40,42,108,101,97,116,47,99,108,117,115,116,101,114,46,67,108,117,115,116,101,114,41,46,97,115,107],.lit (.bool false)],q1):=d 1 oo
 obtain ⟨n1,u1,v1,a1,b1⟩:=mn underlying81 rfl kr rfl kr e1;obtain rfl:=func_of_trod (f0:=161) underlying79 kr a1;obtain rfl:=jp underlying4 b1;obtain ⟨d2,q2⟩:=x2;cases y2
 have e2:DataW.trod (funcToken Q) Q W 0 (fun _=>true) true m 81 [P,R]=some (.agg [.held [40,42,108,101,97,116,47,99,108,117,115,116,101,114,46,67,108,117,115,116,101,114,41,46,116,105,99,107],.lit (.bool false)],q2):=d 2 oo;obtain ⟨n2,u2,v2,a2,b2⟩:=mn underlying81 rfl kr rfl kr e2;obtain rfl:=func_of_trod (f0:=162) underlying79 kr a2
 obtain rfl:=jp underlying4 b2;obtain ⟨d3,q3⟩:=x3;cases y3;have e3:DataW.trod (funcToken Q) Q W 0 (fun _=>true) true m 81 [S,T]=some (.agg [.held [40,42,108,101,97,116,47,99,108,117,115,116,101,114,46,67,108,117,115,116,101,114,41,46,116,105,109,101],.lit (.bool true)],q3):=d 3 oo;obtain ⟨n3,u3,v3,a3,b3⟩:=mn underlying81 rfl kr rfl kr e3
 obtain rfl:=func_of_trod (f0:=163) underlying79 kr a3;obtain rfl:=jp underlying4 b3;obtain ⟨d4,q4⟩:=x4;cases y4;have e4:DataW.trod (funcToken Q) Q W 0 (fun _=>true) true m 81 [U,V]=some (.agg [.held [40,42,108,101,97,116,47,99,108,117,115,116,101,114,46,67,108,117,115,116,101,114,41,46,100,101,108,105,118,101,114],.lit (.bool true)],q4):=d 4 oo
 obtain ⟨n4,u4,v4,a4,b4⟩:=mn underlying81 rfl kr rfl kr e4;obtain rfl:=func_of_trod (f0:=164) underlying79 kr a4;obtain rfl:=jp underlying4 b4;obtain ⟨d5,q5⟩:=x5;cases y5
 have e5:DataW.trod (funcToken Q) Q W 0 (fun _=>true) true m 81 [f,i]=some (.agg [.held [40,42,108,101,97,116,47,99,108,117,115,116,101,114,46,67,108,117,115,116,101,114,41,46,100,114,111,112],.lit (.bool true)],q5):=d 5 oo;obtain ⟨n5,u5,v5,a5,b5⟩:=mn underlying81 rfl kr rfl kr e5;obtain rfl:=func_of_trod (f0:=165) underlying79 kr a5
 obtain rfl:=jp underlying4 b5;obtain ⟨d6,q6⟩:=x6;cases y6;have e6:DataW.trod (funcToken Q) Q W 0 (fun _=>true) true m 81 [j,k]=some (.agg [.held [40,42,108,101,97,116,47,99,108,117,115,116,101,114,46,67,108,117,115,116,101,114,41,46,116,119,105,99,101],.lit (.bool true)],q6):=d 6 oo;obtain ⟨n6,u6,v6,a6,b6⟩:=mn underlying81 rfl kr rfl kr e6
 obtain rfl:=func_of_trod (f0:=166) underlying79 kr a6;obtain rfl:=jp underlying4 b6;obtain ⟨d7,q7⟩:=x7;cases y7;have e7:DataW.trod (funcToken Q) Q W 0 (fun _=>true) true m 81 [o,r]=some (.agg [.held [40,42,108,101,97,116,47,99,108,117,115,116,101,114,46,67,108,117,115,116,101,114,41,46,99,117,116],.lit (.bool false)],q7):=d 7 oo
 obtain ⟨n7,u7,v7,a7,b7⟩:=mn underlying81 rfl kr rfl kr e7;obtain rfl:=func_of_trod (f0:=167) underlying79 kr a7;obtain rfl:=jp underlying4 b7;obtain ⟨d8,q8⟩:=x8;cases y8
 have e8:DataW.trod (funcToken Q) Q W 0 (fun _=>true) true m 81 [s,u]=some (.agg [.held [40,42,108,101,97,116,47,99,108,117,115,116,101,114,46,67,108,117,115,116,101,114,41,46,104,101,97,108],.lit (.bool true)],q8):=d 8 oo;obtain ⟨n8,u8,v8,a8,b8⟩:=mn underlying81 rfl kr rfl kr e8;obtain rfl:=func_of_trod (f0:=168) underlying79 kr a8
 obtain rfl:=jp underlying4 b8;obtain ⟨d9,q9⟩:=x9;cases y9;have e9:DataW.trod (funcToken Q) Q W 0 (fun _=>true) true m 81 [v,w]=some (.agg [.held [40,42,108,101,97,116,47,99,108,117,115,116,101,114,46,67,108,117,115,116,101,114,41,46,102,117,115,101],.lit (.bool false)],q9):=d 9 oo;obtain ⟨n9,u9,v9,a9,b9⟩:=mn underlying81 rfl kr rfl kr e9
 obtain rfl:=func_of_trod (f0:=169) underlying79 kr a9;obtain rfl:=jp underlying4 b9;obtain ⟨au,am⟩:=D;cases ap;have ag:DataW.trod (funcToken Q) Q W 0 (fun _=>true) true m 81 [x,y]=some (.agg [.held [40,42,108,101,97,116,47,99,108,117,115,116,101,114,46,67,108,117,115,116,101,114,41,46,111,102,102],.lit (.bool false)],am):=d 10 oo
 obtain ⟨ax,aA,aD,aa,ad⟩:=mn underlying81 rfl kr rfl kr ag;obtain rfl:=func_of_trod (f0:=170) underlying79 kr aa;obtain rfl:=jp underlying4 ad;obtain ⟨av,an⟩:=E;cases aq
 have ah:DataW.trod (funcToken Q) Q W 0 (fun _=>true) true m 81 [z,A]=some (.agg [.held [40,42,108,101,97,116,47,99,108,117,115,116,101,114,46,67,108,117,115,116,101,114,41,46,111,110],.lit (.bool false)],an):=d 11 oo;obtain ⟨ay,aB,aE,ab,ae⟩:=mn underlying81 rfl kr rfl kr ah;obtain rfl:=func_of_trod (f0:=171) underlying79 kr ab
 obtain rfl:=jp underlying4 ae;obtain ⟨aw,ao⟩:=F;cases ar;have ai:DataW.trod (funcToken Q) Q W 0 (fun _=>true) true m 81 [B,C]=some (.agg [.held [40,42,108,101,97,116,47,99,108,117,115,116,101,114,46,67,108,117,115,116,101,114,41,46,108,101,97,118,101],.lit (.bool false)],ao):=d 12 oo;obtain ⟨az,aC,aF,ac,af⟩:=mn underlying81 rfl kr rfl kr ai
 obtain rfl:=func_of_trod (f0:=172) underlying79 kr ac;obtain rfl:=jp underlying4 af;obtain ⟨fr,al⟩:∃ q:TypeId × (Nat × Nat),W.heap[0]? = some (.cells I q.1 q.2):=by
  unfold World.var? at H;rw [hg] at H;simp only [Option.bind_some] at H;split at H
  ·rename_i a b c hh; cases H; exact ⟨(b,c),hh⟩
  ·cases H
 exact ⟨fr.1,fr.2,by rw [al, ← Array.toArray_toList (xs:=I),aj]; rfl⟩
def rlG(g:Nat):Option (Nat×oE):=match Nat.beq g 1 with|true=>some (0,Yz)|false=>match Nat.beq g 0 with|true=>some (0,V9)|false=>none
def Rq{W:oG}{K:KV}(n:Int)(k:0<=n/\n<=255)(a:Option Addr)(m c:Nat)(L:List S24)(hL:S24R W a m c L)(_:m<=c)(_:c<=9223372036854775807)(o:Int)(l:0<=o/\o<=255)(nd:Int)(hN:0<=nd/\nd<=255)(b:Int)(i:0<=b/\b<=65535)(fu:Int)(hF:0<=fu/\fu<=255)(f:Option Addr)(pn pc:Nat)(P:List Int)(j:RIn W f pn pc P)(_:pn<=pc)(_:pc<=9223372036854775807)(d:∀g e cs,rlG g=some (e,cs)->gbk W g cs)(h:∀S,Below W.heap.size W S->K (.bool true) S):call Q 3 #[.int .u8 n,.slice a m c,.int .u8 o,.int .u8 nd,.int .u16 b,.int .u8 fu,.slice f pn pc] K W :=
 zbI ⟨d 1 0 Yz rfl,d 0 0 V9 rfl⟩ k l hN i hF hL j h
def zaX:ownKnob Tryz.prog.godebug=none:=by kernel_rfl
def Rk:laidOutB Q=true:=by kernel_rfl
section
open Go.ChangeShapes Go.WideShapes Go.ChangeAt Go.Deep
section
variable {H:Type}{enc:TypeId×oF->H}{W:oG}{base:Nat}{held:Bool}
def Zh(h:(Lit.int .u8 x).wf=true):0<=x/\x<=255:=by simpa[Lit.wf,IntKind.min,IntKind.max,IntKind.signed,IntKind.bits]using h
end
def Hi(h:(Lit.int .i64 x).wf=true):FE x:=by simpa[FE,Lit.wf,IntKind.min,IntKind.max,IntKind.signed,IntKind.bits]using h
def We(h:(Lit.int .u64 x).wf=true):0<=x/\x<=18446744073709551615:=by simpa[Lit.wf,IntKind.min,IntKind.max,IntKind.signed,IntKind.bits]using h
section
variable {H:Type}{enc:TypeId×oF->H}{W:oG}{base:Nat}{held:Bool}
def zbp{x:Addr}{d:Nat}{g:List Int}(m:c<=d)(n:g.length=d)(a:∀i,i<g.length->w.cell? (x.add i)=some (ci (g.getD i 0))):RIn w (some x) c d (g.take c):=by
 have f:0<c->x.spot=none:=by
  intro j
  have:=World.cell?_spot (a 0 oo)
  simpa[Addr.add]using this
 refine⟨by simp;omega,m,λj=>⟨x.block,x.off,by have:=f j;obtain⟨b,o,s⟩:=x;cases this;rfl⟩,(λk=>by cases k),λi v h=>?_⟩;have l:i<c:=by
  have:=(gS h).1
  simp at this;omega
 rw[<-zdj (f oo),a i oo];have e:i<g.length:=by omega
 rw[qC,jN l,gE e]at h;simp only[jP,qD]at h;rw[<-h];simp[List.getD,e]
def Uy{e:Nat}{cs:oE}{n:Nat}{x:DataW H×List MemPlace}(f:cs=[.slice a n c])(h:DataW.trod enc Q W base (λ_=>true) held e 24 cs=some x):(∃l,RIn W a n c l)/\n<=c/\c<=9223372036854775807:=by
 rcases open_ints underlying24 underlying3 kr h with⟨b,_⟩|⟨x,l,c,m,b,_,g,i,k,_,d,j⟩
 .rw[f]at b;simp only[List.cons.injEq,Value.slice.injEq,and_true]at b;obtain⟨rfl,rfl,rfl⟩:=b;exact⟨⟨[],RV.nil W⟩,by omega,by omega⟩
 .rw[f]at b;simp only[List.cons.injEq,Value.slice.injEq,and_true]at b;obtain⟨rfl,rfl,rfl⟩:=b;exact⟨⟨_,zbp g (by simpa using k) d⟩,g,by simpa[maxLen]using i⟩
def zcx{i:Nat}{cs:oE}{x:DataW H×List MemPlace}(h:DataW.trod enc Q W base (λ_=>true) held i 44 cs=some x):∃s a c,cs=stC s (.slice a s.picks.length c)/\STW s/\STI s/\RIn W a s.picks.length c s.picks/\s.picks.length<=c/\c<=9223372036854775807:=by
 obtain⟨O,n,rfl,rfl,j,u,d⟩:=DataW.trod_struct underlying44 h;have k:cs.length=12:=by rw[j];kernel_rfl
 match cs,k with
 | [c0,c1,c2,c3,c4,c5,c6,c7,c8,c9,c10,c11],_ =>
  have t:O.length=7:=u
  match O,t with
  | [x0,x1,x2,x3,x4,x5,x6],_ =>
   have Y:DataW.trod enc Q W base (λ_=>true) held n 5 [c0]=some x0:=Eq.mp kr (d 0 _ rfl);have Z:DataW.trod enc Q W base (λ_=>true) held n 3 [c1]=some x1:=Eq.mp kr (d 1 _ rfl);have h2:DataW.trod enc Q W base (λ_=>true) held n 42 [c2,c3,c4,c5,c6,c7]=some x2:=Eq.mp kr (d 2 _ rfl)
   have h3:DataW.trod enc Q W base (λ_=>true) held n 3 [c8]=some x3:=Eq.mp kr (d 3 _ rfl);have h4:DataW.trod enc Q W base (λ_=>true) held n 3 [c9]=some x4:=Eq.mp kr (d 4 _ rfl);have h5:DataW.trod enc Q W base (λ_=>true) held n 3 [c10]=some x5:=Eq.mp kr (d 5 _ rfl)
   have M:DataW.trod enc Q W base (λ_=>true) held n 24 [c11]=some x6:=Eq.mp kr (d 6 _ rfl);obtain⟨z0,y,_,w0⟩:=DataW.trod_int underlying5 Y;obtain⟨z1,A,_,w1⟩:=DataW.trod_int underlying3 Z;obtain⟨z3,B,_,w3⟩:=DataW.trod_int underlying3 h3;obtain⟨z4,C,_,w4⟩:=DataW.trod_int underlying3 h4;obtain⟨z5,D,_,w5⟩:=DataW.trod_int underlying3 h5
   obtain⟨P,f,rfl,rfl,p,w,e⟩:=DataW.trod_struct underlying42 h2;have v:P.length=6:=w
   match P,v with
   | [y0,y1,y2,y3,y4,y5],_ =>
    have R:DataW.trod enc Q W base (λ_=>true) held f 5 [c2]=some y0:=Eq.mp kr (e 0 _ rfl);have S:DataW.trod enc Q W base (λ_=>true) held f 32 [c3]=some y1:=Eq.mp kr (e 1 _ rfl);have T:DataW.trod enc Q W base (λ_=>true) held f 3 [c4]=some y2:=Eq.mp kr (e 2 _ rfl)
    have U:DataW.trod enc Q W base (λ_=>true) held f 2 [c5]=some y3:=Eq.mp kr (e 3 _ rfl);have V:DataW.trod enc Q W base (λ_=>true) held f 32 [c6]=some y4:=Eq.mp kr (e 4 _ rfl);have X:DataW.trod enc Q W base (λ_=>true) held f 32 [c7]=some y5:=Eq.mp kr (e 5 _ rfl);obtain⟨v0,E,_,r0⟩:=DataW.trod_int underlying5 R
    obtain⟨v1,F,_,r1⟩:=DataW.trod_int underlying32 S;obtain⟨v2,G,_,r2⟩:=DataW.trod_int underlying3 T;obtain⟨v3,I,_,r3⟩:=DataW.trod_int underlying2 U;obtain⟨v4,J,_,r4⟩:=DataW.trod_int underlying32 V;obtain⟨v5,L,_,r5⟩:=DataW.trod_int underlying32 X;obtain⟨a,m,c,g⟩:∃a m c,c11=.slice a m c:=by
     rcases open_ints underlying24 underlying3 kr M with⟨b,_⟩|⟨x,l,c,zs,b,_⟩
     .simp only[List.cons.injEq,and_true]at b;exact⟨_,_,_,b⟩
     .simp only[List.cons.injEq,and_true]at b;exact⟨_,_,_,b⟩
    obtain⟨⟨l,N⟩,o,r⟩:=Uy (qH (λz=>[z]) g) M;simp only[List.cons.injEq,and_true]at y A B C D E F G I J L;subst y A B C D E F G I J L g;have q:l.length=m:=by simpa using N.len
    subst q;exact⟨⟨z0,z1,v0,v1,v2,v3,v4,v5,z3,z4,z5,l⟩,a,c,rfl,⟨Zh w0,Zh r0,We r1,We r4,We r5⟩,⟨Hi w1,Hi r2,Hi r3,Hi w3,Hi w4,Hi w5⟩,N,o,r⟩
def zeD{b:Nat}{cs:oE}{x:DataW H×List MemPlace}(h:DataW.trod enc Q W base (λ_=>true) held b 46 cs=some x):∃y:S24,cs=PN y/\YP W y:=by
 obtain⟨l,n,rfl,rfl,d,i,f⟩:=DataW.trod_struct underlying46 h;have e:cs.length=14:=by rw[d];kernel_rfl
 match cs,e with
 | [c0,c1,c2,c3,c4,c5,c6,c7,c8,c9,c10,c11,c12,c13],_ =>
  have g:l.length=3:=i
  match l,g with
  | [x0,x1,x2],_ =>
   have q:DataW.trod enc Q W base (λ_=>true) held n 44 [c0,c1,c2,c3,c4,c5,c6,c7,c8,c9,c10,c11]=some x0:=Eq.mp kr (f 0 _ rfl);have r:DataW.trod enc Q W base (λ_=>true) held n 4 [c12]=some x1:=Eq.mp kr (f 1 _ rfl);have t:DataW.trod enc Q W base (λ_=>true) held n 5 [c13]=some x2:=Eq.mp kr (f 2 _ rfl);obtain⟨s,a,c,p,u,v,w,z,A⟩:=zcx q
   obtain⟨m,j,_⟩:=DataW.trod_bool underlying4 r;obtain⟨o,k,_,B⟩:=DataW.trod_int underlying5 t;refine⟨⟨s,m,o,a,c⟩,?_,u,v,w,z,A,Zh B⟩;show _=stC s (.slice a s.picks.length c)++[.bool m,.int .u8 o]
   rw[<-p];simp only[List.cons.injEq,and_true]at j k;rw[j,k];rfl
def ZC{r:Nat}{cs:oE}{n:Nat}{x:DataW H×List MemPlace}(J:cs=[.slice a n c])(U:DataW.trod enc Q W base (λ_=>true) held r 22 cs=some x):(∃L,S24R W a n c L)/\n<=c/\c<=9223372036854775807:=by
 obtain⟨d,p⟩:=x;rcases open_slice underlying22 U with⟨e,_⟩|⟨g,Z,N,m,k,D,Pl,e,T,X,Y,y,A,t⟩
 .rw[J]at e;simp only[List.cons.injEq,Value.slice.injEq,and_true]at e;obtain⟨rfl,rfl,rfl⟩:=e;exact⟨⟨[],rfl,λh=>by omega,λi s h=>by simp at h,λx A=>by cases A⟩,by omega,by omega⟩
 .rw[J]at e;simp only[List.cons.injEq,Value.slice.injEq,and_true]at e;obtain⟨rfl,rfl,rfl⟩:=e;simp only[if_true]at y;subst y;refine⟨?_,X,by simpa[maxLen]using Y⟩;have R:Tryz.prog.cellsOf 46=14:=by kernel_rfl
  have l:∀i,i<n->∃q:S24,YP W q/\∀j u,(PN q)[j]? = some u->W.cell? ((g.add (i*14)).add j)=some u:=by
   intro i w;obtain⟨O,v,G⟩:=t i oo;rw[R]at v;obtain⟨_,M,f⟩:=World.cells?_some v;obtain⟨s,rfl,P⟩:=zeD G;refine⟨s,P,λj u z=>?_⟩;have V:j<14:=(gS z).1;rw[f j V];exact z
  haveI:Inhabited S24:=⟨⟨⟨0,0,0,0,0,0,0,0,0,0,0,[]⟩,false,0,none,0⟩⟩
  obtain⟨Q,C⟩:=choose_lt l;have F:0<n->g.spot=none:=by
   intro B;obtain⟨_,I⟩:=C 0 B
   have:=World.cell?_spot (I 0 _ rfl)
   exact this
  refine⟨(List.range n).map Q,by simp,λB=>⟨g.block,g.off,by have:=F B;obtain⟨b,o,s⟩:=g;cases this;rfl⟩,λi s E b o S j u z=>?_,λx A=>?_⟩
  .have w:i<n:=by have:=(gS E).1;simpa using this
   simp only[qC,List.getElem?_range w,jP,qD]at E;subst E;obtain⟨q1,q4⟩:=C i w;cases S
   have:=q4 j u z
   rw[yZ,yZ]at this;exact this
  .obtain⟨i,w,rfl⟩:=qT.1 A;exact(C i (jQ.1 w)).1
end
end
end
end Go.Proofs.YtgohpbmmcgenpaaGreatDoor
