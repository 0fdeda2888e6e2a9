import Derived.Test.YtgohpbmmcgenpaaGreatDoorQ1
import Derived.Test.YtgohpbmmcgenpaaGreatDoorQ2
namespace Go.Proofs.YtgohpbmmcgenpaaGreatDoor
set_option maxRecDepth 100000
set_option linter.defProp false
set_option maxHeartbeats 4000000
open Go.Proofs.Tryz
open Go.RowKit
variable {w w' w2 S O:oG}{zf:Nat->oF}{b c o i g m s j z f d D:Nat}{a av a2:Option Addr}{x v r N:Int}{E t e:TypeId}{A:List Int}{B1:KE}{P:Program}{α κ:Type}{T:List (Int×Int)}{Z1 N2 O2 P2 Q2 R2 T2 U2 V2 X2 H Z U Y J C:oF}
section
open Go.ChangeMaps
structure Ch(F:List Nat) (w w':oG):Prop where
 os:w'.os=w.os
 tape:w'.tape=w.tape
 output:w'.output=w.output
 size:w.heap.size<=w'.heap.size
 block:∀k,k<w.heap.size->k∉F->w'.heap[k]? = w.heap[k]?
section
variable {F G:List Nat}{a b c:oG}
def Ch.refl(F:List Nat)(w:oG):Ch F w w:=⟨rfl,rfl,rfl,Nat.le_refl _,λ_ _ _=>rfl⟩
def Ch.of_below(h:Below w.heap.size w S):Ch F w S:=⟨h.os,h.tape,h.output,h.size,λk a _=>h.block k a⟩
theorem Ch.of_oth {b : Nat} (h : Oth b w w') (hb : b ∈ F) : Ch F w w' := ⟨h.os, h.tape, h.output, by rw [h.size]; exact Nat.le_refl _, fun k _ hk => h.other k (by rintro rfl; exact hk hb)⟩
def Ch.trans(h:Ch F a b)(k:Ch G b c)(hG:∀x∈G,x∈F\/a.heap.size<=x):Ch F a c :=
 ⟨k.os.trans h.os,k.tape.trans h.tape,k.output.trans h.output,qR h.size k.size,λx e d=>by
  rw[k.block x (qQ e h.size) (λf=>(hG x f).elim d (λh=>by omega)),h.block x e d]⟩
def Ch.mono(h:Ch F w S)(hG:∀x∈F,x∈G):Ch G w S:=⟨h.os,h.tape,h.output,h.size,λk b c=>h.block k b λa=>c (hG k a)⟩
def Ch.below{B:Nat}(h:Ch F w S)(hF:∀x∈F,B<=x)(b:B<=w.heap.size):Below B w S:=⟨h.os,h.tape,h.output,h.size,λk c=>h.block k oo (λa=>by have:=hF k a;omega)⟩
def blk.ch{k:Nat}{cs:oE}(h:blk w k E cs)(b:Ch F w S)(c:k∉F):blk S k E cs:=by have a:=h.lt;unfold Go.Proofs.YtgohpbmmcgenpaaGreatDoor.blk at *; rw[b.block k a c];exact h
def MB.ch{kv:κ->oF}{vv:α->oF}{k:Nat}{m:List (κ×α)}(h:MB kv vv w k m)(a:Ch F w S)(b:k∉F):MB kv vv S k m:=h.kept (a.block k h.lt b)
end
end
section
attribute [local irreducible] bin un conv call bS blt slc aq fld bv idx lkp fJ nl eSt rng nxt ent ext alc box bld cH ld sto bj fK mkS ifc pick rdy wts aT sti cond bA Gives aj iK kH cOp
section
open Go.ChangeMaps
def insA_perm{L:List α}{z:α}:(vJ L i z).Perm (L++[z]):=by unfold vJ;refine(List.perm_middle).trans ?_;rw[List.take_append_drop];exact(List.perm_append_singleton z L).symm
section
variable  {K:KV}{t tp:Nat}  {id par:Int}
theorem UI {rk : Int → Nat} (hk : TK T rk) (ht : TreeM w t tp T) (hn : T.length ≤ 1000)
    (h : ∀ w', TreeM w' t tp (nN T id par).1 → Ch [tp] w w' → K (.int .i64 (nN T id par).2) w') : call Tryz.prog 302 #[pB t, u6 id, u6 par] K w := by
  have ok : ∀ {w' : World} (v : Int), nN T id par = (T, v) → Below w.heap.size w w' → K (.int .i64 v) w' := fun {w'} v e b => by
    have := h w' (by rw [e]; exact ht.below b) (Ch.of_below b)
    rw [e] at this; exact this
  have b0 := Below.refl w.heap.size w
  refine ao (goK Tryz.func302) (SU (Vf (aD (aU ?_))))
  by_cases i0 : id = 0
  · exact aG i0 (ok 1 (by unfold nN; rw [if_pos i0]) b0)
  refine aB i0 (UJ ht ?_)
  cases hq : eh T id with
  | true => exact bc (ok 14 (by unfold nN; rw [if_neg i0, if_pos hq]) b0)
  | false =>
  have hq' : ¬ eh T id = true := by rw [hq]; simp
  refine aD (bo ?_)
  have e9 : ∀ hp : par ≠ 0 ∧ eh T par = false, nN T id par = (T, 9) := fun hp => by unfold nN; rw [if_neg i0, if_neg hq', if_pos hp]
  have tail : ¬ (par ≠ 0 ∧ eh T par = false) → ∀ {t0 id1 bD t26 : Value} {zf : Nat → Value}, t0 = pB t → id1 = u6 id → bD = u6 par → t26 = .bool (decide (32 ≤ (T.length : Int))) → tK K ((iP t0 id1 bD t26 zf)) w := by
    intro hp t0 id1 bD t26 zf q0 q1 q2 q4
    subst q0 q1 q2 q4
    refine PX ?_
    have e6 : 32 ≤ T.length ∨ 4 ≤ (fy T par).length → nN T id par = (T, 6) := fun hh => by unfold nN; rw [if_neg i0, if_neg hq', if_neg hp, if_pos hh]
    by_cases h32 : 32 ≤ (T.length : Int)
    · exact aG h32 (Fu (aG h32 (ok 6 (e6 (.inl (by omega))) b0)))
    refine aB h32 (Qs hk ht hn fun w1 a c ho b1 => bM Tryz.underlying172 (cJ (Fu ?_)))
    by_cases h4 : ((fy T par).length : Int) ≥ 4
    · exact aG h4 (ok 6 (e6 (.inr (by omega))) b1)
    refine aB h4 (PZ ?_)
    have ht1 := ht.below b1
    obtain ⟨m, hm, hpm⟩ := ht1.mp
    refine au (DP (ld1 (v := .map (some tp)) (fun _ => by kernel_rfl) ht1.bt rfl (vK u6K Tryz.underlying135 hm fun w2 hm2 o2 => ?_)))
    have e0 : nN T id par = (vJ T (Vu (fun x => decide (id < x.1)) T T.length) (id, par), 0) := by unfold nN; rw [if_neg i0, if_neg hq', if_neg hp, if_neg (by omega)]
    have hnone : dZ m id = none := by rw [pQ hpm ht.uq, Lw ht.uq, hq]
    rw [yN hnone] at hm2
    have hP : (m ++ [(id, par)]).Perm (nN T id par).1 := by rw [e0]; exact (hpm.append_right _).trans insA_perm.symm
    have huq : ((nN T id par).1.map (·.1)).Nodup := by
      refine (hP.map _).nodup_iff.1 ?_
      have := Cz (x := id) (v := par) ((hpm.map (·.1)).nodup_iff.2 ht.uq)
      rwa [yN hnone] at this
    have hne := ht.ne
    have hc : Ch [tp] w w2 := (Ch.of_below b1 : Ch [tp] w w1).trans (Ch.of_oth o2 (by simp) : Ch [tp] w1 w2) (fun x hx => .inl hx)
    have := h w2 ⟨o2.blk ht1.bt hne, ⟨_, hm2, hP⟩, huq⟩ hc
    rw [e0] at this
    exact this
  by_cases p0 : par ≠ 0
  · refine ck p0 (UJ ht (bH (bR p0 ?_)))
    cases hq2 : eh T par with
    | false => exact bc (ok 9 (e9 ⟨p0, hq2⟩) b0)
    | true =>
      obtain ⟨m, hm, hpm⟩ := ht.mp
      refine aD (au (DP (ld1 (v := .map (some tp)) (fun _ => by kernel_rfl) ht.bt rfl (zb6 Tryz.underlying135 hm (cJ ?_)))))
      exact tail (fun hh => by rw [hq2] at hh; cases hh.2) rfl rfl rfl (by rw [hpm.length_eq])
  · refine dt p0 (bG p0 (aD ?_))
    obtain ⟨m, hm, hpm⟩ := ht.mp
    refine au (DP (ld1 (v := .map (some tp)) (fun _ => by kernel_rfl) ht.bt rfl (zb6 Tryz.underlying135 hm (cJ ?_))))
    exact tail (fun hh => p0 hh.1) rfl rfl rfl (by rw [hpm.length_eq])
end
end
def aJ(ai a1 b2 i7 j8:oF)(zf:oD):=ai::a1::b2::zT zf 3 4 (i7::j8::zT zf 9 124 ([]))
def nE(zf:oD):=zT zf 0 133 ([])
def nH(ai a1 b2 i7 j8 t61:oF)(zf:oD):=ai::a1::b2::zT zf 3 4 (i7::j8::zT zf 9 52 (t61::zT zf 62 71 ([])))
def nI(ai a1 b2 i7 j8 j9:oF)(zf:oD):=ai::a1::b2::zT zf 3 4 (i7::j8::j9::zT zf 10 123 ([]))
def nJ(ai a1 b2 i7 j8 j10:oF)(zf:oD):=ai::a1::b2::zT zf 3 4 (i7::j8::zf 9::j10::zT zf 11 122 ([]))
def aC(K:KV):KE:=kZ f124 [1,1,1] K
def fL(K:KV):KE:=aj Q (cd f124 (b1 58)) (aC K) (xx xf (aC K) 0) (rk f124 K)
def aA(K:KV)(B1:KE):KE:=kY f124 (b1 467) B1 (xx xf (aC K) 0) K
def eu(K:KV)(B1:KE):KE:=aj Q (cd f124 (b1 466)) (aA K B1) (xx xf (aC K) 0) (rk f124 K)
def cw(K:KV)(B1:KE):KE:=kY f124 (b1 1865) (aA K B1) (xx (xx xf (aC K) 0) (aA K B1) 1) K
def fM(K:KV)(B1:KE):KE:=aj Q (cd f124 (b1 3728)) (cw K B1) (xx (xx (xx xf (aC K) 0) (aA K B1) 1) (cw K B1) 2) (rk f124 K)
def dH(K:KV)(B1:KE):KE:=aj Q (cd f124 (b1 14927)) (aA K B1) (xx (xx xf (aC K) 0) (aA K B1) 1) (rk f124 K)
def bh(K:KV)(B1:KE):KE:=kY f124 (b1 29855) (aA K B1) (xx (xx xf (aC K) 0) (aA K B1) 1) K
def eA(K:KV)(B1:KE):KE:=aj Q (cd f124 (b1 59709)) (bh K B1) (xx (xx xf (aC K) 0) (aA K B1) 1) (rk f124 K)
def fN(K:KV)(B1:KE):KE:=aj Q (cd f124 (b1 477674)) (bh K B1) (xx (xx (xx xf (aC K) 0) (aA K B1) 1) (bh K B1) 4) (rk f124 K)
def fO(K:KV)(B1:KE):KE:=aj Q (cd f124 (b1 477690)) (aA K B1) (xx (xx (xx xf (aC K) 0) (aA K B1) 1) (aA K B1) 6) (rk f124 K)
section
variable {K:KV}{ai a1 b2 i7 j8 j9 j10 t61:oF}  
def vh{K:KV}(h:nC H (λa=>fL K (aJ U H Z a (ci 0) (zV (zV zu 6 [cF]) 11 [H,a]))) w):Gives Q 124 #[U,H,Z] w K:=aw func124 kr (mpK h)
def ul{K:KV}(Inv:oF->oF->oG->Prop)(μ:oF->oF->oG->Nat)(i:Inv Y J w)(k:∀(d a:oF) (f:oD) (w:oG) (m:Nat),Inv d a w->m=μ d a w ->
  bT .lss 3 a (ci 5) (λb w=>cond b (eu K (λb S=>(Inv (gd b 7) (gd b 8) S)/\((μ (gd b 7) (gd b 8) S)<m)) (aJ U H Z d a (zV f 13 [a,b])) w) (aC K (nE (zV (zV (zV f 0 [U,H,Z]) 7 [d,a]) 13 [a,b])) w)) w):fL K (aJ U H Z Y J zf) w:=by
 refine aZ (cd f124 (b1 116)) (zr [(6,5),(13,120)]) kr (vP [7,8] Inv) (vQ [7,8] μ) i ?_;intro e g j;have h:=k _ _ (zM zf (gd e) (zr [(6,5),(13,120)])) g _ j rfl;refine Eq.mp (qH (λc=>aj Q c _ _ _ _ g) (by kernel_rfl:(rep [1,0] (cd f124 (b1 466)) (cd f124 (b1 116)))=(cd f124 (b1 116)))) ?_;revert h;delta eu aA;generalize (cd f124 (b1 466))=xc0;generalize (aC K)=qc0
 exact mpF
def ui{K:KV}(h:fM K B1 (aJ J H Z U Y zf) w):eu K B1 (aJ J H Z U Y zf) w:=by delta eu;revert h;delta fM cw;generalize (aA K B1)=qc0;generalize (aC K)=qc1;exact mpF
def ut{K:KV}(h:K cF w):aC K (nE zf) w:=mpK h
def um{K:KV}(Inv:oF->oG->Prop)(μ:oF->oG->Nat)(j:Inv Y w)(n:∀(b:oF) (i:oD) (w:oG) (m:Nat),Inv b w->m=μ b w ->
  sti (bF .lss 3 b Z) (λc w=>aT c true (λd=>sI 172 H b (λa=>sL 32 a λc=>sti (bT .sub 3 b (ci 1)) λf=>sI 172 H f λg=>sL 32 g λh=>sti (call Q 125 #[c,h]) λi=>sti (un Q .not i) λe=>d [H,b,a,c,H,b,f,g,h,i,e]) w) (λk=>k [uu,uu,uu,uu,uu,uu,uu,uu,uu,uu,uu] w) λa=>sti (pick c (gd a 10) cF) λd w=>cond d (nC b (λa w=>(Inv a w)/\((μ a w)<m)) w) (cw K B1 (aJ H U Z b J (zV i 17 [b,Z,c,c,gd a 0,gd a 1,gd a 2,gd a 3,gd a 4,gd a 5,gd a 6,gd a 7,gd a 8,gd a 9,gd a 10,d])) w)) w.drew):fM K B1 (aJ H U Z Y J zf) w:=by refine aZ (cd f124 (b1 7456)) (zr [(7,1),(17,18)]) kr (vP [7] Inv) (vQ [7] μ) j ?_;intro g o l;have h:=n _ (zM zf (gd g) (zr [(7,1),(17,18)])) o _ l rfl;revert h;generalize (aC K)=qc0;generalize (aA K B1)=qc1;generalize (cw K B1)=qc2;exact mpF
def mG{K:KV}(h:bF .eql 3 H U (λc w=>cond c (K cT w) (bF .sub 3 U Y (λg=>bT .lss 3 g (ci 50) λh w=>cond h (K cF w) (aL (λS w=>hld (λ_=>True) (bT .sub 3 H (ci 1)) λa=>hld (λ_=>True) (bT .sub 3 H (ci 1)) λb=>hI S 172 Z b λi=>hL S 32 i λd=>hI S 172 Z H λj=>hL S 32 j λe=>hI S 172 Z H λf=>sto Q 32 f d (λ_=>aL λS w=>hI S 172 Z a λk=>sto Q 32 k e (λ_=>dH K B1 (aJ Z Y U H J (zV zf 35 [H,U,c,U,Y,g,h,Z,H,Z,H,a,Z,H,b,i,d,Z,H,j,e,f,k]))) w) w) w.drew)) w)) w):cw K B1 (aJ Z Y U H J zf) w:=by delta cw;refine Eq.mp (qH (λc=>aj Q c _ _ _ _ w) (by kernel_rfl:(rep [1,1,1] (cd f124 (b1 14927)) (cd f124 (b1 1865)))=(cd f124 (b1 1865)))) ?_;revert h;delta dH;generalize (cd f124 (b1 14927))=xc0;generalize (aA K B1)=qc0;generalize (aC K)=qc1;exact mpF
def uj{K:KV}(h:bF .sub 3 Z H (λa=>bT .geq 3 a (ci 2) λb=>eA K B1 (nH J H U Z Y b (zV zf 58 [Z,H,a]))) w):dH K B1 (aJ J H U Z Y zf) w:=by delta dH;refine Eq.mp (qH (λc=>aj Q c _ _ _ _ w) (by kernel_rfl:(rep [0,1] (cd f124 (b1 59709)) (cd f124 (b1 14927)))=(cd f124 (b1 14927)))) ?_;revert h;delta eA bh;generalize (cd f124 (b1 59709))=xc0;generalize (aA K B1)=qc0;generalize (aC K)=qc1;exact mpF
def uk{K:KV}(h:cond Z (bT .sub 3 H (ci 1) (λa=>fN K B1 (nI C U Y H J a (zV zf 61 [Z,H,a]))) w) (bh K B1 (aJ C U Y H J (zV zf 61 [Z])) w)):eA K B1 (nH C U Y H J Z zf) w:=by delta eA;revert h;delta fN;generalize (bh K B1)=qc0;generalize (aC K)=qc1;generalize (aA K B1)=qc2;exact mpF
def uo{K:KV}(Inv:oF->oG->Prop)(μ:oF->oG->Nat)(z:Inv C w)(A:∀(a:oF) (x:oD) (w:oG) (m:Nat),Inv a w->m=μ a w ->
  bT .geq 3 a (ci 1) (λb w=>cond b (aL (λS w=>hI S 172 H a λd=>hL S 32 d λe=>hld (λ_=>True) (bT .sub 3 a (ci 1)) λf=>hI S 172 H f λg=>hL S 32 g λi=>call Q 125 #[e,i] (λj=>aL λS w=>hld S (un Q .not j) λk=>cond k (bh K B1 (aJ H Z U Y J (zV (zV (zV x 9 [a]) 64 [a,b]) 68 [H,a,d,e,H,a,f,g,i,j,k])) w) (aL (λS w=>hld (λ_=>True) (bT .sub 3 a (ci 1)) λn=>hld (λ_=>True) (bT .sub 3 a (ci 1)) λo=>hI S 172 H o λp=>hL S 32 p λq=>hI S 172 H a λr=>hL S 32 r λs=>hI S 172 H a λt=>sto Q 32 t q (λ_=>aL λS w=>hI S 172 H n λu=>sto Q 32 u s (λ_=>bT .sub 3 a (ci 1) λc w=>(Inv c w)/\((μ c w)<m)) w) w) w.drew)) w) w.drew) (bh K B1 (aJ H Z U Y J (zV (zV x 9 [a]) 64 [a,b])) w)) w):fN K B1 (nI H Z U Y J C zf) w:=by refine aZ (cd f124 (b1 955348)) (zr [(9,1),(64,31)]) kr (vP [9] Inv) (vQ [9] μ) z ?_;intro y B hI;have h:=A _ (zM zf (gd y) (zr [(9,1),(64,31)])) B _ hI rfl;revert h;generalize (aC K)=qc0;generalize (aA K B1)=qc1;generalize (bh K B1)=qc2;exact mpF
def uw(h:bF .sub 3 b2 i7 (λb=>bT .geq 3 b (ci 2) λc w=>cond c (nC i7 (λa=>fO K B1 (nJ ai a1 b2 i7 j8 a (zV zf 95 [b2,i7,b,c,i7,a]))) w) (aA K B1 (aJ ai a1 b2 i7 j8 (zV zf 95 [b2,i7,b,c])) w)) w):bh K B1 (aJ ai a1 b2 i7 j8 zf) w:=by delta bh;revert h;delta fO;generalize (aA K B1)=qc0;generalize (aC K)=qc1;exact mpF
def ur(Inv:oF->oG->Prop)(μ:oF->oG->Nat)(z:Inv j10 w)(A:∀(a:oF) (x:oD) (w:oG) (m:Nat),Inv a w->m=μ a w ->
  lS a b2 (λb w=>cond b (aL (λS w=>hI S 172 ai a λd=>hL S 32 d λe=>hld (λ_=>True) (bT .sub 3 a (ci 1)) λf=>hI S 172 ai f λg=>hL S 32 g λi=>call Q 125 #[e,i] (λj=>aL λS w=>hld S (un Q .not j) λk=>cond k (aA K B1 (aJ ai a1 b2 i7 j8 (zV (zV (zV x 10 [a]) 101 [a,b2,b]) 106 [ai,a,d,e,ai,a,f,g,i,j,k])) w) (aL (λS w=>hld (λ_=>True) (bT .sub 3 a (ci 1)) λl=>hld (λ_=>True) (bT .sub 3 a (ci 1)) λn=>hI S 172 ai n λo=>hL S 32 o λp=>hI S 172 ai a λq=>hL S 32 q λr=>hI S 172 ai a λs=>sto Q 32 s p (λ_=>aL λS w=>hI S 172 ai l λt=>sto Q 32 t r (λ_=>nC a λc w=>(Inv c w)/\((μ c w)<m)) w) w) w.drew)) w) w.drew) (aA K B1 (aJ ai a1 b2 i7 j8 (zV (zV x 10 [a]) 101 [a,b2,b])) w)) w):fO K B1 (nJ ai a1 b2 i7 j8 j10 zf) w:=by refine aZ (cd f124 (b1 955380)) (zr [(10,1),(101,32)]) kr (vP [10] Inv) (vQ [10] μ) z ?_;intro y B hI;have h:=A _ (zM zf (gd y) (zr [(10,1),(101,32)])) B _ hI rfl;revert h;generalize (aC K)=qc0;generalize (aA K B1)=qc1;exact mpF
def iB(h:nC j8 (λa=>B1 (aJ ai a1 b2 i7 a (zV zf 15 [j8,a]))) w):aA K B1 (aJ ai a1 b2 i7 j8 zf) w:=by delta aA;revert h;generalize (aC K)=qc0;exact mpF
end
attribute [irreducible] aC fL aA eu cw fM dH bh eA fN fO
def fD(ai a1 jv ll kz tn:oF)(zf:oD):=ai::a1::zT zf 2 4 (jv::ll::kz::tn::zT zf 10 55 ([]))
def qv(ai a1 jv ll kz tn og t43:oF)(zf:oD):=ai::a1::zT zf 2 4 (jv::ll::kz::tn::og::zT zf 11 32 (t43::zT zf 44 21 ([])))
def ir(ai a1 jv ll kz tn og:oF)(zf:oD):=ai::a1::zT zf 2 4 (jv::ll::kz::tn::og::zT zf 11 54 ([]))
def iu(K:KV):KE:=aj Q (cd f121 (b1 238)) (rk f121 K) (xx xf (rk f121 K) 0) (rk f121 K)
def cj(K:KV)(B1:KE):KE:=kY f121 (b1 1907) B1 (xx xf (rk f121 K) 0) K
def cK(K:KV)(B1:KE):KE:=kY f121 (b1 15251) (cj K B1) (xx (xx xf (rk f121 K) 0) (cj K B1) 1) K
def fC(K:KV)(B1:KE):KE:=aj Q (cd f121 (b1 30501)) (cK K B1) (xx (xx xf (rk f121 K) 0) (cj K B1) 1) (rk f121 K)
section
variable {K:KV}{ai a1 jv ll kz tn og t43:oF}  
def yl{K:KV}(h:bF .sub 3 Z H (λb=>bT .geq 3 b (ci 8) λc w=>cond c (conv Q 3 232 b (λd=>alc Q 232 λe=>sto Q 232 e d λ_=>call Q 113 #[b] λf=>bT .quo 3 b (ci 4) λa=>bT .mul 3 a (ci 2) λg=>bF .add 3 H g λh=>bT .sub 3 h (ci 1) λi=>iu K (fD U H b e f i (zV (zV zu 2 [Z]) 11 [Z,H,b,b,c,b,d,b,f,H,b,a,g,h,i]))) w) (K (.tuple #[]) w)) w):Gives Q 121 #[U,H,Z] w K:=aw func121 kr (mpK h)
def xA(Inv:oF->oG->Prop)(μ:oF->oG->Nat)(j:Inv tn w)(l:∀(a:oF) (i:oD) (w:oG) (m:Nat),Inv a w->m=μ a w ->
  bT .quo 3 jv (ci 4) (λb=>bT .mul 3 b (ci 2) λc=>bF .add 3 a1 c λd=>nC d λf=>bF .leq 3 a f λg w=>cond g (call Q 114 #[ll] (λh=>bT .sub 188 kz (cu 1) λj=>bF .and 188 h j λe=>conv Q 188 3 e λk=>bF .geq 3 k jv λl=>fC K (λb S=>(Inv (gd b 9) S)/\((μ (gd b 9) S)<m)) (qv ai a1 jv ll kz a k l (zV (zV i 26 [a,a1,jv,b,c,d,f,g]) 36 [h,kz,j,e,k,k,jv]))) w) (K (.tuple #[]) w)) w):iu K (fD ai a1 jv ll kz tn zf) w:=by refine aZ (cd f121 (b1 476)) (zr [(9,2),(26,39)]) kr (vP [9] Inv) (vQ [9] μ) j ?_;intro f g k;have h:=l _ (zM zf (gd f) (zr [(9,2),(26,39)])) g _ k rfl;refine Eq.mp (qH (λc=>aj Q c _ _ _ _ g) (by kernel_rfl:(rep (b1 101) (cd f121 (b1 30501)) (cd f121 (b1 476)))=(cd f121 (b1 476)))) ?_;revert h;delta fC cj cK;generalize (cd f121 (b1 30501))=xc0;exact mpF
def xz(h:cond t43 (bF .sub 3 og jv (λa=>cK K B1 (ir ai a1 jv ll kz tn a (zV zf 43 [t43,og,jv,a]))) w) (cK K B1 (ir ai a1 jv ll kz tn og (zV zf 43 [t43])) w)):fC K B1 (qv ai a1 jv ll kz tn og t43 zf) w:=by delta fC;revert h;generalize (cK K B1)=qc0;generalize (cj K B1)=qc1;exact mpF
def xC(h:aL (λS w=>hld (λ_=>True) (bF .add 3 a1 og) λe=>hld (λ_=>True) (bF .add 3 a1 og) λa=>hI S 172 ai a λf=>hL S 32 f λg=>hI S 172 ai tn λh=>hL S 32 h λb=>hI S 172 ai tn λc=>sto Q 32 c g (λ_=>aL λS w=>hI S 172 ai e λd=>sto Q 32 d b (λ_=>cj K B1 (fD ai a1 jv ll kz tn (zV (zV zf 10 [og]) 47 [ai,tn,ai,a1,og,e,ai,a1,og,a,f,g,ai,tn,h,b,c,d]))) w) w) w.drew):cK K B1 (ir ai a1 jv ll kz tn og zf) w:=by delta cK;revert h;generalize (cj K B1)=qc0;exact mpF
def xB(h:nC tn (λa=>B1 (fD ai a1 jv ll kz a (zV zf 34 [tn,a]))) w):cj K B1 (fD ai a1 jv ll kz tn zf) w:=mpK h
end
attribute [irreducible] iu cj cK fC
def IS{K:KV}(h:conv Q 3 188 H (λa=>call Q 82 #[a] λa=>bin Q .shl 188 true false (cu 1) a K) w):Gives Q 113 #[H] w K:=aw func113 kr (mpK h)
def Jw{K:KV}(h:sN H (λa=>sL 232 a λa=>sN H λb=>sL 232 b λb=>sti (bT .shl 232 b (cu 13)) λb=>sti (bF .xor 232 a b) λa=>sN H λb=>sto Q 232 b a λ_ w=>sN H (λa=>sL 232 a λa=>sN H λb=>sL 232 b λb=>sti (bT .shr 232 b (cu 7)) λb=>sti (bF .xor 232 a b) λa=>sN H λb=>sto Q 232 b a λ_ w=>sN H (λa=>sL 232 a λa=>sN H λb=>sL 232 b λb=>sti (bT .shl 232 b (cu 17)) λb=>sti (bF .xor 232 a b) λa=>sN H λb=>sto Q 232 b a λ_=>bj H λb=>ld Q 232 b K) w.drew) w.drew) w.drew):Gives Q 114 #[H] w K:=aw func114 kr (mpK h)
def iY(ai l8 cG i10 j11 gJ:oF)(zf:oD):=ai::zT zf 1 7 (l8::cG::i10::j11::gJ::zT zf 13 44 ([]))
def rU(ai a1 b2:oF)(zf:oD):=ai::a1::b2::zT zf 3 54 ([])
def iZ(ai l8 cG i10 j11 gJ t32:oF)(zf:oD):=ai::zT zf 1 7 (l8::cG::i10::j11::gJ::zT zf 13 19 (t32::zT zf 33 24 ([])))
def ja(ai cG i10 j11 gJ t34:oF)(zf:oD):=ai::zT zf 1 8 (cG::i10::j11::gJ::zT zf 13 21 (t34::zT zf 35 22 ([])))
def gi(cG j11:oF)(zf:oD):=zT zf 0 9 (cG::zf 10::j11::zT zf 12 45 ([]))
def eP(ai cG i10 j11 gJ:oF)(zf:oD):=ai::zT zf 1 8 (cG::i10::j11::gJ::zT zf 13 44 ([]))
def iV(K:KV):KE:=aj Q (cd f122 (b1 127)) (rk f122 K) xf (rk f122 K)
def cg(K:KV):KE:=kZ f122 (b1 255) K
def iW(K:KV):KE:=aj Q (cd f122 (b1 509)) (cg K) xf (rk f122 K)
def dB(K:KV):KE:=kY f122 (b1 2037) (cg K) xf K
def iX(K:KV):KE:=aj Q (cd f122 (b1 4073)) (dB K) xf (rk f122 K)
abbrev su(K:KV)(hA0:KE)(ai a1 b2:oF)(w:oG):Prop :=
  bF .sub 3 b2 a1 (λa=>alc Q 3 λb=>bT .quo 3 a (ci 4) λc=>bT .mul 3 c (ci 1) λd=>bF .add 3 a1 d λe=>bT .quo 3 a (ci 4) λf=>bT .mul 3 f (ci 2) λg=>bF .add 3 a1 g λh=>bT .quo 3 a (ci 4) λi=>bT .mul 3 i (ci 3) λj=>bF .add 3 a1 j λk=>hA0 (iY ai a b e h k (zV (zV (zV zu 1 [a1,b2]) 6 [ci 0,ci 0]) 13 [b2,a1,a,a1,a,c,d,e,a1,a,f,g,h,a1,a,i,j,k]))) w
section
variable {K:KV}{ai a1 b2 l8 cG i10 j11 gJ t32 t34:oF}  
def Ar{K:KV}(a:Code)(h:su K (aj Q a (rk f122 K) (λ_ _ _=>False) (rk f122 K)) U H Z w):aj Q (rep (b1 127) a (cd f122 [])) (rk f122 K) xf (rk f122 K) (rU U H Z zu) w:=Eq.mp kr h
def zL{K:KV}(h:su K (iV K) U H Z w):Gives Q 122 #[U,H,Z] w K:=aw func122 kr (Eq.mp (qH (λc=>aj Q c (rk f122 K) xf (rk f122 K) (rU U H Z zu) w) (by kernel_rfl:(rep (b1 127) (cd f122 (b1 127)) (cd f122 []))=(cd f122 []))) (Ar (cd f122 (b1 127)) h))
abbrev qw(K:KV)(hA0:KE)(ai l8 cG i10 j11 gJ:oF)(zf:oD)(w:oG):Prop :=
  bT .geq 3 l8 (ci 8) (λa=>hA0 (iZ ai l8 cG i10 j11 gJ a (zV zf 31 [l8]))) w
def ym{K:KV}(a:Code)(h:qw K (aj Q a (aj Q (cd f122 (b1 255)) (rk f122 K) (λ_ _ _=>False) (rk f122 K)) (λ_ _ _=>False) (rk f122 K)) C H Z U Y J zf w):aj Q (rep [0,1] a (cd f122 (b1 127))) (rk f122 K) xf (rk f122 K) (iY C H Z U Y J zf) w:=Eq.mp kr h
def yn{K:KV}(h:qw K (iW K) C H Z U Y J zf w):iV K (iY C H Z U Y J zf) w:=by delta iV;exact Eq.mp (qH (λc=>aj Q c (rk f122 K) xf (rk f122 K) (iY C H Z U Y J zf) w) (by kernel_rfl:(rep [0,1] (cd f122 (b1 509)) (cd f122 (b1 127)))=(cd f122 (b1 127)))) (ym (cd f122 (b1 509)) h)
abbrev qx(K:KV)(hA0 hA1:KE)(ai l8 cG i10 j11 gJ t32:oF)(zf:oD)(w:oG):Prop :=
  cond t32 (bT .geq 3 l8 (ci 50) (λa=>hA0 (ja ai cG i10 j11 gJ a (zV (zV zf 8 [l8]) 32 [t32,l8]))) w) (hA1 (gi cG j11 (zV (zV (zV (zV (zV zf 0 [ai]) 8 [l8]) 10 [i10]) 12 [gJ]) 32 [t32])) w)
def yo{K:KV}(a:KE)(b:Code)(h:qx K (aj Q b (aj Q (cd f122 (b1 2037)) a (λ_ _ _=>False) (rk f122 K)) (λ_ _ _=>False) (rk f122 K)) a Z1 H Z U Y J C zf w):aj Q (rep [0,0,1] b (cd f122 (b1 509))) a xf (rk f122 K) (iZ Z1 H Z U Y J C zf) w:=Eq.mp kr h
def yp(h:qx K (iX K) (cg K) ai l8 cG i10 j11 gJ t32 zf w):iW K (iZ ai l8 cG i10 j11 gJ t32 zf) w:=by delta iW;exact Eq.mp (qH (λc=>aj Q c (cg K) xf (rk f122 K) (iZ ai l8 cG i10 j11 gJ t32 zf) w) (by kernel_rfl:(rep [0,0,1] (cd f122 (b1 4073)) (cd f122 (b1 509)))=(cd f122 (b1 509)))) (yo (cg K) (cd f122 (b1 4073)) h)
abbrev qy(K:KV)(hA0:KE)(ai cG i10 j11 gJ t34:oF)(zf:oD)(w:oG):Prop :=
  cond t34 (call Q 131 #[ai,i10,cG] (λa=>call Q 131 #[ai,j11,cG] λb=>call Q 131 #[ai,gJ,cG] λc=>hA0 (eP ai cG a b c (zV zf 34 [t34,ai,i10,a,ai,j11,b,ai,gJ,c]))) w) (hA0 (eP ai cG i10 j11 gJ (zV zf 34 [t34])) w)
def yq{K:KV}(a:KE)(h:qy K a C H Z U Y J zf w):aj Q (cd f122 (b1 4073)) a xf (rk f122 K) (ja C H Z U Y J zf) w:=Eq.mp kr h
def yr(h:qy K (dB K) ai cG i10 j11 gJ t34 zf w):iX K (ja ai cG i10 j11 gJ t34 zf) w:=by delta iX;exact Eq.mp (qH (λc=>aj Q c (dB K) xf (rk f122 K) (ja ai cG i10 j11 gJ t34 zf) w) (by kernel_rfl:(cd f122 (b1 4073))=(cd f122 (b1 4073)))) (yq (dB K) h)
abbrev qz(K:KV)(cG j11:oF)(zf:oD)(w:oG):Prop :=
  ld Q 3 cG (λa=>bT .eql 3 a (ci 0) λb w=>cond b (K (.tuple #[j11,ci 1]) w) (bT .eql 3 a (ci 12) (λa w=>cond a (K (.tuple #[j11,ci 2]) w) (K (.tuple #[j11,ci 0]) w)) w)) w
def yu{K:KV}(h:qz K Z H zf w):aj Q (cd f122 (b1 255)) (rk f122 K) xf (rk f122 K) (gi Z H zf) w:=Eq.mp kr h
def yv(h:qz K cG j11 zf w):cg K (gi cG j11 zf) w:=by delta cg;exact Eq.mp (qH (λc=>aj Q c (rk f122 K) xf (rk f122 K) (gi cG j11 zf) w) (by kernel_rfl:(cd f122 (b1 255))=(cd f122 (b1 255)))) (yu h)
abbrev re(K:KV)(hA0:KE)(ai cG i10 j11 gJ:oF)(zf:oD)(w:oG):Prop :=
  call Q 132 #[ai,i10,j11,gJ,cG] (λa=>hA0 (gi cG a (zV (zV (zV (zV zf 0 [ai]) 10 [i10]) 12 [gJ]) 44 [ai,i10,j11,gJ,a]))) w
def yw{K:KV}(a:KE)(h:re K a J H Z U Y zf w):aj Q (cd f122 (b1 2037)) a xf (rk f122 K) (eP J H Z U Y zf) w:=Eq.mp kr h
def yx(h:re K (cg K) ai cG i10 j11 gJ zf w):dB K (eP ai cG i10 j11 gJ zf) w:=by delta dB;exact Eq.mp (qH (λc=>aj Q c (cg K) xf (rk f122 K) (eP ai cG i10 j11 gJ zf) w) (by kernel_rfl:(cd f122 (b1 2037))=(cd f122 (b1 2037)))) (yw (cg K) h)
end
attribute [irreducible] iV cg iW dB iX
def xK{K:KV}(h:bT .sub 3 H (ci 1) (λa=>nC H λb=>call Q 132 #[U,a,H,b,Z] K) w):Gives Q 131 #[U,H,Z] w K:=aw func131 kr (mpK h)
def CJ{K:KV}(h:call Q 133 #[Z,U,Y,H] (λa=>ext Q a 0 λb=>ext Q a 1 λa=>call Q 133 #[Z,a,J,H] λa=>ext Q a 0 λc=>ext Q a 1 λ_=>call Q 133 #[Z,b,c,H] λa=>ext Q a 0 λ_=>ext Q a 1 K) w):Gives Q 132 #[Z,U,Y,J,H] w K:=aw func132 kr (mpK h)
def CK{K:KV}(h:aL (λS w=>hI S 172 Y Z λa=>hL S 32 a λa=>hI S 172 Y H λb=>hL S 32 b λb=>call Q 125 #[a,b] (λa w=>cond a (bj U (λa=>ld Q 3 a λa=>nC a λa=>bj U λb=>sto Q 3 b a λ_=>K (.tuple #[Z,H])) w) (K (.tuple #[H,Z]) w)) w) w.drew):Gives Q 133 #[Y,H,Z,U] w K:=aw func133 kr (mpK h)
def tG(ai qi lo7 hi8 i9:oF)(zf:oD):=ai::zT zf 1 5 (qi::lo7::hi8::i9::zT zf 10 46 ([]))
def tH(ai qi lo7 hi8:oF)(zf:oD):=ai::zT zf 1 5 (qi::lo7::hi8::zT zf 9 47 ([]))
def tI(ai qi lo7 i10:oF)(zf:oD):=ai::zT zf 1 5 (qi::lo7::zf 8::zf 9::i10::zT zf 11 45 ([]))
def dT(K:KV):KE:=kZ f120 [1,1,1,1] K
def kC(K:KV):KE:=aj Q (cd f120 (b1 122)) (dT K) (xx xf (dT K) 0) (rk f120 K)
def kD(K:KV):KE:=aj Q (cd f120 (b1 126)) (rk f120 K) (xx xf (rk f120 K) 2) (rk f120 K)
section
variable {K:KV}{ai qi lo7 hi8 i9 i10:oF}  
def BL{K:KV}(h:bF .sub 3 Z H (λa=>bT .sub 3 a (ci 1) λb=>bT .quo 3 b (ci 2) λc=>kC K (tG U H (ci 0) a c (zV (zV zu 1 [H,Z]) 11 [H,Z,H,a,a,b,c]))) w):Gives Q 120 #[U,H,Z] w K:=aw func120 kr (mpK h)
def As{K:KV}(Inv:oF->oG->Prop)(μ:oF->oG->Nat)(f:Inv J w)(i:∀(a:oF) (e:oD) (w:oG) (m:Nat),Inv a w->m=μ a w ->
  bT .geq 3 a (ci 0) (λb w=>cond b (call Q 130 #[U,a,Z,H] (λ_=>bT .sub 3 a (ci 1) λa w=>(Inv a w)/\((μ a w)<m)) w) (dT K (tH U H Y Z (zV (zV e 9 [a]) 18 [a,b])) w)) w):kC K (tG U H Y Z J zf) w:=by refine aZ (cd f120 (b1 244)) (zr [(9,1),(18,9)]) kr (vP [9] Inv) (vQ [9] μ) f ?_;intro d j g;have h:=i _ (zM zf (gd d) (zr [(9,1),(18,9)])) j _ g rfl;revert h;generalize (dT K)=qc0;exact mpF
def Au(h:bT .sub 3 hi8 (ci 1) (λa=>kD K (tI ai qi lo7 a (zV (zV zf 8 [hi8]) 27 [hi8,a]))) w):dT K (tH ai qi lo7 hi8 zf) w:=mpK h
def At(Inv:oF->oG->Prop)(μ:oF->oG->Nat)(j:Inv i10 w)(k:∀(a:oF) (n:oD) (w:oG) (m:Nat),Inv a w->m=μ a w ->
  bT .geq 3 a (ci 0) (λb w=>cond b (aL (λS w=>hld (λ_=>True) (bF .add 3 qi a) λb=>hld (λ_=>True) (bF .add 3 qi a) λc=>hI S 172 ai c λc=>hL S 32 c λc=>hI S 172 ai qi λd=>hL S 32 d λe=>hI S 172 ai qi λf=>sto Q 32 f c (λ_=>aL λS w=>hI S 172 ai b λb=>sto Q 32 b e (λ_=>call Q 130 #[ai,lo7,a,qi] λ_=>bT .sub 3 a (ci 1) λa w=>(Inv a w)/\((μ a w)<m)) w) w) w.drew) (K (.tuple #[]) w)) w):kD K (tI ai qi lo7 i10 zf) w:=by refine aZ (cd f120 (b1 252)) (zr [(10,1),(29,27)]) kr (vP [10] Inv) (vQ [10] μ) j ?_;intro i l hI;have h:=k _ (zM zf (gd i) (zr [(10,1),(29,27)])) l _ hI rfl;exact mpK h
end
attribute [irreducible] dT kC kD
def nR(ai hi2 fT rA:oF)(zf:oD):=ai::zf 1::hi2::fT::zT zf 4 4 (rA::zT zf 9 67 ([]))
def tJ(ai hi2 fT rA mT t36:oF)(zf:oD):=ai::zf 1::hi2::fT::zT zf 4 4 (rA::mT::zT zf 10 26 (t36::zT zf 37 39 ([])))
def kE(ai hi2 fT rA mT:oF)(zf:oD):=ai::zf 1::hi2::fT::zT zf 4 4 (rA::mT::zT zf 10 66 ([]))
def kG(K:KV):KE:=aj Q (cd f130 [1,0]) (rk f130 K) (xx xf (rk f130 K) 0) (rk f130 K)
def dv(K:KV)(B1:KE):KE:=kY f130 (b1 199) B1 (xx (xx xf (rk f130 K) 0) B1 1) K
def hJ(K:KV)(B1:KE):KE:=aj Q (cd f130 (b1 397)) (dv K B1) (xx (xx xf (rk f130 K) 0) B1 1) (rk f130 K)
section
variable {K:KV}{ai hi2 fT rA mT t36:oF}  
def BM{K:KV}(h:kG K (nR Y Z U H (zV (zV zu 1 [H]) 10 [H])) w):Gives Q 130 #[Y,H,Z,U] w K:=aw func130 kr (mpK h)
def Av(Inv:oF->oG->Prop)(μ:oF->oG->Nat)(l:Inv rA w)(o:∀(b:oF) (j:oD) (w:oG) (m:Nat),Inv b w->m=μ b w ->
  bin Q .mul 3 true false (ci 2) b (λc=>nC c λd=>bF .geq 3 d hi2 λe w=>cond e (K (.tuple #[]) w) (sti (bT .add 3 d (ci 1)) (λf=>sti (bF .lss 3 f hi2) λg w=>aT g true (λf=>sti (bF .add 3 fT d) (λa=>sI 172 ai a λb=>sL 32 b λc=>sti (bF .add 3 fT d) λe=>sti (bT .add 3 e (ci 1)) λg=>sI 172 ai g λh=>sL 32 h λi=>sti (call Q 125 #[c,i]) λj=>f [ai,fT,d,a,b,c,ai,fT,d,e,g,h,i,j]) w) (λk=>k [uu,uu,uu,uu,uu,uu,uu,uu,uu,uu,uu,uu,uu,uu] w) λa=>sti (pick g (gd a 13) cF) λh=>hJ K (λd S=>(Inv (gd d 8) S)/\((μ (gd d 8) S)<m)) (tJ ai hi2 fT b d h (zV j 11 [b,c,d,d,hi2,e,d,f,hi2,g,g,gd a 0,gd a 1,gd a 2,gd a 3,gd a 4,gd a 5,gd a 6,gd a 7,gd a 8,gd a 9,gd a 10,gd a 11,gd a 12,gd a 13]))) w.drew)) w):kG K (nR ai hi2 fT rA zf) w:=by refine aZ (cd f130 [1,0,0]) (zr [(8,2),(11,65)]) kr (vP [8] Inv) (vQ [8] μ) l ?_;intro g i n;have h:=o _ (zM zf (gd g) (zr [(8,2),(11,65)])) i _ n rfl;refine Eq.mp (qH (λc=>aj Q c _ _ _ _ i) (by kernel_rfl:(rep (b1 45) (cd f130 (b1 397)) (cd f130 [1,0,0]))=(cd f130 [1,0,0]))) ?_;revert h;delta hJ dv;generalize (cd f130 (b1 397))=xc0;exact mpF
def sv(h:cond t36 (nC mT (λa=>dv K B1 (kE ai hi2 fT rA a (zV zf 36 [t36,mT,a]))) w) (dv K B1 (kE ai hi2 fT rA mT (zV zf 36 [t36])) w)):hJ K B1 (tJ ai hi2 fT rA mT t36 zf) w:=by delta hJ;revert h;generalize (dv K B1)=qc0;exact mpF
def Aw(h:aL (λS w=>hld (λ_=>True) (bF .add 3 fT rA) λh=>hI S 172 ai h λp=>hL S 32 p λa=>hld (λ_=>True) (bF .add 3 fT mT) λb=>hI S 172 ai b λc=>hL S 32 c λr=>call Q 125 #[a,r] (λd=>aL λS w=>hld S (un Q .not d) λs=>cond s (K (.tuple #[]) w) (aL (λS w=>hld (λ_=>True) (bF .add 3 fT rA) λe=>hld (λ_=>True) (bF .add 3 fT mT) λf=>hld (λ_=>True) (bF .add 3 fT mT) λg=>hI S 172 ai g λi=>hL S 32 i λj=>hld (λ_=>True) (bF .add 3 fT rA) λk=>hI S 172 ai k λl=>hL S 32 l λm=>hI S 172 ai e λn=>sto Q 32 n j (λ_=>aL λS w=>hI S 172 ai f λo=>sto Q 32 o m (λ_=>B1 (nR ai hi2 fT mT (zV (zV zf 9 [mT]) 39 [ai,fT,rA,h,p,a,ai,fT,mT,b,c,r,d,s,ai,fT,rA,e,ai,fT,mT,f,ai,fT,mT,g,i,j,ai,fT,rA,k,l,m,n,o,mT]))) w) w) w.drew)) w) w.drew):dv K B1 (kE ai hi2 fT rA mT zf) w:=mpK h
end
attribute [irreducible] kG dv hJ
def rN(ai i6 j7:oF)(zf:oD):=ai::zT zf 1 5 (i6::j7::zT zf 8 24 ([]))
def iJ(K:KV):KE:=aj Q (cd f123 [1,1,0]) (rk f123 K) (xx xf (rk f123 K) 0) (rk f123 K)
section
variable {K:KV}{ai i6 j7:oF}  
def yV{K:KV}(h:bT .sub 3 Z (ci 1) (λa=>iJ K (rN U H a (zV (zV zu 1 [H,Z]) 8 [H,Z,a]))) w):Gives Q 123 #[U,H,Z] w K:=aw func123 kr (mpK h)
def xM(Inv:oF->oF->oG->Prop)(μ:oF->oF->oG->Nat)(g:Inv i6 j7 w)(i:∀(a b:oF) (k:oD) (w:oG) (m:Nat),Inv a b w->m=μ a b w ->
  lS a b (λc w=>cond c (aL (λS w=>hI S 172 ai b λc=>hL S 32 c λc=>hI S 172 ai a λd=>hL S 32 d λd=>hI S 172 ai a λe=>sto Q 32 e c (λ_=>aL λS w=>hI S 172 ai b λc=>sto Q 32 c d (λ_=>nC a λa=>bT .sub 3 b (ci 1) λd w=>(Inv a d w)/\((μ a d w)<m)) w) w) w.drew) (K (.tuple #[]) w)) w):iJ K (rN ai i6 j7 zf) w:=by refine aZ (cd f123 [1,1,0,0]) (zr [(6,2),(11,21)]) kr (vP [6,7] Inv) (vQ [6,7] μ) g ?_;intro e j hI;have h:=i _ _ (zM zf (gd e) (zr [(6,2),(11,21)])) j _ hI rfl;exact mpK h
end
attribute [irreducible] iJ
def aM(ai a1 i10 j11:oF)(zf:oD):=ai::a1::zT zf 2 8 (i10::j11::zT zf 12 156 ([]))
def sJ(ai a1 j11:oF)(zf:oD):=ai::a1::zT zf 2 9 (j11::zT zf 12 156 ([]))
def de(K:KV):KE:=kZ f127 [1,1,1,1] K
def jz(K:KV):KE:=aj Q (cd f127 (b1 60)) (de K) (xx xf (de K) 0) (rk f127 K)
def df(K:KV):KE:=kZ f127 (b1 63) K
def ka(K:KV):KE:=aj Q (cd f127 (b1 124)) (df K) (xx xf (df K) 2) (rk f127 K)
def gT(K:KV):KE:=aj Q (cd f127 (b1 255)) (rk f127 K) xf (rk f127 K)
def br(K:KV):KE:=kZ f127 (b1 2047) K
def kb(K:KV):KE:=aj Q (cd f127 (b1 4092)) (br K) (xx xf (br K) 4) (rk f127 K)
def dh(K:KV)(B1:KE):KE:=kY f127 (b1 32737) B1 (xx (xx xf (br K) 4) B1 5) K
def gU(K:KV)(B1:KE):KE:=aj Q (cd f127 (b1 65472)) (dh K B1) (xx (xx (xx xf (br K) 4) B1 5) (dh K B1) 6) (rk f127 K)
def di(K:KV)(B1:KE):KE:=kY f127 (b1 65475) B1 (xx (xx xf (br K) 4) B1 5) K
def ke(K:KV)(B1:KE):KE:=aj Q (cd f127 (b1 130948)) (di K B1) (xx (xx (xx xf (br K) 4) B1 5) (di K B1) 8) (rk f127 K)
section
variable {K:KV}{ai a1 i10 j11:oF}  
def AP{K:KV}(h:aL (λS w=>hI S 172 H U λb=>hL S 32 b λc=>hI S 172 H Z λa=>hL S 32 a λd=>hI S 172 H Z λe=>sto Q 32 e c (λ_=>aL λS w=>hI S 172 H U λf=>sto Q 32 f d (λ_=>nC Z λg=>bT .sub 3 Y (ci 1) λh=>jz K (aM H Z g h (zV (zV (zV zu 2 [Y,U]) 8 [ci 0,cF]) 12 [H,Z,H,U,H,U,b,c,H,Z,a,d,e,f,Z,g,Y,h]))) w) w) w.drew):Gives Q 127 #[H,Z,Y,U] w K:=aw func127 kr (mpK h)
def zO(Inv:oF->oG->Prop)(μ:oF->oG->Nat)(j:Inv i10 w)(n:∀(b:oF) (i:oD) (w:oG) (m:Nat),Inv b w->m=μ b w ->
  sti (bF .leq 3 b j11) (λc w=>aT c true (λe=>sI 172 ai b (λa=>sL 32 a λc=>sI 172 ai a1 λd=>sL 32 d λf=>sti (call Q 125 #[c,f]) λg=>e [ai,b,a,c,ai,a1,d,f,g]) w) (λk=>k [uu,uu,uu,uu,uu,uu,uu,uu,uu] w) λa=>sti (pick c (gd a 8) cF) λd w=>cond d (nC b (λc w=>(Inv c w)/\((μ c w)<m)) w) (de K (aM ai a1 b j11 (zV i 30 [b,j11,c,c,gd a 0,gd a 1,gd a 2,gd a 3,gd a 4,gd a 5,gd a 6,gd a 7,gd a 8,d])) w)) w.drew):jz K (aM ai a1 i10 j11 zf) w:=by refine aZ (cd f127 (b1 120)) (zr [(10,1),(30,16)]) kr (vP [10] Inv) (vQ [10] μ) j ?_;intro g o l;have h:=n _ (zM zf (gd g) (zr [(10,1),(30,16)])) o _ l rfl;revert h;generalize (de K)=qc0;exact mpF
def zU(h:ka K (aM ai a1 i10 j11 zf) w):de K (aM ai a1 i10 j11 zf) w:=mpK h
def zP(Inv:oF->oG->Prop)(μ:oF->oG->Nat)(q:Inv j11 w)(s:∀(b:oF) (p:oD) (w:oG) (m:Nat),Inv b w->m=μ b w ->
  sti (bF .leq 3 i10 b) (λc w=>aT c true (λj=>sI 172 ai b (λa=>sL 32 a λd=>sI 172 ai a1 λe=>sL 32 e λc=>sti (call Q 125 #[d,c]) λf=>sti (un Q .not f) λl=>j [ai,b,a,d,ai,a1,e,c,f,l]) w) (λk=>k [uu,uu,uu,uu,uu,uu,uu,uu,uu,uu] w) λa=>sti (pick c (gd a 9) cF) λf w=>cond f (bT .sub 3 b (ci 1) (λg w=>(Inv g w)/\((μ g w)<m)) w) (df K (aM ai a1 i10 b (zV p 46 [i10,b,c,c,gd a 0,gd a 1,gd a 2,gd a 3,gd a 4,gd a 5,gd a 6,gd a 7,gd a 8,gd a 9,f])) w)) w.drew):ka K (aM ai a1 i10 j11 zf) w:=by refine aZ (cd f127 (b1 248)) (zr [(11,1),(46,17)]) kr (vP [11] Inv) (vQ [11] μ) q ?_;intro o t r;have h:=s _ (zM zf (gd o) (zr [(11,1),(46,17)])) t _ r rfl;revert h;generalize (df K)=qc0;exact mpF
def zW(h:bF .gtr 3 i10 j11 (λa w=>cond a (aL (λS w=>hI S 172 ai a1 λj=>hL S 32 j λk=>hI S 172 ai j11 λl=>hL S 32 l λm=>hI S 172 ai j11 λn=>sto Q 32 n k (λ_=>aL λS w=>hI S 172 ai a1 λo=>sto Q 32 o m (λ_=>K (.tuple #[j11,cT])) w) w) w.drew) (aL (λS w=>hI S 172 ai j11 λb=>hL S 32 b λd=>hI S 172 ai i10 λe=>hL S 32 e λf=>hI S 172 ai i10 λg=>sto Q 32 g d (λ_=>aL λS w=>hI S 172 ai j11 λi=>sto Q 32 i f (λ_=>gT K (aM ai a1 i10 j11 (zV (zV zf 63 [i10,j11,a]) 81 [ai,i10,ai,j11,ai,j11,b,d,ai,i10,e,f,g,i]))) w) w) w.drew)) w):df K (aM ai a1 i10 j11 zf) w:=by delta df;refine Eq.mp (qH (λc=>aj Q c _ _ _ _ w) (by kernel_rfl:(rep [1,1] (cd f127 (b1 255)) (cd f127 (b1 63)))=(cd f127 (b1 63)))) ?_;revert h;delta gT;generalize (cd f127 (b1 255))=xc0;exact mpF
def zN(h:nC i10 (λa=>bT .sub 3 j11 (ci 1) λb=>kb K (aM ai a1 a b (zV zf 95 [i10,a,j11,b]))) w):gT K (aM ai a1 i10 j11 zf) w:=mpK h
def zQ(Inv:oF->oF->oG->Prop)(μ:oF->oF->oG->Nat)(f:Inv i10 j11 w)(i:∀(a b:oF) (e:oD) (w:oG) (m:Nat),Inv a b w->m=μ a b w ->
  gU K (λc S=>(Inv (gd c 10) (gd c 11) S)/\((μ (gd c 10) (gd c 11) S)<m)) (aM ai a1 a b e) w):kb K (aM ai a1 i10 j11 zf) w:=by refine aZ (cd f127 (b1 8184)) (zr [(10,2),(99,54)]) kr (vP [10,11] Inv) (vQ [10,11] μ) f ?_;intro d j g;have h:=i _ _ (zM zf (gd d) (zr [(10,2),(99,54)])) j _ g rfl;revert h;delta gU dh;generalize (br K)=qc0;exact mpF
def zR(Inv:oF->oG->Prop)(μ:oF->oG->Nat)(s:Inv i10 w)(u:∀(b:oF) (r:oD) (w:oG) (m:Nat),Inv b w->m=μ b w ->
  sti (bF .leq 3 b j11) (λc w=>aT c true (λl=>sI 172 ai b (λd=>sL 32 d λe=>sI 172 ai a1 λf=>sL 32 f λg=>sti (call Q 125 #[e,g]) λn=>l [ai,b,d,e,ai,a1,f,g,n]) w) (λk=>k [uu,uu,uu,uu,uu,uu,uu,uu,uu] w) λa=>sti (pick c (gd a 8) cF) λi w=>cond i (nC b (λj w=>(Inv j w)/\((μ j w)<m)) w) (dh K B1 (aM ai a1 b j11 (zV r 99 [b,j11,c,c,gd a 0,gd a 1,gd a 2,gd a 3,gd a 4,gd a 5,gd a 6,gd a 7,gd a 8,i])) w)) w.drew):gU K B1 (aM ai a1 i10 j11 zf) w:=by refine aZ (cd f127 (b1 130944)) (zr [(10,1),(99,16)]) kr (vP [10] Inv) (vQ [10] μ) s ?_;intro q v t;have h:=u _ (zM zf (gd q) (zr [(10,1),(99,16)])) v _ t rfl;revert h;generalize (br K)=qc0;generalize (dh K B1)=qc1;exact mpF
def zY(h:ke K B1 (aM ai a1 i10 j11 zf) w):dh K B1 (aM ai a1 i10 j11 zf) w:=by delta dh;revert h;delta ke di;generalize (br K)=qc0;exact mpF
def zS(Inv:oF->oG->Prop)(μ:oF->oG->Nat)(t:Inv j11 w)(v:∀(b:oF) (s:oD) (w:oG) (m:Nat),Inv b w->m=μ b w ->
  sti (bF .leq 3 i10 b) (λc w=>aT c true (λn=>sI 172 ai b (λd=>sL 32 d λe=>sI 172 ai a1 λf=>sL 32 f λg=>sti (call Q 125 #[e,g]) λi=>sti (un Q .not i) λo=>n [ai,b,d,e,ai,a1,f,g,i,o]) w) (λk=>k [uu,uu,uu,uu,uu,uu,uu,uu,uu,uu] w) λa=>sti (pick c (gd a 9) cF) λj w=>cond j (bT .sub 3 b (ci 1) (λl w=>(Inv l w)/\((μ l w)<m)) w) (di K B1 (aM ai a1 i10 b (zV s 115 [i10,b,c,c,gd a 0,gd a 1,gd a 2,gd a 3,gd a 4,gd a 5,gd a 6,gd a 7,gd a 8,gd a 9,j])) w)) w.drew):ke K B1 (aM ai a1 i10 j11 zf) w:=by refine aZ (cd f127 (b1 261896)) (zr [(11,1),(115,17)]) kr (vP [11] Inv) (vQ [11] μ) t ?_;intro r x u;have h:=v _ (zM zf (gd r) (zr [(11,1),(115,17)])) x _ u rfl;revert h;generalize (br K)=qc0;generalize (di K B1)=qc1;exact mpF
def zZ(h:bF .gtr 3 i10 j11 (λa w=>cond a (br K (sJ ai a1 j11 (zV (zV zf 10 [i10]) 132 [i10,j11,a])) w) (aL (λS w=>hI S 172 ai j11 λb=>hL S 32 b λc=>hI S 172 ai i10 λd=>hL S 32 d λe=>hI S 172 ai i10 λf=>sto Q 32 f c (λ_=>aL λS w=>hI S 172 ai j11 λg=>sto Q 32 g e (λ_=>nC i10 λi=>bT .sub 3 j11 (ci 1) λj=>B1 (aM ai a1 i j (zV zf 132 [i10,j11,a,ai,i10,ai,j11,ai,j11,b,c,ai,i10,d,e,f,g,i10,i,j11,j]))) w) w) w.drew)) w):di K B1 (aM ai a1 i10 j11 zf) w:=by delta di;revert h;generalize (br K)=qc0;exact mpF
def zX(h:aL (λS w=>hI S 172 ai a1 λa=>hL S 32 a λb=>hI S 172 ai j11 λc=>hL S 32 c λd=>hI S 172 ai j11 λe=>sto Q 32 e b (λ_=>aL λS w=>hI S 172 ai a1 λf=>sto Q 32 f d (λ_=>K (.tuple #[j11,cF])) w) w) w.drew):br K (sJ ai a1 j11 zf) w:=mpK h
end
attribute [irreducible] de jz df ka gT br kb dh gU di ke
def vX{K:KV}(h:lN 172 H (λa=>conv Q 3 188 a λb=>call Q 82 #[b] λb=>call Q 111 #[H,ci 0,a,b] λ_=>K (.tuple #[])) w):Gives Q 96 #[H] w K:=aw func96 kr (mpK h)
def eG(ai a1 b2 aX aF ay:oF)(zf:oD):=ai::a1::b2::aX::zT zf 4 4 (aF::ay::zT zf 10 124 ([]))
def tU(ai a1 b2 aX:oF)(zf:oD):=ai::a1::b2::aX::zT zf 4 130 ([])
def io(ai a1 b2 aX aF ay aR t35:oF)(zf:oD):=ai::a1::b2::aX::zT zf 4 4 (aF::ay::aR::zT zf 11 24 (t35::zT zf 36 98 ([])))
def fP(ai a1 b2 aX aF ay aR:oF)(zf:oD):=ai::a1::b2::aX::zT zf 4 4 (aF::ay::aR::zT zf 11 123 ([]))
def kR(ai a1 b2 aX aF ay aR bZ ju t50:oF)(zf:oD):=ai::a1::b2::aX::zT zf 4 4 (aF::ay::aR::bZ::ju::zT zf 13 37 (t50::zT zf 51 83 ([])))
def fQ(ai a1 b2 aX aF ay aR bZ ju:oF)(zf:oD):=ai::a1::b2::aX::zT zf 4 4 (aF::ay::aR::bZ::ju::zT zf 13 121 ([]))
def ip(ai a1 b2 aX aF ay aR bZ t68:oF)(zf:oD):=ai::a1::b2::aX::zT zf 4 4 (aF::ay::aR::bZ::zT zf 12 56 (t68::zT zf 69 65 ([])))
def fR(ai a1 b2 aX aF ay aR bZ:oF)(zf:oD):=ai::a1::b2::aX::zT zf 4 4 (aF::ay::aR::bZ::zT zf 12 122 ([]))
def iq(ai a1 b2 aX aR lO cC:oF)(zf:oD):=ai::a1::b2::aX::zT zf 4 6 (aR::zT zf 11 3 (lO::cC::zT zf 16 118 ([])))
def pj(K:KV):KE:=aj Q (cd f111 [1,1,0]) (rk f111 K) (xx xf (rk f111 K) 0) (rk f111 K)
def dW(K:KV)(B1:KE):KE:=kY f111 (b1 911) B1 (xx (xx xf (rk f111 K) 0) B1 1) K
def kP(K:KV)(B1:KE):KE:=aj Q (cd f111 (b1 1821)) (dW K B1) (xx (xx xf (rk f111 K) 0) B1 1) (rk f111 K)
def dX(K:KV)(B1:KE):KE:=kY f111 (b1 3647) B1 (xx (xx xf (rk f111 K) 0) B1 1) K
def kQ(K:KV)(B1:KE):KE:=aj Q (cd f111 (b1 7293)) (dX K B1) (xx (xx xf (rk f111 K) 0) B1 1) (rk f111 K)
def dY(K:KV)(B1:KE):KE:=kY f111 (b1 7295) B1 (xx (xx xf (rk f111 K) 0) B1 1) K
def il(K:KV)(B1:KE):KE:=aj Q (cd f111 (b1 14589)) (dY K B1) (xx (xx xf (rk f111 K) 0) B1 1) (rk f111 K)
def im(K:KV)(B1:KE):KE:=aj Q (cd f111 (b1 29183)) B1 (xx (xx xf (rk f111 K) 0) B1 1) (rk f111 K)
abbrev uQ(K:KV)(hA0:KE)(ai a1 b2 aX:oF)(w:oG):Prop :=
  hA0 (eG ai a1 b2 aX cT cT zu) w
section
variable {K:KV}{ai a1 b2 aX aF ay aR bZ ju lO cC t35 t50 t68:oF}  
def CL{K:KV}(h:uQ K (aj Q (cd f111 [1,1,0]) (rk f111 K) (λi=>@Bool.rec (λ_=>KE) ((λ_ _ _=>False) i) (rk f111 K) (Nat.beq i 0)) (rk f111 K)) Y H Z U w):aj Q (cd f111 []) (rk f111 K) xf (rk f111 K) (tU Y H Z U zu) w:=Eq.mp kr h
def tV{K:KV}(h:uQ K (pj K) Y H Z U w):Gives Q 111 #[Y,H,Z,U] w K:=aw func111 kr (Eq.mp (qH (λc=>aj Q c (rk f111 K) xf (rk f111 K) (tU Y H Z U zu) w) (by kernel_rfl:(cd f111 [])=(cd f111 []))) (CL h))
def AY{K:KV}(B1:KE)(a:Code)(h:bF .sub 3 Z H (λb=>bT .leq 3 b (ci 12) λc w=>cond c (call Q 119 #[J,H,Z] (λ_=>K (.tuple #[])) w) (bT .eql 3 U (ci 0) (λd w=>cond d (call Q 120 #[J,H,Z] (λ_=>K (.tuple #[])) w) (un Q .not Y (λe=>aj Q a (aj Q (cd f111 (b1 911)) B1 (λi=>@Bool.rec (λ_=>KE) ((λi=>@Bool.rec (λ_=>KE) ((λ_ _ _=>False) i) (rk f111 K) (Nat.beq i 0)) i) B1 (Nat.beq i 1)) (rk f111 K)) (λi=>@Bool.rec (λ_=>KE) ((λi=>@Bool.rec (λ_=>KE) ((λ_ _ _=>False) i) (rk f111 K) (Nat.beq i 0)) i) B1 (Nat.beq i 1)) (rk f111 K) (io J H Z U Y C b e (zV (zV (zV zf 19 [Z,H,b,b,c]) 28 [U,d]) 34 [Y]))) w)) w)) w):aj Q (rep (b1 93) a (cd f111 [1,1,0,0])) B1 (xx xf (rk f111 K) 0) (rk f111 K) (eG J H Z U Y C zf) w:=Eq.mp kr h
def sT{K:KV}(Inv:vI 5)(μ:vM 5)(j:Inv Z U Y J C w)(n:∀(f g d a b:oF) (i:oD) (w:oG) (m:Nat),Inv f g d a b w->m=μ f g d a b w ->
  bF .sub 3 g f (λc=>bT .leq 3 c (ci 12) λe w=>cond e (call Q 119 #[H,f,g] (λ_=>K (.tuple #[])) w) (bT .eql 3 d (ci 0) (λh w=>cond h (call Q 120 #[H,f,g] (λ_=>K (.tuple #[])) w) (un Q .not a (λj=>kP K (λc S=>(Inv (gd c 1) (gd c 2) (gd c 3) (gd c 8) (gd c 9) S)/\((μ (gd c 1) (gd c 2) (gd c 3) (gd c 8) (gd c 9) S)<m)) (io H f g d a b c j (zV (zV (zV i 19 [g,f,c,c,e]) 28 [d,h]) 34 [a]))) w)) w)) w):pj K (eG H Z U Y J C zf) w:=by
 refine aZ (cd f111 [1,1,0,0]) (zr [(1,3),(8,126)]) kr (vP [1,2,3,8,9] Inv) (vQ [1,2,3,8,9] μ) j ?_;intro e O l;have h:=n _ _ _ _ _ (zM zf (gd e) (zr [(1,3),(8,126)])) O _ l rfl
 have k:aj Q (rep (b1 93) (cd f111 (b1 1821)) (cd f111 [1,1,0,0])) (λc S=>Inv (gd c 1) (gd c 2) (gd c 3) (gd c 8) (gd c 9) S/\μ (gd c 1) (gd c 2) (gd c 3) (gd c 8) (gd c 9) S<μ (gd e 1) (gd e 2) (gd e 3) (gd e 8) (gd e 9) O) (xx xf (rk f111 K) 0) (rk f111 K) (eG H (gd e 1) (gd e 2) (gd e 3) (gd e 8) (gd e 9) (zM zf (gd e) (zr [(1,3),(8,126)]))) O:=AY (λc S=>Inv (gd c 1) (gd c 2) (gd c 3) (gd c 8) (gd c 9) S/\μ (gd c 1) (gd c 2) (gd c 3) (gd c 8) (gd c 9) S<μ (gd e 1) (gd e 2) (gd e 3) (gd e 8) (gd e 9) O) (cd f111 (b1 1821)) (Eq.mp kr h)
 exact Eq.mp kr k
abbrev sK(K:KV)(B1:KE)(hA0:KE)(ai a1 b2 aX aF ay aR t35:oF)(zf:oD)(w:oG):Prop :=
  cond t35 (call Q 121 #[ai,a1,b2] (λa=>bT .sub 3 aX (ci 1) λb=>hA0 (fP ai a1 b2 b aF ay aR (zV zf 35 [t35,ai,a1,b2,a,aX,b]))) w) (hA0 (fP ai a1 b2 aX aF ay aR (zV zf 35 [t35])) w)
def AQ{K:KV}(B1:KE)(a:KE)(h:sK K B1 a Z1 H Z U Y J C U2 zf w):aj Q (cd f111 (b1 1821)) a (xx (xx xf (rk f111 K) 0) B1 1) (rk f111 K) (io Z1 H Z U Y J C U2 zf) w:=Eq.mp kr h
def AR{K:KV}(h:sK K B1 (dW K B1) Z1 H Z U Y J C U2 zf w):kP K B1 (io Z1 H Z U Y J C U2 zf) w:=by delta kP;exact Eq.mp (qH (λc=>aj Q c (dW K B1) (xx (xx xf (rk f111 K) 0) B1 1) (rk f111 K) (io Z1 H Z U Y J C U2 zf) w) (by kernel_rfl:(cd f111 (b1 1821))=(cd f111 (b1 1821)))) (AQ B1 (dW K B1) h)
abbrev sU(K:KV)(B1:KE)(hA0:KE)(ai a1 b2 aX aF ay aR:oF)(zf:oD)(w:oG):Prop :=
  call Q 122 #[ai,a1,b2] (λa=>ext Q a 0 λb=>ext Q a 1 λc=>bT .eql 219 c (ci 2) λd=>hA0 (kR ai a1 b2 aX aF ay aR b c d (zV zf 42 [a,ai,a1,b2,a,b,c,c]))) w
def AZ{K:KV}(B1:KE)(a:Code)(h:sU K B1 (aj Q a (aj Q (cd f111 (b1 3647)) B1 (λi=>@Bool.rec (λ_=>KE) ((λi=>@Bool.rec (λ_=>KE) ((λ_ _ _=>False) i) (rk f111 K) (Nat.beq i 0)) i) B1 (Nat.beq i 1)) (rk f111 K)) (λi=>@Bool.rec (λ_=>KE) ((λi=>@Bool.rec (λ_=>KE) ((λ_ _ _=>False) i) (rk f111 K) (Nat.beq i 0)) i) B1 (Nat.beq i 1)) (rk f111 K)) Z1 H Z U Y J C zf w):aj Q (rep [1,0,1] a (cd f111 (b1 911))) B1 (xx (xx xf (rk f111 K) 0) B1 1) (rk f111 K) (fP Z1 H Z U Y J C zf) w:=Eq.mp kr h
def B8{K:KV}(h:sU K B1 (kQ K B1) Z1 H Z U Y J C zf w):dW K B1 (fP Z1 H Z U Y J C zf) w:=by delta dW;exact Eq.mp (qH (λc=>aj Q c B1 (xx (xx xf (rk f111 K) 0) B1 1) (rk f111 K) (fP Z1 H Z U Y J C zf) w) (by kernel_rfl:(rep [1,0,1] (cd f111 (b1 7293)) (cd f111 (b1 911)))=(cd f111 (b1 911)))) (AZ B1 (cd f111 (b1 7293)) h)
abbrev sQ(K:KV)(B1:KE)(hA0:KE)(ai a1 b2 aX aF ay aR bZ ju t50:oF)(zf:oD)(w:oG):Prop :=
  cond t50 (call Q 123 #[ai,a1,b2] (λa=>bT .sub 3 b2 (ci 1) λb=>bF .sub 3 bZ a1 λc=>bF .sub 3 b c λd=>hA0 (fQ ai a1 b2 aX aF ay aR d (ci 1) (zV zf 50 [t50,ai,a1,b2,a,b2,b,bZ,a1,c,d]))) w) (hA0 (fQ ai a1 b2 aX aF ay aR bZ ju (zV zf 50 [t50])) w)
def AS{K:KV}(B1:KE)(a:KE)(h:sQ K B1 a Z1 H Z U Y J C U2 V2 X2 zf w):aj Q (cd f111 (b1 7293)) a (xx (xx xf (rk f111 K) 0) B1 1) (rk f111 K) (kR Z1 H Z U Y J C U2 V2 X2 zf) w:=Eq.mp kr h
def AT{K:KV}(h:sQ K B1 (dX K B1) Z1 H Z U Y J C U2 V2 X2 zf w):kQ K B1 (kR Z1 H Z U Y J C U2 V2 X2 zf) w:=by delta kQ;exact Eq.mp (qH (λc=>aj Q c (dX K B1) (xx (xx xf (rk f111 K) 0) B1 1) (rk f111 K) (kR Z1 H Z U Y J C U2 V2 X2 zf) w) (by kernel_rfl:(cd f111 (b1 7293))=(cd f111 (b1 7293)))) (AS B1 (dX K B1) h)
abbrev sX(K:KV)(B1:KE)(hA0:KE)(ai a1 b2 aX aF ay aR bZ ju:oF)(zf:oD)(w:oG):Prop :=
  aT aF true (λa=>a [ay] w) (λk=>k [uu] w) λus63=>pick aF (gd us63 0) cF λt64 w=>aT t64 true (λa=>bT .eql 219 ju (ci 1) (λb=>a [ju,b]) w) (λk=>k [uu,uu] w) λus66=>pick t64 (gd us66 1) cF λt68=>hA0 (ip ai a1 b2 aX aF ay aR bZ t68 (zV (zV zf 12 [ju]) 61 [aF,aF,gd us63 0,t64,t64,gd us66 0,gd us66 1]))
def B9{K:KV}(B1:KE)(a:Code)(h:sX K B1 (aj Q a (aj Q (cd f111 (b1 7295)) B1 (λi=>@Bool.rec (λ_=>KE) ((λi=>@Bool.rec (λ_=>KE) ((λ_ _ _=>False) i) (rk f111 K) (Nat.beq i 0)) i) B1 (Nat.beq i 1)) (rk f111 K)) (λi=>@Bool.rec (λ_=>KE) ((λi=>@Bool.rec (λ_=>KE) ((λ_ _ _=>False) i) (rk f111 K) (Nat.beq i 0)) i) B1 (Nat.beq i 1)) (rk f111 K)) Z1 H Z U Y J C U2 V2 zf w):aj Q (rep [0,1] a (cd f111 (b1 3647))) B1 (xx (xx xf (rk f111 K) 0) B1 1) (rk f111 K) (fQ Z1 H Z U Y J C U2 V2 zf) w:=Eq.mp kr h
def Ba{K:KV}(h:sX K B1 (il K B1) Z1 H Z U Y J C U2 V2 zf w):dX K B1 (fQ Z1 H Z U Y J C U2 V2 zf) w:=by delta dX;exact Eq.mp (qH (λc=>aj Q c B1 (xx (xx xf (rk f111 K) 0) B1 1) (rk f111 K) (fQ Z1 H Z U Y J C U2 V2 zf) w) (by kernel_rfl:(rep [0,1] (cd f111 (b1 14589)) (cd f111 (b1 3647)))=(cd f111 (b1 3647)))) (B9 B1 (cd f111 (b1 14589)) h)
abbrev sR(K:KV)(B1:KE)(hA0:KE)(ai a1 b2 aX aF ay aR bZ t68:oF)(zf:oD)(w:oG):Prop :=
  cond t68 (call Q 124 #[ai,a1,b2] (λa w=>cond a (K (.tuple #[]) w) (hA0 (fR ai a1 b2 aX aF ay aR bZ (zV zf 68 [t68,ai,a1,b2,a])) w)) w) (hA0 (fR ai a1 b2 aX aF ay aR bZ (zV zf 68 [t68])) w)
def AU{K:KV}(B1:KE)(a:KE)(h:sR K B1 a Z1 H Z U Y J C U2 V2 zf w):aj Q (cd f111 (b1 14589)) a (xx (xx xf (rk f111 K) 0) B1 1) (rk f111 K) (ip Z1 H Z U Y J C U2 V2 zf) w:=Eq.mp kr h
def AV{K:KV}(h:sR K B1 (dY K B1) Z1 H Z U Y J C U2 V2 zf w):il K B1 (ip Z1 H Z U Y J C U2 V2 zf) w:=by delta il;exact Eq.mp (qH (λc=>aj Q c (dY K B1) (xx (xx xf (rk f111 K) 0) B1 1) (rk f111 K) (ip Z1 H Z U Y J C U2 V2 zf) w) (by kernel_rfl:(cd f111 (b1 14589))=(cd f111 (b1 14589)))) (AU B1 (dY K B1) h)
abbrev sY(K:KV)(B1:KE)(hA0:KE)(ai a1 b2 aX aF ay aR bZ:oF)(zf:oD)(w:oG):Prop :=
  sti (bT .gtr 3 a1 (ci 0)) (λa w=>aT a true (λa=>sti (bT .sub 3 a1 (ci 1)) (λb=>sI 172 ai b λc=>sL 32 c λd=>sI 172 ai bZ λe=>sL 32 e λf=>sti (call Q 125 #[d,f]) λg=>sti (un Q .not g) λh=>a [ai,a1,b,c,d,ai,bZ,e,f,g,h]) w) (λk=>k [uu,uu,uu,uu,uu,uu,uu,uu,uu,uu,uu] w) λb=>sti (pick a (gd b 10) cF) λc w=>cond c (call Q 126 #[ai,a1,b2,bZ] (λd=>B1 (eG ai d b2 aX aF ay (zV (zV (zV zf 10 [aR,bZ]) 13 [d]) 73 [a1,a,a,gd b 0,gd b 1,gd b 2,gd b 3,gd b 4,gd b 5,gd b 6,gd b 7,gd b 8,gd b 9,gd b 10,c,ai,a1,b2,bZ,d,d]))) w) (call Q 127 #[ai,a1,b2,bZ] (λd=>ext Q d 0 λe=>ext Q d 1 λf=>hA0 (iq ai a1 b2 aX aR e f (zV (zV (zV (zV zf 8 [aF,ay]) 11 [bZ]) 73 [a1,a,a,gd b 0,gd b 1,gd b 2,gd b 3,gd b 4,gd b 5,gd b 6,gd b 7,gd b 8,gd b 9,gd b 10,c]) 94 [d,ai,a1,b2,bZ,d,e,f]))) w)) w.drew
def Bb{K:KV}(B1:KE)(a:Code)(h:sY K B1 (aj Q a B1 (λi=>@Bool.rec (λ_=>KE) ((λi=>@Bool.rec (λ_=>KE) ((λ_ _ _=>False) i) (rk f111 K) (Nat.beq i 0)) i) B1 (Nat.beq i 1)) (rk f111 K)) Z1 H Z U Y J C U2 zf w):aj Q (rep [1,1] a (cd f111 (b1 7295))) B1 (xx (xx xf (rk f111 K) 0) B1 1) (rk f111 K) (fR Z1 H Z U Y J C U2 zf) w:=Eq.mp kr h
def Bc(h:sY K B1 (im K B1) ai a1 b2 aX aF ay aR bZ zf w):dY K B1 (fR ai a1 b2 aX aF ay aR bZ zf) w:=by delta dY;exact Eq.mp (qH (λc=>aj Q c B1 (xx (xx xf (rk f111 K) 0) B1 1) (rk f111 K) (fR ai a1 b2 aX aF ay aR bZ zf) w) (by kernel_rfl:(rep [1,1] (cd f111 (b1 29183)) (cd f111 (b1 7295)))=(cd f111 (b1 7295)))) (Bb B1 (cd f111 (b1 29183)) h)
abbrev sS(K:KV)(B1:KE)(ai a1 b2 aX aR lO cC:oF)(zf:oD)(w:oG):Prop :=
  bF .sub 3 lO a1 (λa=>bF .sub 3 b2 lO λb=>bT .quo 3 aR (ci 8) λc=>lS a b λd w=>cond d (bF .geq 3 a c (λe=>call Q 111 #[ai,a1,lO,aX] λf=>nC lO λg=>B1 (eG ai g b2 aX e cC (zV (zV (zV zf 10 [aR]) 14 [lO,cC,a,b,c]) 102 [cC,lO,a1,a,b2,lO,b,aR,c,a,b,d,a,c,e,ai,a1,lO,aX,f,lO,g]))) w) (bF .geq 3 b c (λe=>nC lO λf=>call Q 111 #[ai,f,b2,aX] λg=>B1 (eG ai a1 lO aX e cC (zV (zV (zV (zV zf 10 [aR]) 14 [lO,cC,a,b,c]) 102 [cC,lO,a1,a,b2,lO,b,aR,c,a,b,d]) 124 [b,c,e,ai,lO,f,b2,aX,g,lO]))) w)) w
def AW{K:KV}(B1:KE)(h:sS K B1 Z1 H Z U Y J C zf w):aj Q (cd f111 (b1 29183)) B1 (xx (xx xf (rk f111 K) 0) B1 1) (rk f111 K) (iq Z1 H Z U Y J C zf) w:=Eq.mp kr h
def AX(h:sS K B1 ai a1 b2 aX aR lO cC zf w):im K B1 (iq ai a1 b2 aX aR lO cC zf) w:=by delta im;exact Eq.mp (qH (λc=>aj Q c B1 (xx (xx xf (rk f111 K) 0) B1 1) (rk f111 K) (iq ai a1 b2 aX aR lO cC zf) w) (by kernel_rfl:(cd f111 (b1 29183))=(cd f111 (b1 29183)))) (AW B1 h)
end
attribute [irreducible] pj dW kP dX kQ dY il im
def IB{K:KV}(h:cond cF (conv Q 188 206 H (λa=>call Q 105 #[a] K) w) (call Q 106 #[H] K w)):Gives Q 82 #[H] w K:=aw func82 kr (mpK h)
def fE(ai a1 b2 i6:oF)(zf:oD):=ai::a1::b2::zT zf 3 3 (i6::zT zf 7 42 ([]))
def rf(ai a1 b2 i6 j7:oF)(zf:oD):=ai::a1::b2::zT zf 3 3 (i6::j7::zT zf 8 41 ([]))
def iw(K:KV):KE:=aj Q (cd f119 [1,0]) (rk f119 K) (xx xf (rk f119 K) 0) (rk f119 K)
def cM(K:KV)(B1:KE):KE:=kY f119 (b1 51) B1 (xx xf (rk f119 K) 0) K
def iy(K:KV)(B1:KE):KE:=aj Q (cd f119 (b1 402)) (cM K B1) (xx (xx (xx xf (rk f119 K) 0) (cM K B1) 1) (cM K B1) 2) (rk f119 K)
section
variable {K:KV}{ai a1 b2 i6 j7:oF}  
def rh{K:KV}(h:nC H (λa=>iw K (fE U H Z a (zV zu 8 [H,a]))) w):Gives Q 119 #[U,H,Z] w K:=aw func119 kr (mpK h)
def pX(Inv:oF->oG->Prop)(μ:oF->oG->Nat)(e:Inv i6 w)(g:∀(a:oF) (d:oD) (w:oG) (m:Nat),Inv a w->m=μ a w ->
  lS a b2 (λb w=>cond b (iy K (λb S=>(Inv (gd b 6) S)/\((μ (gd b 6) S)<m)) (rf ai a1 b2 a a (zV (zV d 10 [a,b2,b]) 15 [a])) w) (K (.tuple #[]) w)) w):iw K (fE ai a1 b2 i6 zf) w:=by refine aZ (cd f119 [1,0,0]) (zr [(6,2),(10,39)]) kr (vP [6] Inv) (vQ [6] μ) e ?_;intro c i f;have h:=g _ (zM zf (gd c) (zr [(6,2),(10,39)])) i _ f rfl;exact mpK h
def xD(Inv:oF->oG->Prop)(μ:oF->oG->Nat)(p:Inv j7 w)(q:∀(b:oF) (o:oD) (w:oG) (m:Nat),Inv b w->m=μ b w ->
  sti (bF .gtr 3 b a1) (λc w=>aT c true (λe=>sI 172 ai b (λc=>sL 32 c λa=>sti (bT .sub 3 b (ci 1)) λd=>sI 172 ai d λf=>sL 32 f λg=>sti (call Q 125 #[a,g]) λh=>e [ai,b,c,a,ai,b,d,f,g,h]) w) (λk=>k [uu,uu,uu,uu,uu,uu,uu,uu,uu,uu] w) λa=>sti (pick c (gd a 9) cF) λd w=>cond d (aL (λS w=>hld (λ_=>True) (bT .sub 3 b (ci 1)) λa=>hld (λ_=>True) (bT .sub 3 b (ci 1)) λc=>hI S 172 ai c λc=>hL S 32 c λc=>hI S 172 ai b λf=>hL S 32 f λg=>hI S 172 ai b λi=>sto Q 32 i c (λ_=>aL λS w=>hI S 172 ai a λj=>sto Q 32 j g (λ_=>bT .sub 3 b (ci 1) λa w=>(Inv a w)/\((μ a w)<m)) w) w) w.drew) (cM K B1 (fE ai a1 b2 i6 (zV (zV o 7 [b]) 16 [b,a1,c,c,gd a 0,gd a 1,gd a 2,gd a 3,gd a 4,gd a 5,gd a 6,gd a 7,gd a 8,gd a 9,d])) w)) w.drew):iy K B1 (rf ai a1 b2 i6 j7 zf) w:=by refine aZ (cd f119 (b1 804)) (zr [(7,1),(16,33)]) kr (vP [7] Inv) (vQ [7] μ) p ?_;intro n r hI;have h:=q _ (zM zf (gd n) (zr [(7,1),(16,33)])) r _ hI rfl;revert h;generalize (cM K B1)=qc0;exact mpF
def pY(h:nC i6 (λa=>B1 (fE ai a1 b2 a (zV zf 13 [i6,a]))) w):cM K B1 (fE ai a1 b2 i6 zf) w:=mpK h
end
attribute [irreducible] iw cM iy
def Ov{K:KV}(h:call Q 84 #[Z] (λa w=>aT a true (λd=>call Q 84 #[H] (λa=>un Q .not a λb=>d [H,a,b]) w) (λk=>k [uu,uu,uu] w) λc=>pick a (gd c 2) cF λb w=>aT b false (λb=>bF .lss 32 Z H (λa=>b [Z,H,a]) w) (λk=>k [uu,uu,uu] w) λa=>pick b cT (gd a 2) K) w):Gives Q 125 #[Z,H] w K:=aw func125 kr (mpK h)
def Dj{K:KV}(h:bF .neq 32 H H K w):Gives Q 84 #[H] w K:=aw func84 kr (mpK h)
def uK(x0 n2 t4:oF)(zf:oD):=x0::zf 1::n2::zf 3::t4::zT zf 5 20 ([])
def Fg(x0:oF)(zf:oD):=x0::zT zf 1 24 ([])
def dS(x0 n2:oF)(zf:oD):=x0::zf 1::n2::zT zf 3 22 ([])
def uL(x0 n2 t8:oF)(zf:oD):=x0::zf 1::n2::zT zf 3 5 (t8::zT zf 9 16 ([]))
def uM(x0 n2 t14:oF)(zf:oD):=x0::zf 1::n2::zT zf 3 11 (t14::zT zf 15 10 ([]))
def lY(K:KV):KE:=kZ f106 [1,1] K
def uH(K:KV):KE:=aj Q (cd f106 [1,0,1]) (lY K) xf (rk f106 K)
def lZ(K:KV):KE:=kZ f106 [1,1,1] K
def uI(K:KV):KE:=aj Q (cd f106 [1,1,0,1]) (lZ K) xf (rk f106 K)
def mc(K:KV):KE:=kZ f106 [1,1,1,1] K
def uJ(K:KV):KE:=aj Q (cd f106 (b1 61)) (mc K) xf (rk f106 K)
abbrev Gl(K:KV)(hA0:KE)(x0:oF)(w:oG):Prop :=
  bT .geq 32 x0 (cu 4294967296) (λa=>hA0 (uK x0 (ci 0) a (zV zu 3 [x0]))) w
section
variable {K:KV}{x0 n2 t4 t8 t14:oF}  
def QT{K:KV}(a:Code)(h:Gl K (aj Q a (aj Q (cd f106 [1,1]) (rk f106 K) (λ_ _ _=>False) (rk f106 K)) (λ_ _ _=>False) (rk f106 K)) H w):aj Q (rep [1,0,1] a (cd f106 [])) (rk f106 K) xf (rk f106 K) (Fg H zu) w:=Eq.mp kr h
def Fh{K:KV}(h:Gl K (uH K) H w):Gives Q 106 #[H] w K:=aw func106 kr (Eq.mp (qH (λc=>aj Q c (rk f106 K) xf (rk f106 K) (Fg H zu) w) (by kernel_rfl:(rep [1,0,1] (cd f106 [1,0,1]) (cd f106 []))=(cd f106 []))) (QT (cd f106 [1,0,1]) h))
abbrev Cn(K:KV)(hA0:KE)(x0 n2 t4:oF)(zf:oD)(w:oG):Prop :=
  cond t4 (bT .shr 32 x0 (cu 32) (λa=>hA0 (dS a (ci 32) (zV zf 4 [t4,x0,a]))) w) (hA0 (dS x0 n2 (zV zf 4 [t4])) w)
def MP{K:KV}(a:KE)(h:Cn K a U H Z zf w):aj Q (cd f106 [1,0,1]) a xf (rk f106 K) (uK U H Z zf) w:=Eq.mp kr h
def Co{K:KV}(h:Cn K (lY K) U H Z zf w):uH K (uK U H Z zf) w:=by delta uH;exact Eq.mp (qH (λc=>aj Q c (lY K) xf (rk f106 K) (uK U H Z zf) w) (by kernel_rfl:(cd f106 [1,0,1])=(cd f106 [1,0,1]))) (MP (lY K) h)
abbrev Ct(K:KV)(hA0:KE)(x0 n2:oF)(zf:oD)(w:oG):Prop :=
  bT .geq 32 x0 (cu 65536) (λa=>hA0 (uL x0 n2 a (zV zf 7 [x0]))) w
def MS{K:KV}(a:Code)(h:Ct K (aj Q a (aj Q (cd f106 [1,1,1]) (rk f106 K) (λ_ _ _=>False) (rk f106 K)) (λ_ _ _=>False) (rk f106 K)) Z H zf w):aj Q (rep [0,1] a (cd f106 [1,1])) (rk f106 K) xf (rk f106 K) (dS Z H zf) w:=Eq.mp kr h
def Cu{K:KV}(h:Ct K (uI K) Z H zf w):lY K (dS Z H zf) w:=by delta lY;exact Eq.mp (qH (λc=>aj Q c (rk f106 K) xf (rk f106 K) (dS Z H zf) w) (by kernel_rfl:(rep [0,1] (cd f106 [1,1,0,1]) (cd f106 [1,1]))=(cd f106 [1,1]))) (MS (cd f106 [1,1,0,1]) h)
abbrev Cp(K:KV)(hA0:KE)(x0 n2 t8:oF)(zf:oD)(w:oG):Prop :=
  cond t8 (bT .shr 32 x0 (cu 16) (λa=>bT .add 3 n2 (ci 16) λb=>hA0 (dS a b (zV zf 8 [t8,x0,a,n2,b]))) w) (hA0 (dS x0 n2 (zV zf 8 [t8])) w)
def MQ{K:KV}(a:KE)(h:Cp K a U H Z zf w):aj Q (cd f106 [1,1,0,1]) a xf (rk f106 K) (uL U H Z zf) w:=Eq.mp kr h
def Cq{K:KV}(h:Cp K (lZ K) U H Z zf w):uI K (uL U H Z zf) w:=by delta uI;exact Eq.mp (qH (λc=>aj Q c (lZ K) xf (rk f106 K) (uL U H Z zf) w) (by kernel_rfl:(cd f106 [1,1,0,1])=(cd f106 [1,1,0,1]))) (MQ (lZ K) h)
abbrev Cv(K:KV)(hA0:KE)(x0 n2:oF)(zf:oD)(w:oG):Prop :=
  bT .geq 32 x0 (cu 256) (λa=>hA0 (uM x0 n2 a (zV zf 13 [x0]))) w
def MT{K:KV}(a:Code)(h:Cv K (aj Q a (aj Q (cd f106 [1,1,1,1]) (rk f106 K) (λ_ _ _=>False) (rk f106 K)) (λ_ _ _=>False) (rk f106 K)) Z H zf w):aj Q (rep [0,1] a (cd f106 [1,1,1])) (rk f106 K) xf (rk f106 K) (dS Z H zf) w:=Eq.mp kr h
def Cw(h:Cv K (uJ K) x0 n2 zf w):lZ K (dS x0 n2 zf) w:=by delta lZ;exact Eq.mp (qH (λc=>aj Q c (rk f106 K) xf (rk f106 K) (dS x0 n2 zf) w) (by kernel_rfl:(rep [0,1] (cd f106 (b1 61)) (cd f106 [1,1,1]))=(cd f106 [1,1,1]))) (MT (cd f106 (b1 61)) h)
abbrev Cr(K:KV)(hA0:KE)(x0 n2 t14:oF)(zf:oD)(w:oG):Prop :=
  cond t14 (bT .shr 32 x0 (cu 8) (λa=>bT .add 3 n2 (ci 8) λb=>hA0 (dS a b (zV zf 14 [t14,x0,a,n2,b]))) w) (hA0 (dS x0 n2 (zV zf 14 [t14])) w)
def MR{K:KV}(a:KE)(h:Cr K a U H Z zf w):aj Q (cd f106 (b1 61)) a xf (rk f106 K) (uM U H Z zf) w:=Eq.mp kr h
def Cs(h:Cr K (mc K) x0 n2 t14 zf w):uJ K (uM x0 n2 t14 zf) w:=by delta uJ;exact Eq.mp (qH (λc=>aj Q c (mc K) xf (rk f106 K) (uM x0 n2 t14 zf) w) (by kernel_rfl:(cd f106 (b1 61))=(cd f106 (b1 61)))) (MR (mc K) h)
abbrev Cx(K:KV)(x0 n2:oF)(zf:oD)(w:oG):Prop :=
  conv Q 32 5 x0 (λa=>idx Q 9 (Value.string (Al [0,1,2,2,3,3,3,3,4,4,4,4,4,4,4,4,5,5,5,5,5,5,5,5,5,5,5,5,5,5,5,5,6,6,6,6,6,6,6,6,6,6,6,6,6,6,6,6,6,6,6,6,6,6,6,6,6,6,6,6,6,6,6,6,7,7,7,7,7,7,7,7,7,7,7,7,7,7,7,7,7,7,7,7,7,7,7,7,7,7,7,7,7,7,7,7,7,7,7,7,7,7,7,7,7,7,7,7,7,7,7,7,7,7,7,7,7,7,7,7,7,7,7,7,7,7,7,7,8,8,8,8,8,8,8,8,8,8,8,8,8,8,8,8,8,8,8,8,8,8,8,8,8,8,8,8,8,8,8,8,8,8,8,8,8,8,8,8,8,8,8,8,8,8,8,8,8,8,8,8,8,8,8,8,8,8,8,8,8,8,8,8,8,8,8,8,8,8,8,8,8,8,8,8,8,8,8,8,8,8,8,8,8,8,8,8,8,8,8,8,8,8,8,8,8,8,8,8,8,8,8,8,8,8,8,8,8,8,8,8,8,8,8,8,8,8,8,8,8,8,8,8,8,8,8,8])) a λa=>conv Q 5 3 a λa=>bF .add 3 n2 a K) w
def MU{K:KV}(h:Cx K Z H zf w):aj Q (cd f106 [1,1,1,1]) (rk f106 K) xf (rk f106 K) (dS Z H zf) w:=Eq.mp kr h
def Cy(h:Cx K x0 n2 zf w):mc K (dS x0 n2 zf) w:=by delta mc;exact Eq.mp (qH (λc=>aj Q c (rk f106 K) xf (rk f106 K) (dS x0 n2 zf) w) (by kernel_rfl:(cd f106 [1,1,1,1])=(cd f106 [1,1,1,1]))) (MU h)
end
attribute [irreducible] lY uH lZ uI mc uJ
def Wb{l:List Int}(h:(pk l).2=true):l.all okA=true/\pk l=(l.sum,true):=by
 unfold pk at *;cases a:l.all okA with
 | true=>exact⟨rfl,rfl⟩
 | false=>rw[a]at h;cases h
def Wa{l:List Int}(h:l.all okA=true):pk l=(l.sum,true):=by unfold pk;rw[h]
def Ze{l:List Int}:(pk l).2=true↔l.all okA=true:=⟨λh=>(Wb h).1,λh=>by rw[Wa h]⟩
def r6{p:Nat->Prop}:(∀k∈List.range 6,p k)↔p 0/\p 1/\p 2/\p 3/\p 4/\p 5:=by
 constructor
 .intro h;exact⟨h 0 oB,h 1 oB,h 2 oB,h 3 oB,h 4 oB,h 5 oB⟩
 .rintro⟨a,b,c,d,e,f⟩ k g
  have:k<6:=by simpa using g
  match k,this with
  | 0,_=>exact a
  | 1,_=>exact b
  | 2,_=>exact c
  | 3,_=>exact d
  | 4,_=>exact e
  | 5,_=>exact f
def zag{k:Nat}:(uc A k).2=true↔okA (nA A k)=true/\okA (nA A (6+k))=true/\okA (nA A (12+k))=true/\(∀j∈List.range 6,okA (nA A (18+6*k+j))=true)/\∀j∈List.range 6,okA (nA A (18+6*j+k))=true:=by
 unfold uc;simp only[oM,Ze,xd,inL,List.all_cons,List.all_map,jR,Function.comp];constructor
 .rintro⟨⟨a,b⟩,c,d,e⟩;exact⟨c,a,d,b,e⟩
 .rintro⟨c,a,d,b,e⟩;exact⟨⟨a,b⟩,c,d,e⟩
def Sj{k:Nat}(h:(uc A k).2=true):(uc A k).1=kK A k:=by have a:=h;unfold uc at a;simp only[oM]at a;obtain⟨b,c⟩:=a;unfold uc;simp only;rw[(Wb b).2,(Wb c).2];simp only[xd,inL,kK,List.range,List.range.loop,jK,List.map_nil,List.sum_cons,List.sum_nil];omega
def zcq(A:List Int):FM A=nu A:=by
 have c:FM A=true↔nu A=true:=by
  unfold FM nu;simp only[oM,jR,oP,Sv,Ze];constructor
  .rintro⟨h,d,e⟩;have r:∀k∈List.range 6,kK A k=(uc A k).1:=λk a=>(Sj (h k a).1.1.1).symm;refine⟨⟨λk a=>?_,λk a=>?_⟩,?_⟩
   .obtain⟨⟨⟨g,u⟩,i⟩,l⟩:=h k a;obtain⟨m,n,o,p,v⟩:=zag.1 g;exact⟨⟨⟨⟨⟨m,n⟩,o⟩,i⟩,l⟩,p⟩
   .rw[r k a];exact(h k a).1.1.2
   .rw[Wa (by simpa only[jR]using d)]at e;exact e
  .rintro⟨⟨h,t⟩,e⟩;have b:∀k∈List.range 6,(uc A k).2=true:=λk a=>zag.2 ⟨(h k a).1.1.1.1.1,(h k a).1.1.1.1.2,(h k a).1.1.1.2,(h k a).2,λj s=>(h j s).2 k a⟩;have d:(gL A).all okA=true:=by
    simp only[gL,List.all_map,jR,Function.comp];exact λk a=>(h k a).1.1.1.1.1
   refine⟨λk a=>⟨⟨⟨b k a,?_⟩,(h k a).1.1.2⟩,(h k a).1.2⟩,jR.1 d,?_⟩
   .rw[Sj (b k a)];exact t k a
   .rw[Wa d];exact e
 cases f:FM A with
 | true=>rw[c.1 f]
 | false =>
  cases q:nu A with
  | false=>rfl
  | true=>rw[c.2 q]at f;cases f
def Kp(A:List Int)(k:Nat):Int:=match FM A with|true=>(uc A k).1|false=>0
def Yu(A:List Int){k:Nat}(a:k<6):Kp A k=match nu A with|true=>kK A k|false=>0:=by
 unfold Kp;rw[<-zcq];cases h:FM A with
 | false=>rfl
 | true =>
  unfold FM at h;simp only[oM,jR,oP]at h;exact Sj (h.1 k (by simpa using a)).1.1.1
def shr(a:Int)(c k:Nat):Int:=a / (c:Int)+if (k:Int)<a%(c:Int)then 1 else 0
def zhO(p:Nat->Bool)(n:Nat):Nat->Nat
 | 0=>n
 | f+1=>if p (n-(f+1))then n-(f+1)else zhO p n f
def fs(p:Nat->Bool)(n i:Nat):Nat:=zhO p n (n-i)
def NG(Ol t6 t7 t8:oF)(zf:oD):=zf 0::zf 1::Ol::zT zf 3 3 (t6::t7::t8::zT zf 9 14 ([]))
def NH(Ol:oF)(zf:oD):=zf 0::zf 1::Ol::zT zf 3 20 ([])
def pT(K:KV):KE:=kZ f243 [1,1] K
def Br(K:KV):KE:=aj Q (cd f243 [1,0,1,0]) (pT K) (xx xf (pT K) 0) (rk f243 K)
section
variable {K:KV}{Ol t6 t7 t8:oF}  
def Xi{K:KV}(h:lN 346 H (λa=>Br K (NG (ci 0) H a (ci 0) (zV (zV zu 0 [H]) 3 [cF]))) w):Gives Q 243 #[H] w K:=aw func243 kr (mpK h)
def UD(Inv:oF->oF->oG->Prop)(μ:oF->oF->oG->Nat)(j:Inv Ol t8 w)(n:∀(a b:oF) (i:oD) (w:oG) (m:Nat),Inv a b w->m=μ a b w ->
  lS b t7 (λc w=>cond c (bv Q 346 t6 b (λc=>ld Q 2 c λc=>bT .lss 2 c (ci 0) λe w=>aT e false (λf=>bT .gtr 2 c (ci 1125899906842624) (λa=>f [c,a]) w) (λk=>k [uu,uu] w) λd=>pick e cT (gd d 1) λd w=>cond d (K (.tuple #[ci 0,cF]) w) (bF .add 2 a c (λa=>nC b λb w=>(Inv a b w)/\((μ a b w)<m)) w)) w) (pT K (NH a (zV i 6 [t6,t7,b,c])) w)) w):Br K (NG Ol t6 t7 t8 zf) w:=by refine aZ (cd f243 (b1 52)) (zr [(2,2),(5,1),(8,14)]) kr (vP [2,8] Inv) (vQ [2,8] μ) j ?_;intro e o l;have h:=n _ _ (zM zf (gd e) (zr [(2,2),(5,1),(8,14)])) o _ l rfl;revert h;generalize (pT K)=qc0;exact mpF
def UE(h:K (.tuple #[Ol,cT]) w):pT K (NH Ol zf) w:=mpK h
end
attribute [irreducible] pT Br
def yh(r0 k_1 kM in7 t33:oF)(zf:oD):=r0::k_1::zT zf 2 4 (kM::in7::zT zf 8 25 (t33::zT zf 34 42 ([])))
def JS(kM in7:oF)(zf:oD):=zT zf 0 6 (kM::in7::zT zf 8 68 ([]))
def mP(K:KV):KE:=kZ f222 [1,1,1] K
def rT(K:KV):KE:=aj Q (cd f222 (b1 58)) (mP K) (xx xf (mP K) 0) (rk f222 K)
section
variable {K:KV}{r0 k_1 kM in7 t33:oF}  
def UC{K:KV}(h:aL (λS w=>hN S Z λc=>hF S 56 c 1 λd=>hI S 53 d H λe=>hL S 2 e λf=>hN S Z λb=>hF S 56 b 0 λg=>hI S 53 g H λh=>hL S 2 h λi=>hN S Z λj=>hF S 56 j 2 λk=>hI S 53 k H λl=>hL S 2 l λa=>(cH Q 346 1 #[(0,f)] (λm=>bw S λS=>cH Q 346 2 #[(0,i),(1,a)] λn=>bw S λ_=>rT K (yh Z H m n (ci 0) (zV (zV zu 4 [ci 0,cF]) 13 [Z,H,c,d,e,f,m,Z,H,b,g,h,i,Z,H,j,k,l,a,n]))) w)/\(cH Q 346 2 #[(0,i),(1,a)] (λm=>bw S λ_=>cH Q 346 1 #[(0,f)] λn=>aL λ_=>rT K (yh Z H n m (ci 0) (zV (zV zu 4 [ci 0,cF]) 13 [Z,H,c,d,e,f,n,Z,H,b,g,h,i,Z,H,j,k,l,a,m]))) w)) w.drew):Gives Q 222 #[Z,H] w K:=aw func222 kr (mpK h)
def QX(Inv:vI 3)(μ:vM 3)(q:Inv kM in7 t33 w)(r:∀(b c a:oF) (p:oD) (w:oG) (m:Nat),Inv b c a w->m=μ b c a w ->
  bT .lss 3 a (ci 6) (λd w=>cond d (aL (λS w=>hN S r0 λd=>hF S 56 d 3 λd=>hI S 54 d k_1 λd=>hI S 53 d a λd=>hL S 2 d λj=>hN S r0 λl=>hF S 56 l 3 λd=>hI S 54 d a λn=>hI S 53 n k_1 λd=>hL S 2 d λi=>(cH Q 346 1 #[(0,j)] (λf=>bw S λS w=>(blt Q .append #[346,346] 346 #[false,false] #[b,f] (λd=>bw S λ_=>cH Q 346 1 #[(0,i)] λe=>aL λ_=>blt Q .append #[346,346] 346 #[false,false] #[c,e] λb=>aL λ_=>nC a λa w=>(Inv d b a w)/\((μ d b a w)<m)) w)/\(cH Q 346 1 #[(0,i)] (λe=>aL λ_=>blt Q .append #[346,346] 346 #[false,false] #[b,f] λd=>aL λ_=>blt Q .append #[346,346] 346 #[false,false] #[c,e] λb=>aL λ_=>nC a λa w=>(Inv d b a w)/\((μ d b a w)<m)) w)) w)/\(cH Q 346 1 #[(0,i)] (λe=>bw S λ_=>cH Q 346 1 #[(0,j)] λf=>aL λ_=>blt Q .append #[346,346] 346 #[false,false] #[b,f] λd=>aL λ_=>blt Q .append #[346,346] 346 #[false,false] #[c,e] λb=>aL λ_=>nC a λa w=>(Inv d b a w)/\((μ d b a w)<m)) w)) w.drew) (mP K (JS b c (zV (zV p 0 [r0,k_1]) 33 [a,d])) w)) w):rT K (yh r0 k_1 kM in7 t33 zf) w:=by refine aZ (cd f222 (b1 116)) (zr [(6,3),(33,26)]) kr (vP [6,7,33] Inv) (vQ [6,7,33] μ) q ?_;intro k s hI;have h:=r _ _ _ (zM zf (gd k) (zr [(6,3),(33,26)])) s _ hI rfl;revert h;generalize (mP K)=qc0;exact mpF
def QY(h:call Q 243 #[kM] (λa=>ext Q a 0 λe=>ext Q a 1 λa=>call Q 243 #[in7] λb=>ext Q b 0 λf=>ext Q b 1 λb=>bF .sub 2 f e λg w=>aT a true (λd=>d [b] w) (λk=>k [uu] w) λc=>pick a (gd c 0) cF λi=>K (.tuple #[g,i])) w):mP K (JS kM in7 zf) w:=mpK h
end
attribute [irreducible] mP rT
end
end Go.Proofs.YtgohpbmmcgenpaaGreatDoor
