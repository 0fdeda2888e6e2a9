import Derived.Test.YtgohpbmmcgenpaaGreatDoorQ2
import Derived.Test.YtgohpbmmcgenpaaGreatDoorQ10
import Derived.Test.YtgohpbmmcgenpaaGreatDoorSh
import Derived.Test.YtgohpbmmcgenpaaGreatDoorQ1
import Derived.Test.YtgohpbmmcgenpaaGreatDoorQ3
namespace Go.Proofs.YtgohpbmmcgenpaaGreatDoor
set_option maxRecDepth 100000
set_option linter.defProp false
set_option maxHeartbeats 4000000
open Go.Proofs.Tryz
open Go.RowKit
variable {w w' w2 S O:oG}{zf:Nat->oF}{b c o i g m s j z f d c2 D B2 ba hi:Nat}{a av a2:Option Addr}{x v r N fu:Int}{E t e:TypeId}{A:List Int}{xs ys vs:oE}{P:Program}{cx cy:Bool}{T:List (Int×Int)}{Z1 N2 O2 P2 Q2 R2 T2 H Z U Y J C:oF}
def lh(gH t4:oF)(zf:oD):=zT zf 0 3 (gH::t4::zT zf 5 17 ([]))
def gg(gH:oF)(zf:oD):=zT zf 0 3 (gH::zT zf 4 18 ([]))
def db(K:KV):KE:=kZ f69 [1,1,1] K
def vS(K:KV):KE:=aj Q (cd f69 [1,1,0,1]) (db K) xf (rk f69 K)
def dV(K:KV):KE:=kY f69 (b1 117) (db K) (xx xf (db K) 0) K
def vT(K:KV):KE:=aj Q (cd f69 (b1 116)) (dV K) (xx xf (db K) 0) (rk f69 K)
def eZ(K:KV):KE:=kY f69 (b1 465) (dV K) (xx (xx xf (db K) 0) (dV K) 4) K
def vU(K:KV):KE:=aj Q (cd f69 (b1 464)) (eZ K) (xx (xx xf (db K) 0) (dV K) 4) (rk f69 K)
def oe(K:KV):KE:=kY f69 (b1 1857) (eZ K) (xx (xx (xx xf (db K) 0) (dV K) 4) (eZ K) 3) K
def vV(K:KV):KE:=aj Q (cd f69 (b1 1856)) (oe K) (xx (xx (xx xf (db K) 0) (dV K) 4) (eZ K) 3) (rk f69 K)
section
variable {K:KV}{gH t4:oF}  
def VL{K:KV}(h:vS K (lh (ci 0) H (zV (zV zu 0 [H]) 2 [ci 0])) w):Gives Q 69 #[H] w K:=by refine aw func69 kr <|Eq.mp (qH (λc=>aj Q c _ _ _ _ w) (by kernel_rfl:(rep [1,1,0,1] (cd f69 [1,1,0,1]) (cd f69 []))=(cd f69 []))) ?_;revert h;delta vS db;generalize (cd f69 [1,1,0,1])=xc0;exact mpF
def tu(h:vT K (lh gH t4 zf) w):vS K (lh gH t4 zf) w:=by delta vS;refine Eq.mp (qH (λc=>aj Q c _ _ _ _ w) (by kernel_rfl:(rep [0,0] (cd f69 (b1 116)) (cd f69 [1,1,0,1]))=(cd f69 [1,1,0,1]))) ?_;revert h;delta vT dV;generalize (cd f69 (b1 116))=xc0;generalize (db K)=qc0;exact mpF
def tw(h:vU K (lh gH t4 zf) w):vT K (lh gH t4 zf) w:=by delta vT;refine Eq.mp (qH (λc=>aj Q c _ _ _ _ w) (by kernel_rfl:(rep [0,0] (cd f69 (b1 464)) (cd f69 (b1 116)))=(cd f69 (b1 116)))) ?_;revert h;delta vU eZ;generalize (cd f69 (b1 464))=xc0;generalize (dV K)=qc0;generalize (db K)=qc1;exact mpF
def tA(h:vV K (lh gH t4 zf) w):vU K (lh gH t4 zf) w:=by delta vU;refine Eq.mp (qH (λc=>aj Q c _ _ _ _ w) (by kernel_rfl:(rep [0,0] (cd f69 (b1 1856)) (cd f69 (b1 464)))=(cd f69 (b1 464)))) ?_;revert h;delta vV oe;generalize (cd f69 (b1 1856))=xc0;generalize (eZ K)=qc0;generalize (db K)=qc1;generalize (dV K)=qc2;exact mpF
abbrev IE(K:KV)(hA0 hA1 hA2 hA3:KE)(gH t4:oF)(zf:oD)(w:oG):Prop :=
  bT .eql 3 t4 (ci 8) (λa w=>cond a (bT .add 3 gH (ci 32) (λb=>hA0 (gg b (zV (zV zf 4 [t4,a,a]) 13 [gH,b]))) w) (bT .eql 3 t4 (ci 4) (λb w=>cond b (hA0 (gg gH (zV zf 4 [t4,a,a,b,b])) w) (bT .eql 3 t4 (ci 2) (λc w=>cond c (hA1 (gg gH (zV zf 4 [t4,a,a,b,b,c,c])) w) (bT .eql 3 t4 (ci 1) (λd w=>cond d (hA2 (gg gH (zV zf 4 [t4,a,a,b,b,c,c,d,d])) w) (hA3 (gg gH (zV zf 4 [t4,a,a,b,b,c,c,d,d])) w)) w)) w)) w)) w
def Sw{K:KV}(a:KE)(b:KE)(c:KE)(d:KE)(h:IE K a d c b Z H zf w):aj Q (cd f69 (b1 1856)) a (xx (xx (xx xf b 0) c 4) d 3) (rk f69 K) (lh Z H zf) w:=Eq.mp kr h
def tB(h:IE K (oe K) (eZ K) (dV K) (db K) gH t4 zf w):vV K (lh gH t4 zf) w:=by delta vV;exact Eq.mp (qH (λc=>aj Q c (oe K) (xx (xx (xx xf (db K) 0) (dV K) 4) (eZ K) 3) (rk f69 K) (lh gH t4 zf) w) (by kernel_rfl:(cd f69 (b1 1856))=(cd f69 (b1 1856)))) (Sw (oe K) (db K) (dV K) (eZ K) h)
abbrev IF(K:KV)(hA0:KE)(gH:oF)(zf:oD)(w:oG):Prop :=
  bT .add 3 gH (ci 16) (λa=>hA0 (gg a (zV zf 15 [gH,a]))) w
def Sx{K:KV}(a:KE)(b:KE)(c:KE)(h:IF K a H zf w):aj Q (cd f69 (b1 1857)) a (xx (xx (xx xf b 0) c 4) a 3) (rk f69 K) (gg H zf) w:=Eq.mp kr h
def IG(h:IF K (eZ K) gH zf w):oe K (gg gH zf) w:=by delta oe;exact Eq.mp (qH (λc=>aj Q c (eZ K) (xx (xx (xx xf (db K) 0) (dV K) 4) (eZ K) 3) (rk f69 K) (gg gH zf) w) (by kernel_rfl:(cd f69 (b1 1857))=(cd f69 (b1 1857)))) (Sx (eZ K) (db K) (dV K) h)
def BH(h:bT .add 3 gH (ci 8) (λa=>dV K (gg a (zV zf 17 [gH,a]))) w):eZ K (gg gH zf) w:=by delta eZ;revert h;generalize (dV K)=qc0;generalize (db K)=qc1;exact mpF
def xc(h:bT .add 3 gH (ci 8) (λa=>db K (gg a (zV zf 19 [gH,a]))) w):dV K (gg gH zf) w:=by delta dV;revert h;generalize (db K)=qc0;exact mpF
def tC(h:K gH w):db K (gg gH zf) w:=mpK h
end
attribute [irreducible] db vS dV vT eZ vU oe vV
def CA(n1 Mg KJ:oF)(zf:oD):=zf 0::n1::zT zf 2 6 (Mg::KJ::zT zf 10 31 ([]))
def Pp(KJ:oF)(zf:oD):=zT zf 0 9 (KJ::zT zf 10 31 ([]))
def yO(K:KV):KE:=aj Q (cd f108 [1,1,1,1]) (rk f108 K) xf (rk f108 K)
def rK(K:KV):KE:=kZ f108 (b1 63) K
def CB(K:KV):KE:=aj Q (cd f108 (b1 250)) (rK K) (xx xf (rK K) 1) (rk f108 K)
section
variable {K:KV}{n1 Mg KJ:oF}  
def YO{K:KV}(h:call Q 69 #[H] (λa=>bT .eql 3 a (ci 0) λb w=>cond b (K (.tuple #[cN,ci 1]) w) (bF .shr 32 U a (λc=>bT .gtr 32 c (cu 0) λd w=>cond d (K (.tuple #[cN,ci 6]) w) (lN 87 Z (λe=>bF .add 3 e H λf=>mkS Q 87 (ci 0) f λg=>blt Q .append #[87,87] 87 #[false,false] #[g,Z] λh=>yO K (CA U a h (zV (zV (zV (zV zu 0 [Z]) 2 [H]) 6 [cN,ci 0]) 10 [H,a,b,a,b,d,U,a,c,d,Z,e,H,f,g,Z,h]))) w)) w)) w):Gives Q 108 #[Z,U,H] w K:=by refine aw func108 kr <|Eq.mp (qH (λc=>aj Q c _ _ _ _ w) (by kernel_rfl:(rep [1,1,1,1] (cd f108 [1,1,1,1]) (cd f108 []))=(cd f108 []))) ?_;revert h;delta yO;generalize (cd f108 [1,1,1,1])=xc0;exact mpF
def VI(h:bT .sub 3 Mg (ci 8) (λa=>CB K (CA n1 a KJ (zV zf 27 [Mg,a]))) w):yO K (CA n1 Mg KJ zf) w:=mpK h
def VJ(Inv:oF->oF->oG->Prop)(μ:oF->oF->oG->Nat)(i:Inv Mg KJ w)(k:∀(a b:oF) (g:oD) (w:oG) (m:Nat),Inv a b w->m=μ a b w ->
  bT .geq 3 a (ci 0) (λc w=>cond c (bF .shr 32 n1 a (λc=>conv Q 32 5 c λc=>cH Q 87 1 #[(0,c)] λc=>blt Q .append #[87,87] 87 #[false,false] #[b,c] λd=>bT .sub 3 a (ci 8) λa w=>(Inv a d w)/\((μ a d w)<m)) w) (rK K (Pp b (zV (zV (zV g 1 [n1]) 8 [a]) 29 [a,c])) w)) w):CB K (CA n1 Mg KJ zf) w:=by refine aZ (cd f108 (b1 500)) (zr [(8,2),(29,11)]) kr (vP [8,9] Inv) (vQ [8,9] μ) i ?_;intro e l j;have h:=k _ _ (zM zf (gd e) (zr [(8,2),(29,11)])) l _ j rfl;revert h;generalize (rK K)=qc0;exact mpF
def VK(h:K (.tuple #[KJ,ci 0]) w):rK K (Pp KJ zf) w:=mpK h
end
attribute [irreducible] yO rK CB
def uy(b0 at1 kO n6 t11:oF)(zf:oD):=b0::at1::kO::zT zf 3 3 (n6::zT zf 7 4 (t11::zT zf 12 36 ([])))
def Nz(b0 at1 kO n6:oF)(zf:oD):=b0::at1::kO::zT zf 3 3 (n6::zT zf 7 41 ([]))
def NA(n6 JM t34 t35 t36:oF)(zf:oD):=zT zf 0 6 (n6::JM::zT zf 8 26 (t34::t35::t36::zT zf 37 11 ([])))
def NC(n6 JM:oF)(zf:oD):=zT zf 0 6 (n6::JM::zT zf 8 40 ([]))
def mh(K:KV):KE:=kZ f56 [1,1] K
def nL(K:KV):KE:=kY f56 [1,0,0,1] (mh K) (xx xf (mh K) 0) K
def xt(K:KV):KE:=aj Q (cd f56 (b1 49)) (nL K) (xx xf (mh K) 0) (rk f56 K)
def pR(K:KV):KE:=kZ f56 [1,1,1,1] K
def Bo(K:KV):KE:=aj Q (cd f56 (b1 122)) (pR K) (xx xf (pR K) 1) (rk f56 K)
section
variable {K:KV}{b0 at1 kO n6 JM t11 t34 t35 t36:oF}  
def Xd{K:KV}(h:call Q 69 #[H] (λa=>bT .eql 3 a (ci 0) λb=>xt K (uy U Z H (cu 0) b (zV (zV zu 7 [ci 0,ci 0]) 12 [H,a,b]))) w):Gives Q 56 #[U,Z,H] w K:=by refine aw func56 kr <|Eq.mp (qH (λc=>aj Q c _ _ _ _ w) (by kernel_rfl:(rep (b1 49) (cd f56 (b1 49)) (cd f56 []))=(cd f56 []))) ?_;revert h;delta xt mh nL;generalize (cd f56 (b1 49))=xc0;exact mpF
def JN{K:KV}(h:cond J (nL K (uy Z H U Y J zf) w) (bT .lss 3 H (ci 0) (λa w=>cond a (nL K (uy Z H U Y a (zV zf 15 [H,a])) w) (lN 87 Z (λb=>bF .gtr 3 H b λc=>nL K (uy Z H U Y c (zV zf 15 [H,a,H,Z,b,c]))) w)) w)):xt K (uy Z H U Y J zf) w:=by delta xt;revert h;generalize (nL K)=qc0;generalize (mh K)=qc1;exact mpF
def CC{K:KV}(h:cond Y (K (.tuple #[cu 0,ci 0,ci 1]) w) (lN 87 U (λa=>bF .sub 3 a H λb=>lS b Z λc w=>cond c (K (.tuple #[cu 0,ci 0,ci 5]) w) (mh K (Nz U H Z J (zV (zV zf 11 [Y]) 21 [c,U,a,H,b,Z,c])) w)) w)):nL K (uy U H Z J Y zf) w:=by delta nL;revert h;generalize (mh K)=qc0;exact mpF
def Um(h:bF .add 3 at1 kO (λa=>slc Q 87 b0 (some at1) (some a) none λb=>lN 87 b λc=>Bo K (NA n6 a b c (ci 0) (zV (zV zf 0 [b0,at1,kO]) 28 [at1,kO,a,b0,at1,a]))) w):mh K (Nz b0 at1 kO n6 zf) w:=mpK h
def Ul(Inv:oF->oF->oG->Prop)(μ:oF->oF->oG->Nat)(k:Inv n6 t36 w)(n:∀(b a:oF) (j:oD) (w:oG) (m:Nat),Inv b a w->m=μ b a w ->
  lS a t35 (λc w=>cond c (bv Q 87 t34 a (λc=>ld Q 5 c λg=>bT .shl 32 b (cu 8) λb=>conv Q 5 32 g λc=>bF .or 32 b c λd=>nC a λe w=>(Inv d e w)/\((μ d e w)<m)) w) (pR K (NC b JM (zV j 34 [t34,t35,a,c])) w)) w):Bo K (NA n6 JM t34 t35 t36 zf) w:=by refine aZ (cd f56 (b1 244)) (zr [(6,1),(10,1),(36,10)]) kr (vP [6,36] Inv) (vQ [6,36] μ) k ?_;intro f o l;have h:=n _ _ (zM zf (gd f) (zr [(6,1),(10,1),(36,10)])) o _ l rfl;revert h;generalize (pR K)=qc0;exact mpF
def Un(h:K (.tuple #[n6,JM,ci 0]) w):pR K (NC n6 JM zf) w:=mpK h
end
attribute [irreducible] mh nL xt pR Bo
def UV{K:KV}(h:bT .eql 87 H cN (λa w=>cond a (K cN w) (cH Q 87 0 #[] (λa=>blt Q .append #[87,87] 87 #[false,false] #[a,H] K) w)) w):Gives Q 48 #[H] w K:=aw func48 kr (mpK h)
section
attribute [local irreducible] bin un conv call bS blt slc aq fld bv idx lkp fJ nl eSt rng nxt ent ext alc box bld cH ld sto bj fK mkS ifc pick rdy wts aT sti cond bA Gives aj iK kH cOp
def Hf{n:Nat}{l:List UInt8}{K:KV}(e:RB w a n c l)(q:n<=140737488351232)(h:∀i c' S,OB S w.heap.size i n c' l->Below w.heap.size w S->K (.slice i n c') S):call Q 48 #[.slice a n c] K w:=by
 refine ao (goK func48) (UV ?_);refine XX underlying87 ?_;cases a with
 | none =>
  obtain⟨rfl,rfl⟩:=RV.nil_ e rfl
  have:l=[]:=List.eq_nil_of_length_eq_zero e.len
  subst this;refine bc ?_;exact h _ _ _ (OB.nil _ _) (jT _ _)
 | some ad =>
  refine aD <|zhJ w.heap.size oA ?_;intro m r d b;refine Om w.heap.size d (e.below b oA) oo b.size ?_;intro o p s g f;rw[oK,oV]at *;exact h _ _ _ g (b.grown f b.size (λk j=>(OV.block d k j).1))
def uz(k:Int):Int:=if k=8 then 64 else if k=4 then 32 else if k=2 then 16 else if k=1 then 8 else 0
def zaH{k:Int}{K:KV}(h:K (ci (uz k)) w):call Q 69 #[ci k] K w:=by
 refine ao (goK func69) (VL ?_);by_cases d:k=8
 .subst d;(repeat (first|refine tC ?_|refine tu ?_|refine xc ?_|refine tw ?_|refine BH ?_|refine tA ?_|refine IG ?_|refine tB ?_|refine aU ?_|refine aY oo oo ?_|refine bc ?_));exact h
 by_cases c:k=4
 .subst c;(repeat (first|refine tC ?_|refine tu ?_|refine xc ?_|refine tw ?_|refine BH ?_|refine tA ?_|refine IG ?_|refine tB ?_|refine aU ?_|refine aY oo oo ?_|refine bc ?_|refine aD ?_));exact h
 by_cases b:k=2
 .subst b;(repeat (first|refine tC ?_|refine tu ?_|refine xc ?_|refine tw ?_|refine BH ?_|refine tA ?_|refine tB ?_|refine aU ?_|refine aY oo oo ?_|refine bc ?_|refine aD ?_));exact h
 by_cases a:k=1
 .subst a;(repeat (first|refine tC ?_|refine tu ?_|refine xc ?_|refine tw ?_|refine tA ?_|refine tB ?_|refine aU ?_|refine aY oo oo ?_|refine bc ?_|refine aD ?_));exact h
 have e:uz k=0:=by simp[uz, *]
 rw[e]at h
 (repeat (first|refine tC ?_|refine tu ?_|refine tw ?_|refine tA ?_|refine tB ?_|refine aU ?_|refine aB oo ?_))
 exact h
def zh6(K:Nat)(a:K=1\/K=2\/K=4\/K=8):uz K=8*K:=by rcases a with rfl|rfl|rfl|rfl<;>rfl
def Zl{k:Int}(h:uz k≠0):∃K:Nat,(K=1\/K=2\/K=4\/K=8)/\k=K:=by
 unfold uz at h;by_cases d:k=8
 .exact⟨8,by simp,d⟩
 by_cases c:k=4
 .exact⟨4,by simp,c⟩
 by_cases b:k=2
 .exact⟨2,by simp,b⟩
 by_cases a:k=1
 .exact⟨1,by simp,a⟩
 simp[*]at h
def bC(n:Nat):Nat->List UInt8
 | 0=>[]
 | k+1=>UInt8.ofNat (n / 256 ^ k)::bC n k
def bV(x K:Nat):(bC x K).length=K:=by
 induction K with
 | zero=>rfl
 | succ k ih=>simp[bC,ih]
def Zs(x:Nat):∀(K j:Nat) (h:j<(bC x K).length),(bC x K)[j]=UInt8.ofNat (x / 256 ^ (K-1-j)):=by
 intro K
 induction K with
 | zero=>intro j h;simp[bC]at h
 | succ k ih =>
  intro j h;cases j with
  | zero=>simp[bC]
  | succ j =>
   simp only[bC,List.getElem_cons_succ];rw[ih]
   congr 2
   congr 1
   omega
def On(x K j:Nat)(h:j<K):(bC x K).take (j+1)=(bC x K).take j++[UInt8.ofNat (x / 256 ^ (K-1-j))]:=by
 have a:j<(bC x K).length:=by rw[bV];exact h
 rw[List.take_succ_eq_append_getElem a,Zs]
def PQ(x e:Nat)(b:8*e<=64):((x:Int).fdiv (2 ^ min ((8*(e:Int))).toNat IntKind.u64.bits))=((x / 256 ^ e:Nat):Int):=by
 have h:(2:Int) ^ (8*e)=((256 ^ e:Nat):Int):=by rw[Int.pow_mul];simp
 have a:min ((8*(e:Int))).toNat IntKind.u64.bits=8*e:=by
  have:IntKind.u64.bits=64:=rfl
  omega
 rw[a,h,Int.fdiv_eq_ediv_of_nonneg _ (Int.natCast_nonneg _)];rfl
def XI(y:Nat):Value.int .u8 (IntKind.u8.wrap (y:Int))=u8v (UInt8.ofNat y):=by
 rw[Qv];simp only[u8v,UInt8.toNat_ofNat']
 congr 1
def FP(l:List UInt8)(n:Nat)(k:Int):List UInt8×Int :=
 if uz k=0 then ([],1)else if 256 ^ k.toNat<=n then ([],6)else (l++bC n k.toNat,0)
theorem put_c {n:Nat}{l:List UInt8}{x:Nat}{k:Int}{K:KV}(hb:RB w a n c l)(hn:n<=140737488351232)(hx:x<18446744073709551616)(h:∀a' n' c' w',OB w' w.heap.size a' n' c' (FP l x k).1->Below w.heap.size w w'->K (.tuple #[.slice a' n' c',ci (FP l x k).2]) w'):call Q 108 #[.slice a n c,.int .u64 x,ci k] K w:=by
 refine ao (goK func108) (YO ?_);refine zaH ?_;by_cases aa:uz k=0
 .have hp:FP l x k=([],1):=by simp[FP,aa]
  rw[hp]at h
  (repeat (first|refine aU ?_|refine aG oo ?_))
  exact h _ _ _ _ (OB.nil _ _) (Below.refl _ _)
 obtain⟨N,hN,rfl⟩:=Zl aa;have aE:=zh6 N hN;rw[aE];have a0:1<=N/\N<=8:=by omega
 (repeat (first|refine aU ?_|refine aB oo ?_))
 refine He oo ?_
 (repeat (first|refine dE ?_))
 rw[PQ x N oo];by_cases I:256 ^ N<=x
 .have hp:FP l x N=([],6):=by simp[FP,aa,I]
  rw[hp]at h;have hq:(0:Int)<((x / 256 ^ N:Nat):Int):=by
   have:0<x / 256 ^ N:=Nat.div_pos I (Nat.pow_pos oo)
   omega
  (repeat (first|refine aG oo ?_))
  exact h _ _ _ _ (OB.nil _ _) (Below.refl _ _)
 have hp:FP l x N=(l++bC x N,0):=by simp[FP,aa,I]
 rw[hp]at h;have hq:((x / 256 ^ N:Nat):Int)=0:=by
  have:x / 256 ^ N=0:=Nat.div_eq_of_lt oo
  omega
 rw[hq]
 (repeat (first|refine aY oo oo ?_|refine wY ?_|refine aD ?_))
 refine mk8 w.heap.size (n+N) oo oo oo ?_;intro a1 w1 af O;refine Om w.heap.size af (hb.below O oo) oo O.size ?_;intro a2 c2 w2 ag al;have ak:Below w.heap.size w w2:=O.grown al O.size (λk hk=>(OV.block af k hk).1);rw[List.nil_append,Nat.zero_add]at ag
 (repeat (first|refine VI ?_|refine co oo oo ?_))
 refine VJ (Inv:=λC aS wr=>∃j a' n' c',j<=N/\C=ci (8*(N:Int)-8-8*(j:Int))/\aS=.slice a' n' c'/\OB wr w.heap.size a' n' c' (l++(bC x N).take j)/\Below w.heap.size w wr)
  (μ:=λC _ _=>(intOf C+8).toNat) ⟨0,_,_,_,by omega,by simp,rfl,by simpa using ag,ak⟩ ?_
 rintro _ _ _ w3 m ⟨j,a3,n3,c3,hj,rfl,rfl,J,U⟩ hm;have ap:=J.len;have a6:=hb.len;simp only[List.length_append,List.length_take,bV]at ap;by_cases an:j<N
 ·(repeat (first|refine cJ ?_|refine aG oo ?_))
  refine He oo ?_;rw[show (8*(N:Int)-8-8*(j:Int))=8*((N-1-j:Nat):Int)by omega,PQ x (N-1-j) oo];refine dP underlying32 underlying5 ?_;rw[XI];refine zhl rfl ?_;intro w4 ab av a7;refine Om w.heap.size (J.below ab oo) av oo (by have:=U.size;omega) ?_;intro a5 c5 w5 ar am
  (repeat (first|refine co oo oo ?_))
  have az:=U.size;refine⟨⟨j+1,_,_,_,by omega,by congr 1;omega,rfl,?_,?_⟩,?_⟩
  .rw[On x N j an, <-List.append_assoc];exact ar
  .exact(U.trans (ab.mono az)).grown am oo (λk hk=>(OV.block (J.below ab oo) k hk).1)
  .rw[hm];simp only[intOf];omega
 .have ad:j=N:=by omega
  subst ad
  (repeat (first|refine VK ?_|refine cJ ?_|refine aB oo ?_))
  have:(bC x j).take j=bC x j:=tL (by rw[bV];omega)
  rw[this]at J;exact h _ _ _ _ J U
def ff(l:List UInt8):Nat:=l.foldl (λn c=>n*256+c.toNat) 0
def Tn(l:List UInt8)(c:UInt8):ff (l++[c])=ff l*256+c.toNat:=by simp[ff,List.foldl_append]
def Mf(l:List UInt8):ff l<256 ^ l.length:=by
 have a:∀l:List UInt8,∀n k,n<256 ^ k->l.foldl (λn c=>n*256+c.toNat) n<256 ^ (k+l.length):=by
  intro l
  induction l with
  | nil=>intro n k h;simpa using h
  | cons c l ih =>
   intro n k h;simp only[List.foldl_cons,oZ];have b:=c.toNat_lt
   have:=ih (n*256+c.toNat) (k+1) (by rw[Nat.pow_succ];omega)
   rw[show k+(l.length+1)=k+1+l.length by omega];exact this
 have:=a l 0 0 oB
 simpa[ff]using this
def WJ(l:List UInt8)(j:Nat)(h:j<l.length):l.take (j+1)=l.take j++[l.getD j 0]:=by rw[List.take_succ_eq_append_getElem h];simp[List.getD,h]
def rW(l:List UInt8)(p k:Int):Nat×Int×Int :=
 if uz k=0\/p<0\/(l.length:Int)<p then (0,0,1)else if (l.length:Int)-p<k then (0,0,5)else (ff ((l.drop p.toNat).take k.toNat),p+k,0)
def zda{n:Nat}{l:List UInt8}{p k:Int}{K:KV}(v:RB w a n c l)(M:n<=9223372036854775807)(h:K (.tuple #[.int .u64 (rW l p k).1,ci (rW l p k).2.1,ci (rW l p k).2.2]) w):call Q 56 #[.slice a n c,ci p,ci k] K w:=by
 have e:=v.len;refine ao (goK func56) (Xd ?_);refine zaH <|aU ?_;by_cases g:uz k=0
 .rw[show rW l p k=(0,0,1)by simp[rW,g]]at h
  (repeat (first|refine CC ?_|refine JN ?_|refine aG oo ?_))
  exact h
 (repeat (first|refine JN ?_|refine aW ?_|refine aB oo ?_))
 by_cases z:p<0
 .rw[show rW l p k=(0,0,1)by simp[rW,z]]at h
  (repeat (first|refine CC ?_|refine aG oo ?_))
  exact h
 (repeat (first|refine CC ?_|refine dE ?_|refine wY ?_|refine aB oo ?_))
 by_cases A:(n:Int)<p
 .rw[show rW l p k=(0,0,1)by simp[rW,e,A]]at h
  (repeat (first|refine aG oo ?_))
  exact h
 obtain⟨N,J,rfl⟩:=Zl g;obtain⟨q,rfl⟩:=Int.eq_ofNat_of_zero_le (show 0<=p by omega);have B:1<=N/\N<=8:=by omega
 (repeat (first|refine aW ?_|refine co oo oo ?_|refine wY ?_|refine aB oo ?_))
 by_cases u:(n:Int)-q<N
 .rw[show rW l q N=(0,0,5)by unfold rW;rw[oI (by simp[e,g];omega),oJ (by rw[e];exact u)]]at h
  (repeat (first|refine aG oo ?_))
  exact h
 have F:rW l q N=(ff ((l.drop q).take N),(q:Int)+N,0):=by
  unfold rW;rw[oI (by simp[e,g];omega),oI (by rw[e];exact u)];simp
 rw[F]at h
 (repeat (first|refine Um ?_|refine aY oo oo ?_|refine aB oo ?_))
 rw[show ((q:Int)+(N:Int))=((q+N:Nat):Int)by omega];refine zaR (l:=q) (m:=q+N) v (.inr ⟨_,rfl⟩) (.inr ⟨_,rfl⟩) oo oo ?_;intro I b;have G:(l.take (q+N)).drop q=(l.drop q).take N:=by rw[List.drop_take];congr 1;omega
 rw[G]at b;have y:=b.len;rw[show q+N-q=N by omega]at *
 (repeat (first|refine wY ?_))
 refine Ul (Inv:=λx i H=>∃j,j<=N/\i=ci (j:Nat)/\x=.int .u64 (ff (((l.drop q).take N).take j):Nat)/\H=w)
  (μ:=λ_ i _=>N-(intOf i).toNat) ⟨0,by omega,by simp,by simp[ff],rfl⟩ ?_
 rintro _ _ _ O m ⟨j,L,rfl,rfl,rfl⟩ E;by_cases D:j<N
 ·(repeat (first|refine aW ?_|refine aG oo ?_))
  refine ze4 b oo oo ?_;intro C;refine ld8 C <|Dr oo <|dP underlying5 underlying32 ?_;have t:=Mf (((l.drop q).take N).take j);have s:(((l.drop q).take N).take j).length=j:=by rw[qA];omega
  rw[s]at t;have f:ff (((l.drop q).take N).take j)<72057594037927936:=by
   have:256 ^ j<=256 ^ 7:=Nat.pow_le_pow_right oo oo
   omega
  generalize r:((l.drop q).take N).getD (((j:Nat):Int)).toNat 0=cc;have o:=cc.toNat_lt;refine To ?_;rw[gu (cc.toNat:Int),show (cc.toNat:Int)%18446744073709551616=((cc.toNat:Nat):Int)by omega,VN f oo]
  (repeat (first|refine aY oo oo ?_))
  have d:((l.drop q).take N).getD j 0=cc:=by simpa using r
  refine⟨⟨j+1,by omega,by simp,?_,rfl⟩,by rw[E];simp only[intOf];omega⟩;rw[WJ _ _ oo,Tn,d]
 .have:j=N:=by omega
  subst this
  (repeat (first|refine Un ?_|refine aW ?_|refine aB oo ?_))
  rw[tL oo];exact h
def XD(x y:Nat):∀s,Op.bytesLess (bC x s) (bC y s)=decide (x%256 ^ s<y%256 ^ s)/\(bC x s=bC y s↔x%256 ^ s=y%256 ^ s):=by
 intro s
 induction s with
 | zero=>simp[bC,Op.bytesLess,Nat.mod_one]
 | succ k ih =>
  obtain⟨o,p⟩:=ih;have m:=Nat.mod_pow_succ (b:=256) (k:=k) (x:=x);have n:=Nat.mod_pow_succ (b:=256) (k:=k) (x:=y);have q:x%256 ^ k<256 ^ k:=Nat.mod_lt _ (Nat.pow_pos oo);have r:y%256 ^ k<256 ^ k:=Nat.mod_lt _ (Nat.pow_pos oo);have j:(UInt8.ofNat (x / 256 ^ k)).toNat=x / 256 ^ k%256:=by simp
  have i:(UInt8.ofNat (y / 256 ^ k)).toNat=y / 256 ^ k%256:=by simp
  have d:UInt8.ofNat (x / 256 ^ k)<UInt8.ofNat (y / 256 ^ k)↔x / 256 ^ k%256<y / 256 ^ k%256:=by rw[UInt8.lt_iff_toNat_lt,j,i]
  have e:UInt8.ofNat (x / 256 ^ k)=UInt8.ofNat (y / 256 ^ k)↔x / 256 ^ k%256=y / 256 ^ k%256:=by rw[<-UInt8.toNat_inj,j,i]
  simp only[bC,Op.bytesLess,List.cons.injEq];rw[o,p,e,m,n];have l:(UInt8.ofNat (x / 256 ^ k)==UInt8.ofNat (y / 256 ^ k))=decide (x / 256 ^ k%256=y / 256 ^ k%256):=by
   by_cases c:x / 256 ^ k%256=y / 256 ^ k%256
   .rw[qF c,beq_iff_eq];exact e.2 c
   .rw[qE c,beq_eq_false_iff_ne];exact λh=>c (e.1 h)
  rw[l];generalize x / 256 ^ k%256=dx at *;generalize y / 256 ^ k%256=dy at *;generalize x%256 ^ k=rx at *;generalize y%256 ^ k=ry at *;generalize 256 ^ k=B at *;rcases Nat.lt_trichotomy dx dy with a|a|a
  .have f:=Nat.mul_le_mul_left B (show dx+1<=dy from a);rw[Nat.mul_add,Nat.mul_one]at f;rw[qF (d.2 a),qF (show rx+B*dx<ry+B*dy by omega)];exact⟨rfl,λh=>qI h.1 oo,λh=>by omega⟩
  .subst a;have g : ¬UInt8.ofNat (x / B)<UInt8.ofNat (y / B):=λh=>by have:=d.1 h;omega
   rw[qE g];refine⟨?_,?_,?_⟩
   .simp only[Bool.false_or,decide_true,qY];exact decide_eq_decide.2 oo
   .intro h;rw[h.2]
   .intro h;exact⟨rfl,by omega⟩
  .have f:=Nat.mul_le_mul_left B (show dy+1<=dx from a);rw[Nat.mul_add,Nat.mul_one]at f;have g : ¬UInt8.ofNat (x / B)<UInt8.ofNat (y / B):=λh=>by have:=d.1 h;omega
   rw[qE g,qE (show ¬dx=dy by omega),qE (show ¬rx+B*dx<ry+B*dy by omega)];exact⟨rfl,λh=>qI h.1 oo,λh=>by omega⟩
def zdX(l:List UInt8):∀n:Nat,l.foldl (λn c=>n*256+c.toNat) n=n*256 ^ l.length+l.foldl (λn c=>n*256+c.toNat) 0:=by
 induction l with
 | nil=>intro n;simp
 | cons c r ih =>
  intro n;simp only[List.foldl_cons,oZ];rw[ih (n*256+c.toNat),ih (0*256+c.toNat)];rw[Nat.pow_succ,Nat.add_mul,Nat.add_mul,Nat.mul_assoc,Nat.mul_comm (256 ^ r.length) 256];omega
def Tm(c:UInt8)(l:List UInt8):ff (c::l)=c.toNat*256 ^ l.length+ff l:=by unfold ff;rw[List.foldl_cons,zdX];simp
def Ht(x:Nat):∀k,ff (bC x k)=x%256 ^ k:=by
 intro k
 induction k with
 | zero=>simp[bC,ff,Nat.mod_one]
 | succ k ih =>
  rw[bC,Tm,ih,bV,Nat.mod_pow_succ]
  have:(UInt8.ofNat (x / 256 ^ k)).toNat=x / 256 ^ k%256:=by simp
  rw[this,Nat.mul_comm];omega
def XF(l:List UInt8):bC (ff l) l.length=l:=by
 induction l with
 | nil=>rfl
 | cons c r ih =>
  have a:=Mf r;have e:0<256 ^ r.length:=Nat.pow_pos oo;rw[oZ,bC,Tm];have b:(c.toNat*256 ^ r.length+ff r) / 256 ^ r.length=c.toNat:=by
   rw[Nat.mul_comm,Nat.mul_add_div e,Nat.div_eq_of_lt a];rfl
  have d:bC (c.toNat*256 ^ r.length+ff r) r.length=bC (ff r) r.length:=by
   refine(XD _ _ _).2.2 ?_;rw[Nat.mul_comm,Nat.mul_add_mod]
  rw[b,d,ih];simp
def FV:List (List UInt8)->Nat
 | []=>0
 | s::r=>s.length+FV r
def zdf(L:List (List UInt8))(j:Nat)(s:List UInt8)(h:L[j]? = some s):FV (L.take j)+s.length+FV (L.drop (j+1))=FV L:=by
 induction L generalizing j with
 | nil=>simp at h
 | cons x L ih =>
  cases j with
  | zero=>simp at h;subst h;simp[FV]
  | succ j =>
   simp at h
   have:=ih j h
   simp only[List.take_succ_cons,List.drop_succ_cons,FV];omega
abbrev ptr(b:Nat):oF:=pA b 0
def IR:∀w,(sizeOf 3).run Q w=.ok 1 w:=λ_=>by kernel_rfl
def RV.drew{n:Nat}(h:RV w a n c xs):RV w.drew a n c xs:=⟨h.len,h.cap,h.some_,h.nil_,h.cell⟩
def RB.drew{n:Nat}{xs:List UInt8}(h:RB w a n c xs):RB w.drew a n c xs:=RV.drew h
def YR{T:List TypeId}{B:Nat}{v:oF}{n:Nat}(h:w.ownsRow B2 E s v n xs)(j:Keep T B w S)(d:E∉T):S.ownsRow B2 E s v n xs:=by
 refine⟨h.1,?_⟩;rcases h.2 with c|⟨g,a,b,k,f,i,r⟩
 .exact .inl c
 .exact .inr ⟨g,a,b,k,f,j.block _ _ i (.inr λl a z e=>by cases e;exact d),r⟩
def OB.keep{T:List TypeId}{B:Nat}{n:Nat}{l:List UInt8}(h:OB w B2 a n c l)(d:Keep T B w S)(b:5∉T):OB S B2 a n c l:=YR h d b
def Zd(l:List UInt8):List UInt8:=bC (Bt 0 l).toNat 4
def sf(s:List UInt8):List UInt8:=bC s.length 4++Zd (bC s.length 4++s)++s
def aO:List (List UInt8)->List UInt8
 | []=>[]
 | s::r=>sf s++aO r
def okR(L:List (List UInt8)):Prop:=∀s∈L,s.length<=4096
def rL(b:List UInt8)(p:Nat):Option (List UInt8×Nat) :=
 if p+8<=b.length/\ff ((b.drop p).take 4)<=4096/\p+8+ff ((b.drop p).take 4)<=b.length /\
   (Bt 0 (bC (ff ((b.drop p).take 4)) 4++(b.drop (p+8)).take (ff ((b.drop p).take 4)))).toNat=ff ((b.drop (p+4)).take 4)
 then some ((b.drop (p+8)).take (ff ((b.drop p).take 4)),p+8+ff ((b.drop p).take 4))else none
def tY(b:List UInt8):Nat->Nat->List (List UInt8)×Nat
 | 0,p=>([],p)
 | f+1,p=>match rL b p with|none=>([],p)|some (s,q)=>(s::(tY b f q).1,(tY b f q).2)
def Cj(s:List UInt8):(sf s).length=8+s.length:=by simp[sf,Zd,bV];omega
def xF(x y:List (List UInt8)):aO (x++y)=aO x++aO y:=by
 induction x with
 | nil=>rfl
 | cons s r ih=>simp[aO,ih]
def Ko(L:List (List UInt8)):(aO L).length=8*L.length+FV L:=by
 induction L with
 | nil=>rfl
 | cons s r ih=>simp only[aO,oT,Cj,ih,oZ,FV];omega
def Pb(L:List (List UInt8))(j:Nat)(s:List UInt8)(h:L[j]? = some s):aO (L.take (j+1))=aO (L.take j)++sf s:=by have a:=gS h;rw[List.take_succ_eq_append_getElem a.1,xF,a.2];simp[aO]
def zd7{l:List UInt8}{p:Nat}(h:p+4<=l.length):rW l p 4=(ff ((l.drop p).take 4),(p:Int)+4,0):=by unfold rW;rw[oI (by rintro(a|a|a)<;>first|exact qI a dc|omega),oI oo];rfl
def zbA{l:List UInt8}{p:Nat}(h:l.length<p+4):(rW l p 4).2.2≠0:=by
 unfold rW;split
 .decide
 .rw[oJ oo];decide
def XE(l:List UInt8)(p:Nat):ff ((l.drop p).take 4)<4294967296:=by
 have:=Mf ((l.drop p).take 4)
 have a:((l.drop p).take 4).length<=4:=by simp;omega
 have b:256 ^ ((l.drop p).take 4).length<=256 ^ 4:=Nat.pow_le_pow_right oo a;omega
def zfl{cs:Array Bool}{n:Nat}{K:KV}(h:K (ci (n:Int)) w):blt Q .len #[97] E cs #[.slice av n c] K w:=zjn h
def OY{x:Nat}{K:KV}(g:x<4294967296)(h:∀a b c' S,OB S w.heap.size a b c' (bC x 4)->Below w.heap.size w S->K (.slice a b c') S):call Q 88 #[.int .u32 (x:Int)] K w:=by
 refine ao (goK func88) (TU ?_);refine dP underlying206 underlying32 ?_;rw[gu,show (x:Int)%18446744073709551616=((x:Nat):Int)by omega];refine put_c (l:=[]) (k:=4) (RV.nil w) oo oo ?_;rw[show FP [] x 4=(bC x 4,0)by unfold FP;rw[oI dc,oI (by show ¬256 ^ 4<=x;omega)];rfl];intro e i f j d c
 (repeat (first|refine bK ?_|refine bJ ?_))
 exact h _ _ _ _ d c
def zde{x:Nat}(h:x<4294967296):IntKind.u32.wrap (x:Int)=(x:Int):=by rw[Nq];omega
def zhN{vs:List (Option Addr×Nat×Nat)}{L:List (List UInt8)}{K:KV}(hL:RBB w a2 b c2 vs L)(U:b<=4294967296)(hv:FV L<=1000000000000)(ok:okR L)(h:∀c n c' w',OB w' w.heap.size c n c' (aO L)->Below w.heap.size w w'->K (.tuple #[.slice c n c',ci 0]) w'):call Q 248 #[.slice none 0 0,.slice a2 b c2] K w:=by
 have S:=hL.lenL;refine ao (goK func248) (Ym ?_);refine Hf (l:=[]) (RV.nil w) oo ?_;intro a1 c1 w1 X H;refine zfl ?_;refine Vo (Inv:=λy i G=>∃(j:Nat) (c:Option Addr) (n c':Nat),j<=b/\i=ci (j:Nat)/\y=.slice c n c'/\OB G w.heap.size c n c' (aO (L.take j))/\Below w.heap.size w G)
  (μ:=λ_ i _=>b-(intOf i).toNat) ⟨0,_,_,_,by omega,rfl,rfl,by simpa[aO]using X,H⟩ ?_
 rintro _ _ _ w2 m ⟨j,a3,n3,c3,hj,rfl,rfl,o,p⟩ T;by_cases R:j<b
 ·(repeat (first|refine aW ?_|refine aG oo ?_))
  refine zfi (hL.below p oA) oo oo ?_;intro v s g a P z;rw[oQ]at g a;refine zi3 P ?_;have u:=z.len;have V:=ok s (mO a);have r:=o.len;rw[Ko,qA]at r;have A:=zdf L j s a
  (repeat (first|refine dE ?_|refine wY ?_|refine aB oo ?_))
  refine dP underlying3 underlying206 ?_;rw[zde oo];refine OY oo ?_;intro a4 n4 c4 w4 x d;have N:=x.len;rw[bV]at N;refine zfv x.rb oo ?_;have t:=z.below d oA;refine YH t oo ?_;have s3:=p.size;have s4:=d.size;refine Om w.heap.size (o.below d oA) x.rb oo oo ?_;intro a5 c5 w5 D I
  have B:Below w.heap.size w4 w5:=cS I oo (λk f=>(OV.block (OB.below o d oA) k f).1);refine OY (BitVec.isLt _) ?_;intro a6 n6 c6 w6 E q;have O:=E.len;rw[bV]at O;have s5:=B.size;have s6:=q.size;refine Om w.heap.size (OB.below D q oA) E.rb oo oo ?_;intro a7 c7 w7 F J
  have C:Below w.heap.size w6 w7:=cS J oo (λk f=>(OV.block (OB.below D q oA) k f).1);have s7:=C.size;have B7:Below w.heap.size w w7:=(((p.trans (d.mono s3)).trans B).trans (q.mono oo)).trans C;have Z:RB w7 v.1 v.2.1 v.2.2 s:=(hL.below B7 oA).each j v s g a;refine Om w.heap.size F Z oo oo ?_;intro a8 c8 w8 Y M
  have W:Below w.heap.size w7 w8:=cS M oo (λk f=>(OV.block F k f).1)
  (repeat (first|refine aY oo oo ?_))
  refine⟨⟨j+1,_,_,_,by omega,by simp,rfl,?_,B7.trans W⟩,by rw[T];simp only[intOf];omega⟩;rw[Pb L j s a];have e:aO (L.take j)++sf s=aO (L.take j)++bC v.2.1 4++bC (Bt (Bt 0 (bC v.2.1 4)) s).toNat 4++s:=by
   rw[XO];simp only[sf,Zd,u,jD]
  rw[e];exact Y
 .have:j=b:=by omega
  subst this;rw[tL oo]at o
  (repeat (first|refine Vp ?_|refine aW ?_|refine aB oo ?_))
  exact h _ _ _ _ o p
def MD{K:KV}(h:K (pA b (o+0)) w):aq Q 184 (pA b o) 0 K w:=aQ kr h
def wT{K:KV}(h:K (pA b (o+1)) w):aq Q 184 (pA b o) 1 K w:=aQ kr h
def Rj{K:KV}(h:K (pA b (o+0)) w):aq Q 186 (pA b o) 0 K w:=aQ kr h
def RB.oth{p:Nat}{n:Nat}{l:List UInt8}(h:RB w a n c l)(g:Oth p w S)(j:0<n->∀d,a=some d->d.block≠p):RB S a n c l :=
 ⟨RV.len h,RV.cap h,RV.some_ h,RV.nil_ h,λi v f=>by
  have e:=RV.cell h i v f;have k:i<n:=by have:=(gS f).1;rw[RV.len h]at this;exact this
  obtain⟨b,o,rfl⟩:=RV.some_ h oo;rw[uR]at e |-;rw[World.cell?_of_block (w:=w) (g.other b (j oo _ rfl))];exact e⟩
def Pt{p q:Nat}{v:Option Addr×Nat×Nat}{b:List UInt8}{K:KV}(h:blk w p E [slv v,ci (q:Nat)])(j:RB w v.1 v.2.1 v.2.2 b)(s:v.2.1<=4294967296)(m:b.length<q+4->∀S,Below w.heap.size w S->blk S p E [slv v,ci (q:Nat)]->K (.tuple #[.int .u32 0,.bool false]) S)(n:q+4<=b.length->∀S,blk S p E [slv v,ci ((q+4:Nat):Int)]->Keep [E] p w S->K (.tuple #[.int .u32 (ff ((b.drop q).take 4):Nat),.bool true]) S):call Q 85 #[ptr p] K w:=by
 have r:=j.len;refine ao (goK func85) (Lg ?_);refine ax (λw=>blk w p E [slv v,ci (q:Nat)]) h <|ac (λw c _=>au) <|ac (λw c _=>MD) <|ac (λw c _=>lK c rfl) <|ac (λw c _=>au) <|ac (λw c _=>wT) <|ac (λw c _=>lK c rfl) <|zda (w:=w.drew) (l:=b) j.drew oo <|ax (λ_=>True) trivial <|ac (λw c _=>TQ) <|ac (λw c _=>TR) <|ac (λw c _=>TS) ?_
 have d:blk w.drew p E [slv v,ci (q:Nat)]:=h;by_cases i:q+4<=b.length
 .rw[zd7 i]
  (repeat (first|refine bo ?_|refine aD ?_))
  refine au <|wT <|dw IR d oB rfl ?_;intro k e g;refine dP underlying32 underlying206 ?_;have f:=XE b q;rw[zde f];refine n i k ?_ (g.keep (w:=w.drew) d oB oA).undrew;have e:blk k p E [slv v,ci ((q:Int)+4)]:=e;rw[show ((q+4:Nat):Int)=(q:Int)+4 by omega];exact e
 .have o:=zbA (l:=b) (p:=q) oo;exact bo <|aG o (m oo _ ((jT _ w).drew) d)
def Fj{b:List UInt8}{q:Nat}(h : ¬(q+8<=b.length/\ff ((b.drop q).take 4)<=4096/\q+8+ff ((b.drop q).take 4)<=b.length /\
   (Bt 0 (bC (ff ((b.drop q).take 4)) 4++(b.drop (q+8)).take (ff ((b.drop q).take 4)))).toNat=ff ((b.drop (q+4)).take 4))):rL b q=none:=oI h
def zi1{K:KV}{p:Nat}{v:Option Addr×Nat×Nat}{x:oF}(a:blk w p E [slv v,x])(h:K (.slice v.1 v.2.1 v.2.2) w):ld Q 87 (pA p (0+0)) K w:=lK a rfl h
def zej{K:KV}{p:Nat}{v:Option Addr×Nat×Nat}{x:oF}(a:blk w p E [slv v,x])(h:K x w):ld Q 3 (pA p (0+1)) K w:=lK a rfl h
def zgO{K:KV}{n q:Nat}{l:List UInt8}(i:RB w av n c l)(k:q<=n)(h:∀g,RB w g (n-q) (c-q) (l.drop q)->(∀f,g=some f->∃d,av=some d/\f.block=d.block)->K (.slice g (n-q) (c-q)) w):slc Q 87 (.slice av n c) (some (ci (q:Nat))) none none K w:=by
 have e:=RV.cap i;have j:(Instr.sliceBounds true n c (some (ci (q:Nat))) none none).run Q w=.ok (q,n,c) w:=by
  have:=run_sliceBound (P:=Q) w .i64 (q:Int) n .sliceB oo oo
  simp[Instr.sliceBounds]at this |-;rw[this];simp
 have b:=i.cut q n c k e oA oA;rw[tL (by rw[i.len];exact Nat.le_refl _)]at b;unfold slc;refine eJ (w':=w) ?_ (h (if c=q then av else av.map (·.add (q*1))) b ?_)
 .simp only[Instr.sliceAt,Instr.slice,jX,jW,jU,jY underlying87,Eg,j]
 .intro f a;split at a
  .exact⟨f,a,rfl⟩
  .cases av with
   | none=>cases a
   | some a0 =>
    simp only[jP,qD]at a;subst a;refine⟨a0,rfl,?_⟩;unfold Addr.add;split<;>rfl
def RB.upTo{n:Nat}{l:List UInt8}(h:RB w a n c l)(j:m<=n):RB w a m c (l.take m):=by
 have d:=RV.cap h;have g:=h.len;refine⟨by simp;omega,by omega,λf=>RV.some_ h oo,λe=>?_,λi u b=>?_⟩
 .have:=RV.nil_ h e
  omega
 .refine RV.cell h i u ?_;rw[List.map_take,List.getElem?_take]at b;split at b
  .exact b
  .cases b
def zcH{p q:Nat}{v:Option Addr×Nat×Nat}{b:List UInt8}{K:KV}(G:blk w p E [slv v,ci (q:Nat)])(o:RB w v.1 v.2.1 v.2.2 b)(O:v.2.1<=4294967296)(hq:q<=b.length)(P:0<v.2.1->∀D,v.1=some D->D.block≠p)(h0:rL b q=none->∀w',Below w.heap.size w w'->blk w' p E [slv v,ci (q:Nat)]->K (.tuple #[.slice none 0 0,.bool false]) w')(h1:∀s q2,rL b q=some (s,q2)->∀a n c w',OB w' w.heap.size a n c s->blk w' p E [slv v,ci (q2:Nat)]->Keep [E] p w w'->K (.tuple #[.slice a n c,.bool true]) w'):call Q 67 #[ptr p] K w:=by
 have hl:=o.len;refine ao (goK func67) (Lh ?_);refine au <|ldA (n:=2) underlying184 rfl kr G rfl rfl <|cD (z:=.agg #[.slice none 0 0,ci 0]) kr ?_;intro w1 U b1 s1;refine fY (n:=2) kr rfl U (by show 0+2<=2;omega) (by simp only[List.take,List.drop,oO,oR,or_false];rintro u (rfl|rfl)<;>rfl) ?_;intro w2 j R
 have j:blk w2 w.heap.size 184 [slv v,ci (q:Nat)]:=j;have B2:Below w.heap.size w w2:=b1.trans R.below;have S2:=B2.size;have y:=G.lt;have g:∀{w':oG},Below w.heap.size w w'->rL b q=none->K (.tuple #[.slice none 0 0,.bool false]) w':=λr d=>h0 d _ r (ae r G y);refine Pt j (o.below B2 oA) O ?_ ?_
 ·-- not even a length
  intro i w3 b3 k;have d:rL b q=none:=Fj oo;have B3:Below w.heap.size w w3:=B2.trans (b3.mono S2)
  (repeat (first|refine bK ?_|refine bJ ?_))
  refine Pt k (o.below B3 oA) O ?_ ?_
  .intro _ w4 I f
   (repeat (first|refine bK ?_|refine bJ ?_))
   refine bH ?_
   (repeat (first|refine dD ?_|refine bc ?_|refine iQ ?_))
   exact g (B3.trans (I.mono B3.size)) d
  .intro hh;omega
 intro ab w3 k k3;have B3:Below w.heap.size w w3:=B2.trans (k3.below (by have:=j.lt;omega));have A:=XE b q
 (repeat (first|refine bK ?_|refine bJ ?_))
 refine Pt k (o.below B3 oA) O ?_ ?_
 .intro i w4 I f;have d:rL b q=none:=Fj oo
  (repeat (first|refine bK ?_|refine bJ ?_))
  refine bH ?_
  (repeat (first|refine eK ?_))
  refine bH ?_
  (repeat (first|refine dD ?_|refine cA ?_|refine bc ?_|refine iQ ?_))
  exact g (B3.trans (I.mono B3.size)) d
 intro ac w4 f k4;have B4:Below w.heap.size w w4:=B3.trans (k4.below (by have:=k.lt;omega));have aa:=XE b (q+4);generalize F:ff ((b.drop q).take 4)=N at *;generalize X:ff ((b.drop (q+4)).take 4)=M at *
 (repeat (first|refine bK ?_|refine bJ ?_))
 refine bH ?_
 (repeat (first|refine eK ?_))
 refine bH ?_
 (repeat (first|refine dE ?_|refine cA ?_|refine eK ?_))
 by_cases Y:4096<N
 .have d:rL b q=none:=Fj (by rw[F];omega)
  (repeat (first|refine bc ?_|refine kW oo ?_|refine bR oo ?_))
  exact g B4 d
 have x:∀{w':oG} {K':KV},K' (ci (N:Int)) w'->conv Q 206 3 (.int .u32 (N:Int)) K' w':=by
  intro w' K' hK;refine dP underlying206 underlying3 ?_;rw[eY oo oo];exact hK
 (repeat (first|refine dL oo ?_))
 refine x <|MD <|zi1 f ?_
 (repeat (first|refine wY ?_))
 refine wT <|zej f ?_
 (repeat (first|refine dE ?_|refine co oo oo ?_|refine bG oo ?_))
 by_cases Z:b.length<q+8+N
 .have d:rL b q=none:=Fj (by rw[F];omega)
  (repeat (first|refine aG oo ?_))
  exact g B4 d
 have S:=o.below B4 oA
 (repeat (first|refine aB oo ?_))
 refine MD <|zi1 f <|wT <|zej f ?_;rw[show ((q+4+4:Nat):Int)=((q+8:Nat):Int)by omega]at *;refine zgO S oo ?_;intro a5 r5 t;have r6:=r5.upTo (m:=N) oo;refine UH (s:=1) (m:=N) underlying87 Eg (by have:=RV.cap o;omega) ?_;generalize T:(b.drop (q+8)).take N=s at *;have af:s.length=N:=by rw[<-T];simp;omega
 (repeat (first|refine Jk ?_))
 refine OY A ?_;intro a7 n7 c7 w7 o7 J;have B7:Below w.heap.size w w7:=B4.trans (J.mono B4.size);have h7:=o7.len;rw[bV]at h7;refine zfv o7.rb oo ?_;have r7:=r6.below J oA;refine YH r7 oo ?_;rw[XO];refine bo ?_;have V:=ae J f f.lt;by_cases C:(Bt 0 (bC N 4++s)).toNat=M
 case neg =>
  have d:rL b q=none:=Fj (by rw[F,X,T];omega);exact aG oo (g B7 d)
 have d:rL b q=some (s,q+8+N):=by
  unfold rL;rw[F,X,T,oJ ⟨by omega,by omega,by omega,C⟩]
 refine aB oo <|wT <|zej V <|x ?_
 (repeat (first|refine aY oo oo ?_))
 refine au <|wT ?_;have B:=ae B7 G y;refine dw IR B oB rfl ?_;intro w8 h l;have h:blk w8 p E [slv v,ci (((q+8:Nat):Int)+(N:Int))]:=h;have r8:RB w8 a5 N (v.2.2-(q+8)) s:=r7.oth l (λ_ D L=>by
  obtain⟨H,h2,e⟩:=t D L;rw[e];exact P oo H h2)
 refine Hf r8 oo ?_;intro a9 c9 w9 o9 W;have K9:Keep [E] p w w9:=((Keep.of B7).trans (l.keep B oB oA)).trans (Keep.of W);refine h1 s _ d a9 N c9 w9 (OV.mono o9 ?_) ?_ K9
 .have e1:=B7.size;have e2:=l.size;omega
 .have:=ae W h h.lt
  rw[show ((q+8+N:Nat):Int)=((q+8:Nat):Int)+(N:Int)by omega];exact this
def FR(w:oG)(B p:Nat)(b:List UInt8)(q:Nat):Prop:=∃v:Option Addr×Nat×Nat,blk w p 186 [slv v,ci (q:Nat)]/\OB w B v.1 v.2.1 v.2.2 b/\B<=p/\(∀a,v.1=some a->a.block<p)/\q<=b.length/\b.length<=4294967296
def zhM{n:Nat}{b:List UInt8}{K:KV}(k:RB w a n c b)(r:n<=4294967296)(h:∀p S,FR S w.heap.size p b 0->Below w.heap.size w S->K (ptr p) S):call Q 49 #[.slice a n c] K w:=by
 have q:=k.len;refine ao (goK func49) (Yl ?_);refine Hf k oo ?_;intro d f t l e;refine cE (vs:=[slv (d,n,f),ci 0]) kr <|cE (vs:=[slv (d,n,f),ci 0]) kr <|bU ?_;intro o g j s;refine h _ o ⟨(d,n,f),g,OB.below l j oA,e.size,λi m=>?_,by omega,by omega⟩ (e.trans (j.mono e.size))
 have:=(OV.block l i.block (by rw[show d=some i from m];rfl)).2
 exact this
def zfX{B p q:Nat}{b:List UInt8}{K:KV}(z:FR w B p b q)(t:rL b q=none->∀S,Below w.heap.size w S->FR S B p b q->K (.tuple #[.slice none 0 0,.bool false]) S)(u:∀s i,rL b q=some (s,i)->∀a n c S,OB S w.heap.size a n c s->FR S B p b i->Keep [186] p w S->K (.tuple #[.slice a n c,.bool true]) S):call Q 50 #[ptr p] K w:=by
 obtain⟨v,y,h,l,f,m,g⟩:=z;have A:=h.len;refine ao (goK func50) (ME ?_);refine eH (v:=.bool false) (by unfold eqG eqGuard;rfl) kr ?_
 (repeat (first|refine aD ?_))
 refine au <|Rj ?_;refine zcH (v:=v) y h.rb oo m (λ_ r x=>by have:=f r x;omega) ?_ ?_
 .intro d j k e
  (repeat (first|refine bK ?_|refine bJ ?_))
  exact t d j k ⟨v,e,OB.below h k oA,l,f,m,g⟩
 .intro s i d a n c j C e o
  (repeat (first|refine bK ?_|refine bJ ?_))
  refine u s i d a n c j C ⟨v,e,h.keep o dc,l,f,?_,g⟩ o;unfold rL at d;split at d
  .rename_i D;cases d;omega
  .cases d
def zjh{B p q:Nat}{b:List UInt8}{K:KV}(d:FR w B p b q)(h:K (ci (q:Nat)) w):call Q 51 #[ptr p] K w:=by
 obtain⟨v,a,g,f,e,i,c⟩:=d;refine ao (goK func51) (Pa ?_);refine eH (v:=.bool false) (by unfold eqG eqGuard;rfl) kr ?_
 (repeat (first|refine aD ?_))
 exact au <|Rj <|wT <|lK a rfl h
def tX(b:List UInt8):List (List UInt8)×Nat:=tY b (b.length+1) 0
def WG{b:List UInt8}{q:Nat}{s:List UInt8}(h:rL b q=some (s,c)):c=q+8+s.length/\c<=b.length/\s.length<=4096/\s=(b.drop (q+8)).take s.length/\s.length=ff ((b.drop q).take 4)/\(Bt 0 (bC s.length 4++s)).toNat=ff ((b.drop (q+4)).take 4):=by
 unfold rL at h;split at h
 .rename_i e;obtain⟨g,a,i,d⟩:=e;simp only[qD,jH]at h;obtain⟨rfl,rfl⟩:=h;have f:((b.drop (q+8)).take (ff ((b.drop q).take 4))).length=ff ((b.drop q).take 4):=by rw[qA,qB];omega
  rw[f];exact⟨rfl,by omega,a,rfl,rfl,d⟩
 .cases h
def OBB.keep{T:List TypeId}{B:Nat}{n:Nat}{vs:List (Option Addr×Nat×Nat)}{L:List (List UInt8)}(h:OBB w B2 a n c vs L)(j:Keep T B w S)(k:5∉T)(m:87∉T):OBB S B2 a n c vs L:=by
 refine⟨⟨h.row.1,?_⟩,h.len,λi v l f s=>(h.each i v l f s).keep j k⟩;rcases h.row.2 with o|⟨g,b,d,f,p,q,r⟩
 .exact .inl o
 .exact .inr ⟨g,b,d,f,p,j.block _ _ q (.inr λt a z e=>by cases e;exact m),r⟩
def FR.keep{T:List TypeId}{B p q:Nat}{b:List UInt8}(h:FR w B2 p b q)(a:Keep T B w S)(c:5∉T)(d:186∉T):FR S B2 p b q:=by obtain⟨v,e,f,r⟩:=h;exact⟨v,a.blk e (.inr d),f.keep a c,r⟩
def FR.below{B p q:Nat}{b:List UInt8}(h:FR w B p b q)(a:Below w.heap.size w S):FR S B p b q:=h.keep (Keep.of a:Keep [] 0 w S) oB oB
def zgq{B:Nat}{n:Nat}{vs:List (Option Addr×Nat×Nat)}{L:List (List UInt8)}(h:OBB w B a n c vs L):L.length=n:=h.rbb.lenL
def zhK{n:Nat}{b:List UInt8}{K:KV}(F:RB w a n c b)(V:n<=4294967296)(h:∀j i c' vs w',OBB w' w.heap.size j i c' vs (tX b).1->Below w.heap.size w w'->K (.tuple #[.slice j i c',ci (tX b).2]) w'):call Q 33 #[.slice a n c] K w:=by
 have hl:=F.len;refine ao (goK func33) (Yk ?_);refine zhM F V ?_;intro p w1 O M;refine Vn (Inv:=λx C=>∃(j:Option Addr) (i c':Nat) (vs:List (Option Addr×Nat×Nat)) (L:List (List UInt8)) (f q:Nat),x=.slice j i c'/\OBB C w.heap.size j i c' vs L/\FR C w.heap.size p b q/\Below w.heap.size w C /\
   q<=b.length/\b.length<q+f/\8*L.length<=q/\tX b=(L++(tY b f q).1,(tY b f q).2)) (μ:=λx _=>match x with | .slice _ i _=>4294967297-i|_=>0) ⟨none,0,0,[],[],b.length+1,0,rfl,OBB.nil _ _,O,M,by omega,by omega,by simp,by simp[tX]⟩ ?_
 rintro _ _ w2 m ⟨a2,A,c2,vs,L,f,q,rfl,y,E,k,hq,T,h8,e⟩ U;obtain⟨t,rfl⟩:∃t,f=t+1:=⟨f-1,by omega⟩
 have S:=zgq y;refine zfX E ?_ ?_
 .intro d w3 D u;have g:tX b=(L,q):=by rw[e];simp[tY,d]
  rw[g]at h
  (repeat (first|refine bK ?_|refine bJ ?_))
  refine bH ?_
  (repeat (first|refine bc ?_))
  refine zjh u ?_
  skip
  exact h _ _ _ _ _ (y.below D oA) (k.trans (D.mono k.size))
 .intro s Y d o B r w3 W u G;have hs:=WG d;have z:w.heap.size<=p:=by obtain⟨v,_,_,R,_⟩:=E;exact R
  have L3:=y.keep G dc dc;have B3:Below w.heap.size w w3:=k.trans ((G.mono (T':=[186]) oB z).below k.size)
  (repeat (first|refine bK ?_|refine bJ ?_))
  refine bH ?_
  (repeat (first|refine aD ?_))
  refine zf5 (v:=(o,B,r)) ?_;intro I l Z s4;have X:OB I w.heap.size o B r s:=OB.below (OV.mono W k.size) l oA;refine zcI (v:=(o,B,r)) w.heap.size (L3.below l oA) Z X oo (by have:=B3.size;omega) ?_;intro J N w5 L5 P;have H:Keep [87] w.heap.size I w5:=Keep.grown P (L3.below l oA).row oB oA
  refine⟨⟨J,A+1,N,_,L++[s],t,Y,rfl,L5,(u.below l).keep H dc dc,(B3.trans (l.mono B3.size)).trans (H.below (by have:=B3.size;omega)),by omega,by omega,by simp;omega,?_⟩,?_⟩
  .rw[e];simp[tY,d]
  .rw[U];show 4294967297-(A+1)<4294967297-A;omega
def TG(b:List UInt8)(q N:Nat):(b.drop q).take (8+N)=(b.drop q).take 4++(b.drop (q+4)).take 4++(b.drop (q+8)).take N:=by rw[show 8+N=4+(4+N)by omega,List.take_add,List.take_add,List.drop_drop,List.drop_drop,jD]
def Yn{b:List UInt8}{q N:Nat}(i:q+8+N<=b.length)(hN:ff ((b.drop q).take 4)=N):sf ((b.drop (q+8)).take N)=(b.drop q).take (8+N)↔(Bt 0 (bC N 4++(b.drop (q+8)).take N)).toNat=ff ((b.drop (q+4)).take 4):=by
 have g:((b.drop (q+8)).take N).length=N:=by rw[qA,qB];omega
 have e:((b.drop q).take 4).length=4:=by rw[qA,qB];omega
 have c:((b.drop (q+4)).take 4).length=4:=by rw[qA,qB];omega
 have f:bC N 4=(b.drop q).take 4:=by
  have:=XF ((b.drop q).take 4)
  rw[e,hN]at this;exact this
 have d:=XF ((b.drop (q+4)).take 4);rw[c]at d;rw[TG];unfold sf Zd;rw[g, <-f,List.append_left_inj,List.append_right_inj];constructor
 .intro h;have a:=qH ff h;rw[Ht]at a
  have:=(Bt 0 (bC N 4++(b.drop (q+8)).take N)).isLt
  rw[Nat.mod_eq_of_lt oo]at a;exact a
 .intro h;rw[h,d]
def Wo(b:List UInt8):∀(f q:Nat),q<=b.length->b.length<q+f ->
  q<=(tY b f q).2/\(tY b f q).2<=b.length/\aO (tY b f q).1=(b.drop q).take ((tY b f q).2-q)/\(∀s∈(tY b f q).1,s.length<=4096)/\rL b (tY b f q).2=none:=by
 intro f
 induction f with
 | zero=>intro q i n;omega
 | succ f ih =>
  intro q i n;simp only[tY];cases a:rL b q with
  | none=>exact⟨Nat.le_refl _,i,by simp[aO],by simp,a⟩
  | some sq =>
   obtain⟨s,c⟩:=sq;obtain⟨v,j,k,g,l,m⟩:=WG a;obtain⟨w,o,p,r,u⟩:=ih c j oo;dsimp only;refine⟨by omega,o,?_,?_,u⟩
   .show sf s++aO (tY b f c).1=_;have d:=(Yn (b:=b) (q:=q) (N:=s.length) oo l.symm).2 (by rw[<-g];exact m);rw[<-g]at d;have h:c=q+(8+s.length):=by omega
    rw[p,d];generalize 8+s.length=M at h;rw[show (tY b f c).2-q=M+((tY b f c).2-c)by omega,List.take_add,List.drop_drop, <-h]
   .intro t e;rcases oO.1 e with rfl|e
    .exact k
    .exact r t e
def zbJ(b:List UInt8):(tX b).2<=b.length/\aO (tX b).1=b.take (tX b).2/\(∀s∈(tX b).1,s.length<=4096)/\rL b (tX b).2=none:=by obtain⟨_,a,c,d,e⟩:=Wo b (b.length+1) 0 oo oo;exact⟨a,by unfold tX;simpa using c,d,e⟩
def zbl{b s:List UInt8}{q:Nat}(k:s.length<=4096)(j:q+8+s.length<=b.length)(h:(b.drop q).take (8+s.length)=sf s):rL b q=some (s,q+8+s.length):=by
 have a:=TG b q s.length;rw[h]at a;unfold sf Zd at a;have g:((b.drop q).take 4).length=4:=by rw[qA,qB];omega
 have e:((b.drop (q+4)).take 4).length=4:=by rw[qA,qB];omega
 obtain⟨d,f⟩:=List.append_inj a (by simp[bV,g,e]);obtain⟨d,l⟩:=List.append_inj d (by simp[bV,g]);have i:ff ((b.drop q).take 4)=s.length:=by rw[<-d,Ht,Nat.mod_eq_of_lt oo]
 have c:=(Yn j i).1 (by rw[<-f,h]);unfold rL;rw[i,oJ ⟨by omega,k,j,c⟩, <-f]
def XA(b:List UInt8):∀(L:List (List UInt8)) (f q:Nat),(∀s∈L,s.length<=4096)->(b.drop q).take (aO L).length=aO L->q+(aO L).length<=b.length->b.length<q+f ->
  ∃a,b.length<q+(aO L).length+a/\tY b f q=(L++(tY b a (q+(aO L).length)).1,(tY b a (q+(aO L).length)).2)
 | [],f,q,_,_,_,h3=>⟨f,by simpa[aO]using h3,by simp[aO]⟩
 | s::L,f,q,h0,h1,h2,h3=>by
  have i:(aO (s::L)).length=8+s.length+(aO L).length:=by simp[aO,Cj]
  rw[i]at h1 h2 |-;rw[List.take_add,List.drop_drop]at h1;obtain⟨d,e⟩:=List.append_inj (show _=sf s++aO L from h1) (by rw[Cj,qA,qB];omega);obtain⟨f,rfl⟩:∃g,f=g+1:=⟨f-1,by omega⟩
  have c:=zbl (h0 s oB) oo d;obtain⟨a,k,h⟩:=XA b L f (q+(8+s.length)) (λt j=>h0 t (by simp[j])) e oo oo;refine⟨a,by omega,?_⟩;simp only[tY,c];rw[show q+8+s.length=q+(8+s.length)by omega,h,show q+(8+s.length+(aO L).length)=q+(8+s.length)+(aO L).length by omega];simp
def zdt{b:List UInt8}{L:List (List UInt8)}(h:∀s∈L,s.length<=4096)(i:b.take (aO L).length=aO L)(j:(aO L).length<=b.length):(tX b).1.take L.length=L/\L.length<=(tX b).1.length/\(aO L).length<=(tX b).2/\(rL b (aO L).length=none->tX b=(L,(aO L).length)):=by
 obtain⟨a,d,e⟩:=XA b L (b.length+1) 0 h (by simpa using i) oo oo;rw[oK]at d e;have f:=(Wo b a (aO L).length j d).1;unfold tX;rw[e];refine⟨by simp,by simp,f,λc=>?_⟩;obtain⟨a,rfl⟩:∃g,a=g+1:=⟨a-1,by omega⟩
 simp[tY,c]
def FD(L:List (List UInt8))(n:Nat):aO L=aO (L.take n)++aO (L.drop n):=by rw[<-xF,List.take_append_drop]
def Vq(L:List (List UInt8))(n:Nat):(aO (L.take n)).length<=(aO L).length:=by rw[FD L n];simp
def zaY(L:List (List UInt8))(n:Nat)(a:n<L.length):((aO L).drop (aO (L.take n)).length).take (8+L[n].length)=sf L[n]:=by rw[FD L n,List.drop_left,List.drop_eq_getElem_cons a];show (sf L[n]++aO (L.drop (n+1))).take _=_;rw[<-Cj L[n],List.take_left]
def zaZ(L:List (List UInt8))(n:Nat)(b:n<L.length):(aO (L.take n)).length+8+L[n].length<=(aO L).length/\(aO (L.take (n+1))).length=(aO (L.take n)).length+8+L[n].length:=by
 have h:=Pb L n L[n] (gE b);have a:=qH List.length h;rw[oT,Cj]at a
 have:=Vq L (n+1)
 omega
def zbm{b s:List UInt8}{q:Nat}(j:s.length<4294967296)(h:∀i,i<4->q+i<b.length->b[q+i]? = (sf s)[i]?)(c:b.length<q+8+s.length):rL b q=none:=by
 unfold rL;by_cases f:q+8<=b.length
 .have e:(b.drop q).take 4=bC s.length 4:=by
   apply List.ext_getElem?;intro i;by_cases a:i<4
   .rw[jN a,jM,h i a oo];unfold sf;rw[jD,qO (by rw[bV];exact a)]
   .rw[jC (by simp;omega),jC (by rw[bV];omega)]
  rw[oI];rintro⟨_,_,d,_⟩;rw[e,Ht,Nat.mod_eq_of_lt oo]at d;omega
 .rw[oI (λg=>f g.1)]
def zfA(L:List (List UInt8))(b:∀s∈L,s.length<=4096)(n k:Nat)(m:n<=L.length)(l:k<=(aO L).length)(c:(aO (L.take n)).length<=k)(e:∀h:n<L.length,k<(aO (L.take n)).length+8+L[n].length):tX ((aO L).take k)=(L.take n,(aO (L.take n)).length):=by
 have d:((aO L).take k).length=k:=by rw[qA];omega
 refine(zdt (λs f=>b s (List.mem_of_mem_take f)) ?_ oo).2.2.2 ?_
 .rw[List.take_take,Nat.min_eq_left c,FD L n,List.take_left]
 .by_cases a:n<L.length
  .refine zbm (s:=L[n]) (by have:=b L[n] (List.getElem_mem _);omega) ?_ (by have:=e a;omega);intro i j g;rw[jN oo, <-zaY L n a,jN oo,jM]
  .unfold rL;rw[oI]
   have:L.take n=L:=tL oo
   rw[this]at c |-;rintro⟨h,_⟩;omega
def zhA(L:List (List UInt8))(k:Nat):∀j,j<=L.length->∃n,n<=j/\(aO (L.take n)).length<=k/\∀h:n<j,∀a:n<L.length,k<(aO (L.take n)).length+8+L[n].length:=by
 intro j
 induction j with
 | zero=>intro _;exact⟨0,by omega,by simp[aO],λh=>by omega⟩
 | succ j ih =>
  intro e;obtain⟨n,d,a,b⟩:=ih oo;by_cases c:n<j
  .exact⟨n,by omega,a,λ_=>b c⟩
  .have:n=j:=by omega
   subst this;have g:=(zaZ L n oo).2;by_cases f:(aO (L.take n)).length+8+L[n].length<=k
   .exact⟨n+1,by omega,by omega,λh=>by omega⟩
   .exact⟨n,by omega,a,λ_ _=>by omega⟩
def zbK{A L:List (List UInt8)}(l:okR A)(hL:okR L)(q:m<=(aO L).length):∃j,j<=L.length/\tX (aO A++(aO L).take m)=(A++L.take j,(aO (A++L.take j)).length)/\(aO A++(aO L).take m).take (aO (A++L.take j)).length=aO (A++L.take j):=by
 have o:okR (A++L):=λs b=>(oU.1 b).elim (l s) (hL s);have c:aO A++(aO L).take m=(aO (A++L)).take ((aO A).length+m):=by rw[xF,List.take_length_add_append]
 obtain⟨n,i,p,k⟩:=zhA L m L.length oA;have e:(A++L).take (A.length+n)=A++L.take n:=List.take_length_add_append n;have d:(aO (A++L)).length=(aO A).length+(aO L).length:=by rw[xF,oT]
 have a:(aO (A++L.take n)).length=(aO A).length+(aO (L.take n)).length:=by rw[xF,oT]
 have:=zfA (A++L) o (A.length+n) ((aO A).length+m) (by simp;omega) oo (by rw[e,a];omega) (λh=>by
  rw[e,a];have f:n<L.length:=by simp at h;omega
  have:=k f f
  have g:(A++L)[A.length+n]=L[n]:=by rw[List.getElem_append_right oo];simp
  rw[g];omega)
 rw[e, <-c]at this;refine⟨n,i,this,?_⟩;have b:=(zbJ (aO A++(aO L).take m)).2.1;rw[this]at b;exact b.symm
def Zu{K:KV}(h:bld Q 92 #[] (λa=>box Q 92 a K) w):Gives Q 13 #[] w K:=aw func13 kr (mpK h)
def WX{K:KV}(h:bT .eql 3 H (ci 0) (λb w=>aT b false (λb=>bT .eql 3 H (ci 1) (λa=>b [H,a]) w) (λk=>k [uu,uu] w) λa=>pick b cT (gd a 1) K) w):Gives Q 47 #[H] w K:=aw func47 kr (mpK h)
def OE{K:KV}(h:bT .eql 66 H (.pointer none) (λa w=>cond a (K (ci 2) w) (bj H (λa=>aq Q 92 a 3 λa=>ld Q 4 a λa w=>cond a (K (ci 8) w) (K (ci 0) w)) w)) w):Gives Q 46 #[H] w K:=aw func46 kr (mpK h)
def OD{K:KV}(h:bj H (λa=>aq Q 92 a 4 λa=>ld Q 4 a λa=>un Q .not a λa w=>cond a (K cF w) (bj H (λa=>aq Q 92 a 5 λa=>ld Q 3 a λa=>bT .eql 3 a (ci 0) λa w=>cond a (call Q 68 #[H] (λ_=>K cT) w) (bj H (λa=>aq Q 92 a 5 λa=>ld Q 3 a λa=>bT .sub 3 a (ci 1) λa=>bj H λb=>aq Q 92 b 5 λb=>sto Q 3 b a λ_=>K cF) w)) w)) w):Gives Q 54 #[H] w K:=aw func54 kr (mpK h)
def QC{K:KV}(h:box Q 165 Z (λa w=>aL (λS w=>hN S H λb=>hF S 92 b 2 λb=>hL S 90 b λb=>hL S 165 a λc=>cH Q 90 1 #[(0,c)] (λc=>bw S λ_=>blt Q .append #[90,90] 90 #[false,false] #[b,c] λb=>aL λS w=>hN S H λc=>hF S 92 c 2 λc=>sto Q 90 c b (λ_ w=>aL (λS w=>hF S 165 a 0 λb=>hL S 163 b λb=>hN S H λc=>hF S 92 c 1 λc=>hF S 165 a 1 λa=>hL S 87 a λa=>bS Q b #[c,a] (λ_=>call Q 54 #[H] λa w=>cond a (K (ci 8) w) (K (ci 0) w)) w) w.drew) w) w) w.drew) w):Gives Q 52 #[H,Z] w K:=aw func52 kr (mpK h)
def NN{K:KV}(h:box Q 3 U (λa=>call Q 46 #[H] λb=>bT .neq 28 b (ci 0) λc w=>cond c (K b w) (ld Q 3 a (λb=>call Q 47 #[b] λb=>un Q .not b λb w=>cond b (K (ci 1) w) (sN H (λb=>sF 92 b 1 λb=>sI 89 b (ci 0) λb=>sL 87 b λb=>sti (blt Q .len #[87] 3 #[false] #[b]) λb=>sN H λc=>sF 92 c 1 λc=>sI 89 c (ci 1) λc=>sL 87 c λc=>sti (blt Q .len #[87] 3 #[false] #[c]) λc=>sti (bF .add 3 b c) λb=>sti (blt Q .len #[87] 3 #[false] #[Z]) λc=>sti (bF .add 3 b c) λb=>sti (bT .gtr 3 b (ci 4194304)) λb w=>cond b (K (ci 7) w) (call Q 48 #[Z] (λb=>bld Q 165 #[(1,b),(2,cT),(0,.func (.func 249) #[] #[a])] λc=>call Q 52 #[H,c] K) w)) w.drew)) w)) w):Gives Q 229 #[H,U,Z] w K:=aw func229 kr (mpK h)
def La{K:KV}{f0:oF}(h:aL (λS w=>hL S 3 H λb=>hL S 3 H λa=>hN S f0 λc=>hI S 89 c a λa=>hL S 87 a λc=>hL S 3 H λa=>hN S f0 λd=>hI S 89 d a λa=>hL S 87 a λa=>hld S (blt Q .len #[87] 3 #[false] #[a]) λd=>hL S 3 H λa=>hN S f0 λe=>hI S 89 e a λa=>hL S 87 a λa=>hld S (blt Q .len #[87] 3 #[false] #[a]) λa=>hld S (slc Q 87 c none (some d) (some a)) λa=>hN S f0 λc=>blt Q .append #[87,87] 87 #[false,false] #[a,Z] (λa=>bw S λS w=>hI S 89 c b λb=>sto Q 87 b a (λ_=>K (.tuple #[])) w) w) w.drew):Gives Q 249 #[f0,Z,H] w K:=aw func249 kr (mpK h)
def Rz{K:KV}(h:box Q 3 Z (λa=>box Q 3 U λf=>call Q 46 #[H] λb=>bT .neq 28 b (ci 0) λc w=>cond c (K b w) (sL 3 a (λb=>sti (call Q 47 #[b]) λb=>sti (un Q .not b) λc w=>aT c false (λd=>sL 3 f (λa=>sti (bT .lss 3 a (ci 0)) λb=>d [a,b]) w) (λk=>k [uu,uu] w) λb=>sti (pick c cT (gd b 1)) λb w=>aT b false (λe=>sL 3 f (λb=>sL 3 a λa=>sN H λc=>sF 92 c 1 λd=>sI 89 d a λf=>sL 87 f λg=>sti (blt Q .len #[87] 3 #[false] #[g]) λh=>sti (bF .gtr 3 b h) λi=>e [b,H,a,c,d,f,g,h,i]) w) (λk=>k [uu,uu,uu,uu,uu,uu,uu,uu,uu] w) λc=>sti (pick b cT (gd c 8)) λb w=>cond b (K (ci 1) w) (bld Q 165 #[(0,.func (.func 53) #[] #[a,f])] (λa=>call Q 52 #[H,a] K) w)) w.drew)) w):Gives Q 36 #[H,Z,U] w K:=aw func36 kr (mpK h)
def Oz{K:KV}{f0:oF}(h:sL 3 H (λa=>sL 3 H λb=>sN f0 λc=>sI 89 c b λb=>sL 87 b λb=>sL 3 Z λc=>sL 3 Z λd=>sti (slc Q 87 b none (some c) (some d)) λb=>sN f0 λc=>sI 89 c a λa=>sto Q 87 a b λ_=>K (.tuple #[])) w.drew):Gives Q 53 #[f0,U,H,Z] w K:=aw func53 kr (mpK h)
def QB{K:KV}(h:call Q 46 #[H] (λa=>bT .neq 28 a (ci 0) λb w=>cond b (K a w) (call Q 54 #[H] (λa w=>cond a (K (ci 8) w) (bj H (λa=>aq Q 92 a 1 λa=>ld Q 89 a λa=>bj H λb=>aq Q 92 b 0 λb=>sto Q 89 b a λ_=>bj H λa=>aq Q 92 a 2 λa=>sto Q 90 a cN λ_=>K (ci 0)) w)) w)) w):Gives Q 41 #[H] w K:=aw func41 kr (mpK h)
def FY{K:KV}(h:call Q 46 #[Z] (λa=>bT .neq 28 a (ci 0) λb w=>cond b (K (.tuple #[cN,a]) w) (call Q 47 #[H] (λa=>un Q .not a λa w=>cond a (K (.tuple #[cN,ci 1]) w) (bj Z (λa=>aq Q 92 a 1 λa=>bv Q 89 a H λa=>ld Q 87 a λa=>call Q 48 #[a] λa=>K (.tuple #[a,ci 0])) w)) w)) w):Gives Q 32 #[Z,H] w K:=aw func32 kr (mpK h)
def RA{K:KV}(h:bT .neq 66 H (.pointer none) (λa w=>cond a (bj H (λa=>aq Q 92 a 3 λa=>sto Q 4 a cT λ_=>bj H λa=>aq Q 92 a 4 λa=>sto Q 4 a cF λ_=>K (.tuple #[])) w) (K (.tuple #[]) w)) w):Gives Q 68 #[H] w K:=aw func68 kr (mpK h)
def XQ{K:KV}(h:lN 24 Z (λa=>bF .geq 3 H a λb w=>aT b false (λb=>bv Q 24 Z H (λa=>ld Q 3 a λc=>bT .lss 3 c (ci 0) λd=>b [Z,H,a,c,d]) w) (λk=>k [uu,uu,uu,uu,uu] w) λa=>pick b cT (gd a 4) λa w=>cond a (K (ci 0) w) (bv Q 24 Z H (λa=>ld Q 3 a λa=>bF .rem 3 a U K) w)) w):Gives Q 198 #[Z,H,U] w K:=aw func198 kr (mpK h)
def xO(d0 kN k_5 f6:oF)(zf:oD):=d0::kN::zT zf 2 3 (k_5::f6::zT zf 7 74 ([]))
def JA(d0 kN k_5 f6 t36 t37 t38:oF)(zf:oD):=d0::kN::zT zf 2 3 (k_5::f6::zT zf 7 29 (t36::t37::t38::zT zf 39 42 ([])))
def JB(d0 kN k_5 f6 t54:oF)(zf:oD):=d0::kN::zT zf 2 3 (k_5::f6::zT zf 7 47 (t54::zT zf 55 26 ([])))
def xP(d0 f6:oF)(zf:oD):=d0::zT zf 1 5 (f6::zT zf 7 74 ([]))
def uA(K:KV):KE:=aj Q (cd f183 [1,1,1,1]) (rk f183 K) xf (rk f183 K)
def mJ(K:KV):KE:=kZ f183 (b1 63) K
def xQ(K:KV):KE:=aj Q (cd f183 (b1 250)) (mJ K) (xx xf (mJ K) 1) (rk f183 K)
def lD(K:KV):KE:=kZ f183 (b1 127) K
def uB(K:KV):KE:=aj Q (cd f183 (b1 253)) (lD K) xf (rk f183 K)
section
variable {K:KV}{d0 kN k_5 f6 t36 t37 t38 t54:oF}  
def JC{K:KV}(h:bT .eql 66 H (.pointer none) (λb w=>cond b (K (ci 2) w) (bj H (λc=>aq Q 92 c 3 λd=>ld Q 4 d λe=>un Q .not e λf w=>cond f (K (ci 3) w) (bj H (λg=>aq Q 92 g 2 λa=>ld Q 90 a λh=>lN 90 h λi=>nC i λj=>call Q 198 #[Z,ci 0,j] λk=>bj H λl=>aq Q 92 l 0 λm=>ld Q 89 m λn=>alc Q 89 λo=>sto Q 89 o n λ_=>uA K (xO H Z k o (zV (zV zu 4 [ci 0]) 10 [b,H,b,f,H,c,d,e,f,Z,H,g,a,h,i,j,k,H,l,m,n]))) w)) w)) w):Gives Q 183 #[H,Z] w K:=by refine aw func183 kr <|Eq.mp (qH (λc=>aj Q c _ _ _ _ w) (by kernel_rfl:(rep [1,1,1,1] (cd f183 [1,1,1,1]) (cd f183 []))=(cd f183 []))) ?_;revert h;delta uA;generalize (cd f183 [1,1,1,1])=xc0;exact mpF
def QA{K:KV}(h:bj Z (λa=>aq Q 92 a 2 λb=>ld Q 90 b λc=>slc Q 90 c none (some H) none λd=>lN 90 d λe=>xQ K (JA Z U H Y d e (ci 0) (zV zf 31 [Z,a,b,c,H]))) w):uA K (xO Z U H Y zf) w:=mpK h
def FW{K:KV}(Inv:oF->oG->Prop)(μ:oF->oG->Nat)(l:Inv C w)(o:∀(a:oF) (k:oD) (w:oG) (m:Nat),Inv a w->m=μ a w ->
  lS a U (λb w=>cond b (bv Q 90 Z a (λb=>ld Q 165 b λb=>alc Q 165 λd=>sto Q 165 d b λ_=>aq Q 165 d 0 λb=>ld Q 163 b λb=>aq Q 165 d 1 λf=>ld Q 87 f λg=>bS Q b #[H,g] λ_=>nC a λc w=>(Inv c w)/\((μ c w)<m)) w) (mJ K (xO Z1 Y J H (zV k 36 [Z,U,a,b])) w)) w):xQ K (JA Z1 Y J H Z U C zf) w:=by refine aZ (cd f183 (b1 500)) (zr [(8,1),(38,10)]) kr (vP [38] Inv) (vQ [38] μ) l ?_;intro j p n;have h:=o _ (zM zf (gd j) (zr [(8,1),(38,10)])) p _ n rfl;revert h;generalize (mJ K)=qc0;exact mpF
def FX(h:bj d0 (λc=>aq Q 92 c 2 λa=>ld Q 90 a λd=>lN 90 d λb=>lS k_5 b λe=>uB K (JB d0 kN k_5 f6 e (zV zf 48 [k_5,d0,c,a,d,b]))) w):mJ K (xO d0 kN k_5 f6 zf) w:=by delta mJ;refine Eq.mp (qH (λc=>aj Q c _ _ _ _ w) (by kernel_rfl:(rep [0,1] (cd f183 (b1 253)) (cd f183 (b1 63)))=(cd f183 (b1 63)))) ?_;revert h;delta uB lD;generalize (cd f183 (b1 253))=xc0;exact mpF
def Am(h:cond t54 (bj d0 (λb=>aq Q 92 b 2 λh=>ld Q 90 h λr=>bv Q 90 r k_5 λc=>ld Q 165 c λs=>alc Q 165 λa=>sto Q 165 a s λ_=>aq Q 165 a 2 λd=>ld Q 4 d λe w=>cond e (aL (λS w=>hF S 165 a 0 λf=>hL S 163 f λg=>hF S 165 a 1 λi=>hL S 87 i λj=>hF S 165 a 1 λk=>hL S 87 k λl=>hld S (blt Q .len #[87] 3 #[false] #[l]) λm=>hld (λ_=>True) (bT .add 3 m (ci 1)) λn=>call Q 198 #[kN,ci 1,n] (λo=>bw S λS w=>hld S (slc Q 87 j none (some o) none) λp=>bS Q g #[f6,p] (λq=>lD K (xP d0 f6 (zV (zV (zV (zV zf 1 [kN]) 5 [k_5]) 9 [a]) 54 [t54,d0,b,h,r,k_5,c,s,d,e,f,g,i,j,kN,k,l,m,n,o,p,q]))) w) w) w.drew) (lD K (xP d0 f6 (zV (zV (zV (zV zf 1 [kN]) 5 [k_5]) 9 [a]) 54 [t54,d0,b,h,r,k_5,c,s,d,e])) w)) w) (lD K (xP d0 f6 (zV (zV (zV zf 1 [kN]) 5 [k_5]) 54 [t54])) w)):uB K (JB d0 kN k_5 f6 t54 zf) w:=by delta uB;revert h;generalize (lD K)=qc0;exact mpF
def Ao(h:ld Q 89 f6 (λa=>ld Q 89 f6 λb=>bld Q 92 #[(0,a),(1,b)] λc=>bj d0 λd=>sto Q 92 d c λ_=>K (ci 0)) w):lD K (xP d0 f6 zf) w:=mpK h
end
attribute [irreducible] uA mJ xQ lD uB
def OA{K:KV}(h:bT .eql 66 H (.pointer none) (λa w=>cond a (K (ci 0) w) (bj H (λa=>aq Q 92 a 2 λa=>ld Q 90 a λa=>lN 90 a K) w)) w):Gives Q 40 #[H] w K:=aw func40 kr (mpK h)
def Qz{K:KV}(h:bT .neq 66 H (.pointer none) (λa w=>cond a (bT .geq 3 Z (ci 0) (λa=>bj H λb=>aq Q 92 b 4 λb=>sto Q 4 b a λ_=>bj H λa=>aq Q 92 a 5 λa=>sto Q 3 a Z λ_=>K (.tuple #[])) w) (K (.tuple #[]) w)) w):Gives Q 182 #[H,Z] w K:=aw func182 kr (mpK h)
def OC{K:KV}(h:bT .neq 66 H (.pointer none) (λb w=>aT b true (λb=>bj H (λa=>aq Q 92 a 3 λc=>ld Q 4 c λd=>un Q .not d λe=>b [H,a,c,d,e]) w) (λk=>k [uu,uu,uu,uu,uu] w) λa=>pick b (gd a 4) cF K) w):Gives Q 24 #[H] w K:=aw func24 kr (mpK h)
def PT:∀w,(sizeOf 4).run Q w=.ok 1 w:=λ_=>by kernel_rfl
def TB(w:oG)(v:Option Addr×Nat×Nat)(l:List UInt8):Prop:=RB w v.1 v.2.1 v.2.2 l/\∀a,v.1=some a->∃b,blk w a.block 5 b
def noBy(w:oG)(F:List Nat):Prop:=∀k E cs,blk w k E cs->E∈[5,3,165]->k∉F
inductive LO where
 | no
 | app (b:List UInt8)
 | cut (n:Nat)
def LO.on:LO->List UInt8->List UInt8
 | .no,f=>f
 | .app b,f=>f++b
 | .cut n,f=>f.take n
def LO.k:LO->Nat
 | .no=>0
 | _=>1
structure DS where
 f:List UInt8
 l:LO
 off:Bool
 fu:Int
def DS.now(D:DS):List UInt8:=D.l.on D.f
def LR(w:oG)(a:Option Addr)(c:Nat):LO->Prop
 | .no=>a=none/\c=0
 | .app b=>∃g q v cs,a=some ⟨g,0,none⟩/\blk w g 165 cs/\cs.take 3=[.func (.func 249) #[] #[ptr q],slv v,.bool true]/\blk w q 3 [ci 0]/\TB w v b/\1<=c
 | .cut _=>True
def DK(w:oG)(p:Nat)(D:DS):Prop :=
 ∃s n a b fz,blk w p 92 [slv s,.slice none 0 0,slv n,.slice none 0 0,.slice a D.l.k b,.bool D.off,.bool (decide (0<=D.fu)),ci fz]/\(0<=D.fu->fz=D.fu)/\(-1<=D.fu/\D.fu<=9223372036854775807)/\LR w a b D.l/\TB w s D.f/\TB w n D.now/\D.f.length<=4194304/\D.now.length<=4194304
section
variable  {F:List Nat}{v:Option Addr×Nat×Nat}{l:List UInt8}{p:Nat}{D:DS}
def TB.rb(h:TB w v l):RB w v.1 v.2.1 v.2.2 l:=h.1
def TB.len(h:TB w v l):l.length=v.2.1:=RB.len h.1
def TB.ch(h:TB w v l)(f:Ch F w S)(g:noBy w F):TB S v l:=by
 refine⟨⟨RV.len h.1,RV.cap h.1,RV.some_ h.1,RV.nil_ h.1,λi u j=>?_⟩,λk m=>?_⟩
 .have n:i<v.2.1:=by have:=(gS j).1;rw[RV.len h.1]at this;exact this
  obtain⟨b,o,d⟩:=RV.some_ h.1 oo;obtain⟨e,c⟩:=h.2 _ d;have a:=RV.cell h.1 i u j;rw[d,uR]at a |-;rw[c.cell]at a;rw[(c.ch f (g _ _ _ c dc)).cell];exact a
 .obtain⟨e,c⟩:=h.2 k m;exact⟨e,c.ch f (g _ _ _ c dc)⟩
def TB.nil(w:oG):TB w (none,0,0) []:=⟨RV.nil w,λa h=>by cases h⟩
def TB.of_blk{cs:oE}{n:Nat}(h:blk w g 5 cs)(f:cs.take n=l.map u8v)(j:l.length=n)(d:n<=c):TB w (some ⟨g,0,none⟩,n,c) l:=by
 refine⟨⟨by simpa using j,d,λ_=>⟨g,0,rfl⟩,(λh=>by cases h),λi u a=>?_⟩,λk b=>by cases b;exact⟨cs,h⟩⟩;rw[uR,h.cell,oK];have e:i<n:=by have:=(gS a).1;simp at this;omega
 rw[<-f,List.getElem?_take,oJ e]at a;exact a
def TB.cut{q:Nat}(h:TB w v l)(e:m<=v.2.1)(b:m<=q)(g:q<=v.2.2):TB w (v.1,m,q) (l.take m):=by
 have f:=h.len;refine⟨⟨by simp;omega,b,λc=>RV.some_ h.1 (qQ c e),λd=>?_,λi u a=>?_⟩,h.2⟩
 .have:=RV.nil_ h.1 d
  show m=0/\q=0;omega
 .refine RV.cell h.1 i u ?_;rw[List.map_take,List.getElem?_take]at a;split at a
  .exact a
  .cases a
def TB.of_ob{B:Nat}{n:Nat}(h:OB w B a n c l):TB w (a,n,c) l:=by
 refine⟨h.rb,λj e=>?_⟩;rcases h.2 with⟨d,_⟩|⟨g,f,b,d,k,i,_⟩
 .cases d;cases e
 .cases d;cases e;exact⟨b.toList,i⟩
def noBy.of{cs:oE}(c:blk w p E cs)(b:E∉[5,3,165]):noBy w [p]:=λk E' g f a d=>f.ne c (λe=>b (e ▸ a)) (mS d)
def noBy.nil(w:oG):noBy w []:=λ_ _ _ _ _=>by simp
def TB.below(h:TB w v l)(a:Below w.heap.size w S):TB S v l:=h.ch (F:=[]) (Ch.of_below a) (noBy.nil w)
def LR.ch{x:LO}(h:LR w a c x)(d:Ch F w S)(f:noBy w F):LR S a c x:=by
 cases x with
 | no=>exact h
 | app b =>
  obtain⟨g,q,v,k,e,i,l,j,o,m⟩:=h;exact⟨g,q,v,k,e,i.ch d (f _ _ _ i dc),l,j.ch d (f _ _ _ j dc),o.ch d f,m⟩
 | cut n=>exact h
def DK.ch(h:DK w p D)(a:Ch F w S)(b:noBy w F)(j:p∉F):DK S p D:=by obtain⟨s,n,k,l,f,g,c,d,i,m,o,e⟩:=h;exact⟨s,n,k,l,f,g.ch a j,c,d,i.ch a b,m.ch a b,o.ch a b,e⟩
def DK.below(h:DK w p D)(a:Below w.heap.size w S):DK S p D:=h.ch (F:=[]) (Ch.of_below a) (noBy.nil w) oB
def DK.blk(h:DK w p D):∃cs,Go.Proofs.YtgohpbmmcgenpaaGreatDoor.blk w p 92 cs:=by obtain⟨s,n,c,d,b,a,_⟩:=h;exact⟨_,a⟩
def DK.lt(h:DK w p D):p<w.heap.size:=by obtain⟨cs,a⟩:=h.blk;exact Go.Proofs.YtgohpbmmcgenpaaGreatDoor.blk.lt a
def DK.len(h:DK w p D):D.now.length<=4194304:=by obtain⟨s,n,g,i,d,e,b,c,f,j,k,a⟩:=h;exact a.2
def blk.dk{cs:oE}(h:blk w z E cs)(d:DK w p D)(c:Ch [p] w S)(a:E≠92):blk S z E cs:=by obtain⟨f,b⟩:=d.blk;exact h.ch c λe=>h.ne b a (mS e)
def pp(D:DS):Bool×DS:=if D.fu=0 then (true, {D with off:=true,fu := -1})else if D.fu<0 then (false,D)else (false, {D with fu:=D.fu-1})
end
def Wr{K:KV}(h:K (pA b (o+0)) w):aq Q 92 (pA b o) 0 K w:=aQ kr h
def BP{K:KV}(h:K (pA b (o+2)) w):aq Q 92 (pA b o) 1 K w:=aQ kr h
def uE{K:KV}(h:K (pA b (o+4)) w):aq Q 92 (pA b o) 2 K w:=aQ kr h
def Eu{K:KV}(h:K (pA b (o+5)) w):aq Q 92 (pA b o) 3 K w:=aQ kr h
def JF{K:KV}(h:K (pA b (o+6)) w):aq Q 92 (pA b o) 4 K w:=aQ kr h
def OQ{K:KV}(h:K (pA b (o+7)) w):aq Q 92 (pA b o) 5 K w:=aQ kr h
def Km{K:KV}(h:K (pA b (o+0)) w):aq Q 165 (pA b o) 0 K w:=aQ kr h
def En{K:KV}(h:K (pA b (o+1)) w):aq Q 165 (pA b o) 1 K w:=aQ kr h
def Zv{K:KV}(h:K (pA b (o+2)) w):aq Q 165 (pA b o) 2 K w:=aQ kr h
def Vw{K:KV}{cs:oE}(v:oF)(a:blk w b E cs)(c:cs[o]? = some v)(h:K v w):ld Q 3 (pA b o) K w:=lK a c h
def DU{K:KV}{cs:oE}(v:oF)(a:blk w b E cs)(c:cs[o]? = some v)(h:K v w):ld Q 4 (pA b o) K w:=lK a c h
def Vx{K:KV}{cs:oE}(v:oF)(a:blk w b E cs)(c:cs[o]? = some v)(h:K v w):ld Q 87 (pA b o) K w:=lK a c h
def Hj{K:KV}{cs:oE}(v:oF)(a:blk w b E cs)(c:cs[o]? = some v)(h:K v w):ld Q 90 (pA b o) K w:=lK a c h
def zgc{K:KV}{cs:oE}(v:oF)(a:blk w b E cs)(c:cs[o]? = some v)(h:K v w):ld Q 163 (pA b o) K w:=lK a c h
def Le{K:KV}(h:K (.bool false) w):bin Q .eql 66 cx cy (ptr b) (.pointer none) K w :=
 eH (by unfold eqG eqGuard;rfl) kr h
def VD{K:KV}(h:K (.bool true) w):bin Q .neq 66 cx cy (ptr b) (.pointer none) K w :=
 eH (by unfold eqG eqGuard;rfl) kr h
section
variable  {K:KV}{p:Nat}{D:DS}{f:List UInt8}
def HE(b:DK w p D)(c:D.off=false)(h:K (ci 0) w):call Q 46 #[ptr p] K w:=by
 obtain⟨s,n,e,f,d,a,_⟩:=b;rw[c]at a;refine ao (goK func46) (OE ?_)
 (repeat (first|refine Le ?_|refine au ?_|refine Eu ?_|(refine DU ?_ (by assumption) ?_ ?_;rotate_left;exact rfl)|refine aD ?_))
 exact h
def XU(a:DK w p D)(h:K (.bool (!D.off)) w):call Q 24 #[ptr p] K w:=by
 obtain⟨s,n,d,e,b,c,_⟩:=a;refine ao (goK func24) (OC ?_)
 (repeat (first|refine VD ?_|refine au ?_|refine Eu ?_|(refine DU ?_ (by assumption) ?_ ?_;rotate_left;exact rfl)|refine my ?_))
 refine bH ?_
 (repeat (first|refine dD ?_))
 exact h
def zbd(t:DK w p D)(h:∀S,DK S p {D with off:=true,fu := -1}->Oth p w S->K (.tuple #[]) S):call Q 68 #[ptr p] K w:=by
 obtain⟨s,n,m,q,g,i,A,B,u,v,y,r⟩:=t;refine ao (goK func68) (RA ?_)
 (repeat (first|refine VD ?_|refine au ?_|refine Eu ?_|refine bc ?_))
 refine dw PT i oB rfl ?_;intro z a b;have a:blk z p _ [slv s,.slice none 0 0,slv n,.slice none 0 0,.slice m D.l.k q,.bool true,.bool (decide (0<=D.fu)),ci g]:=a
 (repeat (first|refine au ?_|refine JF ?_))
 refine dw PT a oB rfl ?_;intro O d c;have o:Oth p w O:=⟨c.os.trans b.os,c.tape.trans b.tape,c.output.trans b.output,c.size.trans b.size,λx j=>(c.other x j).trans (b.other x j)⟩
 have e:Ch [p] w O:=Ch.of_oth o oB;have f:=noBy.of i dc;exact h O ⟨s,n,m,q,g,d,(λh=>by simp at h),by simp,u.ch e f,v.ch e f,y.ch e f,r⟩ o
def zc9{n:Int}(u:DK w p D)(E : -9223372036854775808<=n/\n<=9223372036854775807)(h:∀O,DK O p {D with fu:=if 0<=n then n else -1}->Oth p w O->K (.tuple #[]) O):call Q 182 #[ptr p,ci n] K w:=by
 obtain⟨s,m,g,i,t,j,B,C,v,y,z,r⟩:=u;refine ao (goK func182) (Qz ?_)
 (repeat (first|refine VD ?_|refine au ?_|refine JF ?_|refine cJ ?_|refine bc ?_))
 refine dw PT j oB rfl ?_;intro A c d;have c:blk A p _ [slv s,.slice none 0 0,slv m,.slice none 0 0,.slice g D.l.k i,.bool D.off,.bool (decide (0<=n)),ci t]:=c
 (repeat (first|refine au ?_|refine OQ ?_))
 refine dw IR c oB rfl ?_;intro S a e;have a:blk S p _ [slv s,.slice none 0 0,slv m,.slice none 0 0,.slice g D.l.k i,.bool D.off,.bool (decide (0<=n)),ci n]:=a;have o:Oth p w S:=⟨e.os.trans d.os,e.tape.trans d.tape,e.output.trans d.output,e.size.trans d.size,λx q=>(e.other x q).trans (d.other x q)⟩
 have f:Ch [p] w S:=Ch.of_oth o oB;have b:=noBy.of j dc;refine h S ⟨s,m,g,i,n,?_,?_,?_,v.ch f b,y.ch f b,z.ch f b,r⟩ o
 .by_cases b:0<=n
  .simp only[b,if_true];simp only[b]at a;exact a
  .simp only[b,if_false];simp only[b]at a;exact a
 .by_cases b:0<=n<;>simp[b]
 .show -1<=(if 0<=n then n else -1)/\(if 0<=n then n else -1)<=9223372036854775807;split<;>omega
def ZQ(m:DK w p D)(h:∀S,DK S p (pp D).2->Ch [p] w S->K (.bool (pp D).1) S):call Q 54 #[ptr p] K w:=by
 have c:=m;obtain⟨s,n,q,r,B,j,e,A,v,y,z,t⟩:=m;refine ao (goK func54) (OD ?_);by_cases u:0<=D.fu
 .have e:=e u;subst e
  (repeat (first|refine au ?_|refine JF ?_|refine OQ ?_|(refine Vw ?_ (by assumption) ?_ ?_;rotate_left;exact rfl)|(refine DU ?_ (by assumption) ?_ ?_;rotate_left;exact rfl)|refine aU ?_|refine xI ?_|refine aB oo ?_))
  by_cases i:D.fu=0
  .have a:pp D=(true, {D with off:=true,fu := -1}):=by simp[pp,i]
   rw[a]at h
   (repeat (first|refine aG oo ?_))
   exact zbd c λS f o=>h S f (Ch.of_oth o (List.mem_singleton.2 rfl))
  .have a:pp D=(false, {D with fu:=D.fu-1}):=by unfold pp;rw[oI i,oI oo]
   rw[a]at h
   (repeat (first|refine au ?_|refine OQ ?_|(refine Vw ?_ (by assumption) ?_ ?_;rotate_left;exact rfl)|refine co oo oo ?_|refine aB oo ?_))
   refine dw IR j oB rfl ?_;intro w1 b x;have d:Ch [p] w w1:=Ch.of_oth x oB;have g:=noBy.of j dc;refine h w1 ⟨s,n,q,r,D.fu-1,?_,λ_=>rfl,⟨by show -1<=D.fu-1;omega,by show D.fu-1<=9223372036854775807;omega⟩,v.ch d g,y.ch d g,z.ch d g,t⟩ d
   have b:blk w1 p _ [slv s,.slice none 0 0,slv n,.slice none 0 0,.slice q D.l.k r,.bool D.off,.bool (decide (0<=D.fu)),ci (D.fu-1)]:=b;rw[show decide (0<=D.fu)=decide (0<=D.fu-1)from decide_eq_decide.2 oo]at b;exact b
 .have a:pp D=(false,D):=by unfold pp;rw[oI oo,oJ oo]
  rw[a]at h
  (repeat (first|refine au ?_|refine JF ?_|(refine DU ?_ (by assumption) ?_ ?_;rotate_left;exact rfl)|refine xI ?_|refine aG oo ?_))
  exact h w c (Ch.refl _ _)
def zgh(a:DK w p D)(h:K (ci (D.l.k:Nat)) w):call Q 40 #[ptr p] K w:=by
 obtain⟨s,n,d,e,b,c,_⟩:=a;refine ao (goK func40) (OA ?_)
 (repeat (first|refine Le ?_|refine au ?_|refine uE ?_|(refine Hj ?_ (by assumption) ?_ ?_;rotate_left;exact rfl)|refine aD ?_))
 exact bM underlying90 h
def Qm{f:Int}(a:f=0\/f=1)(h:K (.bool true) w):call Q 47 #[ci f] K w:=by
 refine ao (goK func47) (WX ?_);rcases a with rfl|rfl
 ·(repeat (first|refine aU ?_|refine dD ?_|refine iQ ?_))
  exact h
 ·(repeat (first|refine aU ?_|refine cA ?_|refine eK ?_))
  exact h
def Qk(h:K (pA b o) w):bv Q 89 (pA b o) (ci 0) K w:=fB underlying89 Ef dc dc h
def zfj(h:K (pA b (o+1)) w):bv Q 89 (pA b o) (ci 1) K w:=fB underlying89 Ef dc dc h
def RV.full{n:Nat}(h:RV w a n c xs):RV w a n n xs:=⟨h.len,Nat.le_refl _,h.some_,λb=>⟨(h.nil_ b).1,(h.nil_ b).1⟩,h.cell⟩
def Wp{q:Nat}{v x:Option Addr×Nat×Nat}{m l:List UInt8}(t:blk w q 3 [ci 0])(s:blk w p E xs)(A:xs[o]? = some (slv x))(t0:TB w x m)(F:TB w v l)(N:m.length+l.length<=140737488355328)(B:E∉[5,3,165])(h:∀w' y,blk w' p E (xs.set o (slv y))->TB w' y (m++l)->Ch [p] w w'->K (.tuple #[]) w'):call Q 249 #[pA p o,slv v,ptr q] K w:=by
 have T:=t0.len;have u:=F.len;obtain⟨i,I,O,M,r⟩:=info_parts Lm;refine ao (goK func249) (La ?_);refine ax (λw=>blk w p E xs/\blk w q 3 [ci 0]) ⟨s,t⟩ ?_
 repeat (first|refine ac (λw d _=>lK d.2 rfl) ?_|refine ac (λw d _=>au) ?_|refine ac (λw d _=>Qk) ?_|refine ac (λw d _=>lK d.1 A) ?_|refine ac (λw d _=>wY) ?_|refine ac (λw d _=>ziD underlying87 Eg oA t0.rb.cap) ?_)
 refine zdv (w:=w.drew) underlying87 I O M r rfl (RV.full (RB.drew t0.rb).rv) (RB.drew F.rb).rv oo oo ?_;intro R G w1 f a;have c:blk w1 p E xs:=ae a s.drew s.lt;refine aI ⟨c,ae a t.drew t.lt⟩ <|ac (λw d _=>Qk) ?_;refine dw Ef c (gS A).1 rfl ?_;intro w2 j P
 have z:Below w.heap.size w w1:=⟨a.os,a.tape,a.output,a.size,a.block⟩
 have L:=noBy.of c B;have k:Ch [p] w1 w2:=Ch.of_oth P oB;have g:Ch [p] w w2:=(Ch.of_below z).trans k λ_ h=>.inl h;rcases f with⟨rfl,rfl,D⟩|⟨U,C,S,rfl⟩
 .have J:l=[]:=List.eq_nil_of_length_eq_zero (by rw[u];exact D);subst J;refine h w2 (x.1,x.2.1+v.2.1,x.2.1) j ?_ g;rw[D,qV,oW]
  have:=((t0.cut (m:=x.2.1) (q:=x.2.1) oA oA t0.rb.cap).below z).ch k L
  rw[tL oo]at this;exact this
 .have n:=C.ch k λH=>C.ne c (λe=>B (e ▸ by decide)) (mS H);refine h w2 (some ⟨w.drew.heap.size,0,none⟩,x.2.1+v.2.1,G) j (TB.of_blk n ?_ (by simp;omega) oo) g;rw[<-jJ,qJ (by simp;omega),tL (by simp;omega)]
def ze7:(Tryz.prog.info? 165).map (λi=>(i.zero,i.size,i.bytes))=some (some (.agg #[.nilFunc,.slice none 0 0,.bool false]),3,40):=by kernel_rfl
def ZW{v:Option Addr×Nat×Nat}{x:LO}(hd:DK w p ⟨f,.no,false,fu⟩)(ab:Z1.oneCell'=true)(ad:N2.oneCell'=true)(hx:x.k=1)(ai:(x.on f).length<=4194304)(aa:∀(w':oG) (cs:oE) (n:Option Addr×Nat×Nat) (K':KV),blk w' p 92 cs->cs[0+2]? = some (slv n)->TB w' n f->Ch [p] w w'->(∀r y,blk r p 92 (cs.set (0+2) (slv y))->TB r y (x.on f)->Ch [p] w' r->K' (.tuple #[]) r)->bS Q Z1 #[pA p (0+2),slv v] K' w')(X:∀(w':oG) (g c:Nat) (cs:oE),blk w' g 165 cs->cs.take 3=[Z1,slv v,N2]->Ch [p] w w'->1<=c->LR w' (some ⟨g,0,none⟩) c x)(h:∀w',DK w' p (pp ⟨f,x,false,fu⟩).2->Ch [p] w w'->K (ci (if (pp ⟨f,x,false,fu⟩).1 then 8 else 0)) w'):call Q 52 #[ptr p,.agg #[Z1,slv v,N2]] K w:=by
 obtain⟨s,n,la,lc,O,T,e1,e2,⟨rfl,rfl⟩,t0,t1,e3⟩:=hd;have t1:TB w n f:=t1;have hn:=noBy.of T dc;refine ao (goK func52) (QC ?_);refine bU ?_;intro R o B ar;have o:blk R w.heap.size 165 [Z1,slv v,N2]:=o;have E:=ae B T T.lt
 refine ax (λa => blk a p 92 [slv s,.slice none 0 0,slv n,.slice none 0 0,.slice none 0 0,.bool false,.bool (decide (0<=fu)),ci O]/\blk a w.heap.size 165 [Z1,slv v,N2]) ⟨E,o⟩ <|ac (λw d _=>au) <|ac (λw d _=>uE) <|ac (λw d _=>lK d.1 rfl) <|ac (λw d _=>ldA (n:=3) underlying165 rfl kr d.2 rfl rfl) <|qb (s:=3) [.agg #[Z1,slv v,N2]] underlying90 kr kr oo rfl oB oo rfl (by simp[Value.cells]) ?_
 intro w2 I b av;have I:blk w2 R.heap.size 165 [Z1,slv v,N2]:=I;have F:=ae b E.drew E.lt;have G:=ae b o.drew o.lt;refine aI ⟨F,G⟩ ?_;obtain⟨i,hi,hz,al,Y⟩:=info_parts ze7;have S1:=B.size;have S2:R.heap.size<=w2.heap.size:=b.size;have aq:=T.lt
 refine zbL (base:=w2.heap.size) (s:=3) (m:=1) (ys:=[Z1,slv v,N2]) underlying90 hi hz al Y rfl oo (World.ownsRow_nil _ _ _ _) I rfl (by simp only[oO,oR,or_false];rintro u (rfl|rfl|rfl)<;>first|exact ab|exact ad|rfl) oo oo oo ?_;intro S J w3 ah e an
 have W:Below w2.heap.size w2 w3:=(jT _ w2).grown e oA (λk a=>by cases a);have j:=ae W F F.lt;have H:=ae W G G.lt
 refine ax (λa => blk a p 92 [slv s,.slice none 0 0,slv n,.slice none 0 0,.slice none 0 0,.bool false,.bool (decide (0<=fu)),ci O]/\blk a w.heap.size 165 [Z1,slv v,N2]) ⟨j,H⟩ <|ac (λw d _=>au) <|ac (λw d _=>uE) <|dw (by intro w;kernel_rfl) j oB rfl ?_;intro w4 q o4
 have q:blk w4 p 92 [slv s,.slice none 0 0,slv n,.slice none 0 0,.slice S (0+1) J,.bool false,.bool (decide (0<=fu)),ci O]:=q;have U:Below w.heap.size w w2:=B.trans ((show Below R.heap.size R w2 from⟨b.os,b.tape,b.output,b.size,b.block⟩).mono S1);have V:Below w.heap.size w w3:=U.trans (W.mono oo);have z:Ch [p] w3 w4:=Ch.of_oth o4 (List.mem_singleton.2 rfl)
 have M:Ch [p] w w4:=(Ch.of_below V).trans z λ_ h=>.inl h;have ak:=H.ch z λD=>H.ne j dc (mS D)
 refine ax (λa => blk a p 92 [slv s,.slice none 0 0,slv n,.slice none 0 0,.slice S (0+1) J,.bool false,.bool (decide (0<=fu)),ci O]/\blk a w.heap.size 165 [Z1,slv v,N2]) ⟨q,ak⟩ <|ac (λw d _=>Km) <|ac (λw d _=>lK d.2 rfl) <|ac (λw d _=>au) <|ac (λw d _=>BP) <|ac (λw d _=>En) <|ac (λw d _=>lK d.2 rfl) ?_
 have A:Ch [p] w w4.drew:=⟨M.os,M.tape,M.output,M.size,M.block⟩
 refine aa w4.drew _ n _ q.drew rfl (t1.ch A hn) A ?_;intro w5 y aj ty c5;have t:Ch [p] w w5:=A.trans c5 λ_ h=>.inl h;have ag:LR w5 S J x:=by
  rcases ah.2 with⟨hv,h0⟩|⟨g,am,N,hv,hB,D,ap,hm,hs,ht⟩
  .cases hv
  .cases hv;have e:blk w3 g 165 N.toList:=D;have af:=e.ch z λD=>e.ne j dc (mS D);exact X w5 g J N.toList (af.drew.ch c5 λD=>e.ne j dc (mS D)) (by simpa using ht) t oo
 have Z:DK w5 p ⟨f,x,false,fu⟩:=by
  refine⟨s,y,S,J,O,?_,e1,e2,ag,t0.ch t hn,ty,e3.1,ai⟩;rw[show LO.k (DS.l ⟨f,x,false,fu⟩)=0+1 from hx];exact aj
 refine ZQ Z ?_;intro w6 P c6;have L:=t.trans c6 λ_ h=>.inl h;refine zhv ?_ ?_
 .intro C
  have:=h w6 P L
  rw[C]at this;exact this
 .intro C
  have:=h w6 P L
  rw[C]at this;exact this
def zju(h:∀S,DK S w.heap.size ⟨[],.no,false, -1⟩->Below w.heap.size w S->K (ptr w.heap.size) S):call Q 13 #[] K w:=by refine ao (goK func13) (Zu ?_);refine cE (vs:=[.slice none 0 0,.slice none 0 0,.slice none 0 0,.slice none 0 0,.slice none 0 0,.bool false,.bool false,ci 0]) kr <|bU ?_;intro c b a _;exact h c ⟨(none,0,0),(none,0,0),none,0,0,b,(λh=>qI h dc),by decide,⟨rfl,rfl⟩,TB.nil _,TB.nil _,by simp,by simp[DS.now,LO.on]⟩ a
def zdx{n:Nat}{l:List UInt8}(J:DK w p ⟨f,.no,false,fu⟩)(G:RB w a n c l)(N:f.length+l.length<=4194304)(h:∀w',DK w' p (pp ⟨f,.app l,false,fu⟩).2->Ch [p] w w'->K (ci (if (pp ⟨f,.app l,false,fu⟩).1 then 8 else 0)) w'):call Q 229 #[ptr p,ci 0,.slice a n c] K w:=by
 have Y:=G.len;refine ao (goK func229) (NN ?_);refine bU ?_;intro t d o _;have d:blk t w.heap.size 3 [ci 0]:=d;have i:=J.below o;refine HE i rfl ?_
 (repeat (first|(refine Vw ?_ (by assumption) ?_ ?_;rotate_left;exact rfl)|refine bo ?_|refine aD ?_))
 refine Qm (.inl rfl) <|bH ?_
 (repeat (first|refine aD ?_))
 obtain⟨s,m,Z,lc,X,z,T,U,W,t0,D,V⟩:=id i;have D:TB t m f:=D;have L:=D.len;have y:=z.drew;have M:=d.drew
 (repeat (first|refine ah (λ_=>au) ?_|refine ah (λ_=>BP) ?_|refine ah (λ_=>Qk) ?_|refine ah (λ_=>zfj) ?_|refine ah (λ_=>lK y rfl) ?_|refine aB oo ?_|refine ah (λ_ b=>dE b) ?_|refine ah (λ_ b=>aY oo oo b) ?_|refine ah (λ_ b=>wY b) ?_))
 refine Hf (RB.drew (RB.below G o oA)) oo ?_;intro u v w2 P e;have e:Below t.heap.size t w2:=⟨e.os,e.tape,e.output,e.size,e.block⟩
 have r:=ae e d d.lt;have H:=TB.of_ob P;obtain⟨S,B⟩:=(i.below e).blk;have q:noBy w2 [p]:=noBy.of B dc;refine cE (vs:=[.func (.func 249) #[] #[ptr w.heap.size],slv (u,n,v),.bool true]) kr ?_;refine ZW (x:=.app l) (i.below e) rfl rfl rfl (by show (f++l).length<=_;rw[oT];exact N) ?_ ?_ ?_
 .intro E F x K' k C R j b;exact cB (all:=#[pA p (0+2),slv (u,n,v),ptr w.heap.size]) rfl (Wp (r.ch j (q _ _ _ r dc)) k C R (H.ch j q) oo dc b)
 .intro E g c F k O j I;exact⟨g,w.heap.size,(u,n,v),F,rfl,k,O,r.ch j (q _ _ _ r dc),H.ch j q,I⟩
 .intro E A j;exact h E A ((Ch.of_below (o.trans (e.mono o.size))).trans j λ_ h=>.inl h)
def zhz{q r n:Nat}{v x:Option Addr×Nat×Nat}{m:List UInt8}(l:blk w q 3 [ci 0])(o:blk w r 3 [ci (n:Nat)])(j:blk w p E xs)(g:xs[0+2]? = some (slv x))(t0:TB w x m)(t:n<=m.length)(k:E∉[5,3,165])(h:∀S y,blk S p E (xs.set (0+2) (slv y))->TB S y (m.take n)->Ch [p] w S->K (.tuple #[]) S):call Q 53 #[pA p (0+2),slv v,ptr q,ptr r] K w:=by
 have u:=t0.len;have i:=t0.rb.cap;refine ao (goK func53) (Oz ?_);have e:blk w.drew q 3 [ci 0]:=l;have f:blk w.drew r 3 [ci (n:Nat)]:=o;have c:blk w.drew p E xs:=j
 repeat (first|refine ah (λ_=>lK e rfl) ?_|refine ah (λ_=>lK f rfl) ?_|refine ah (λ_=>au) ?_|refine ah (λ_=>Qk) ?_|refine ah (λ_=>lK c g) ?_|refine ah (λ_=>ziD underlying87 Eg oA oo) ?_)
 refine dw Ef c (gS g).1 rfl ?_;intro O d s;have b:Ch [p] w O:=by
  have b:=Ch.of_oth (F:=[p]) s oB;exact⟨b.os,b.tape,b.output,b.size,b.block⟩
 refine h O (x.1,n,n) d ?_ b;exact(t0.cut oo oA oo).ch b (noBy.of j k)
def zjb{n:Nat}(I:DK w p ⟨f,.no,false, -1⟩)(L:n<=f.length)(h:∀w',DK w' p ⟨f,.cut n,false, -1⟩->Ch [p] w w'->K (ci 0) w'):call Q 36 #[ptr p,ci 0,ci (n:Nat)] K w:=by
 refine ao (goK func36) (Rz ?_);refine bU ?_;intro u d D _;have d:blk u w.heap.size 3 [ci 0]:=d;refine bU ?_;intro w2 e E _;have e:blk w2 u.heap.size 3 [ci (n:Nat)]:=e;have q:=ae E d d.lt;have j:Below w.heap.size w w2:=D.trans (E.mono D.size);have i:=I.below j;refine HE i rfl ?_
 (repeat (first|refine bo ?_|refine aD ?_))
 obtain⟨s,m,U,V,R,l,N,O,P,W,C,H⟩:=id i;have C:TB w2 m f:=C;have J:=C.len;have z:=l.drew;have r:=q.drew;have t:=e.drew;have o:=noBy.of l dc
 (repeat (first|refine ah (λ_=>Qm (.inl rfl)) ?_|refine ah (λ_=>bH) ?_|refine ah (λ_=>lK t rfl) ?_|refine ah (λ_=>au) ?_|refine ah (λ_=>BP) ?_|refine ah (λ_=>Qk) ?_|refine ah (λ_=>lK z rfl) ?_|refine ah (λ_=>lK r rfl) ?_|refine aB oo ?_|refine eK ?_|refine ah (λ_ a=>aW a) ?_|refine ah (λ_ a=>dE a) ?_|refine ah (λ_ a=>wY a) ?_|refine ah (λ_ a=>cA a) ?_))
 refine cE (vs:=[.func (.func 53) #[] #[ptr w.heap.size,ptr u.heap.size],slv (none,0,0),.bool false]) kr ?_;have G:Ch ([]:List Nat) w2 w2.drew:=⟨rfl,rfl,rfl,Nat.le_refl _,λ_ _ _=>rfl⟩
 refine ZW (w:=w2.drew) (v:=(none,0,0)) (x:=.cut n) (i.ch G (noBy.nil w2) oB) rfl rfl rfl (qR (by show (f.take n).length<=f.length;rw[qA];exact Nat.min_le_right _ _) H.1) ?_ ?_ ?_
 .intro y F x K' k B M b a;exact cB (all:=#[pA p (0+2),slv (none,0,0),ptr w.heap.size,ptr u.heap.size]) rfl (zhz (r.ch b (o _ _ _ q dc)) (t.ch b (o _ _ _ e dc)) k B M L dc a)
 .intro y g c F k T b S;trivial
 .intro y A b;exact h y A ((Ch.of_below j).trans (show Ch [p] w2 y from⟨b.os,b.tape,b.output,b.size,b.block⟩) λ_ h=>.inl h)
def syn(D:DS):DS:=⟨D.now,.no,(pp D).2.off,(pp D).2.fu⟩
def zhp(D:DS):(pp D).2.f=D.f/\(pp D).2.l=D.l:=by
 unfold pp;split
 .exact⟨rfl,rfl⟩
 .split<;>exact⟨rfl,rfl⟩
def zd6(m:DK w p D)(A:D.off=false)(h:∀S,DK S p (if (pp D).1 then (pp D).2 else syn D)->Ch [p] w S->K (ci (if (pp D).1 then 8 else 0)) S):call Q 41 #[ptr p] K w:=by
 refine ao (goK func41) (QB ?_);refine HE m A ?_
 (repeat (first|refine bo ?_|refine aD ?_))
 refine ZQ m ?_;intro t c g;cases b:(pp D).1 with
 | true =>
  rw[b]at h
  (repeat (first|refine bc ?_))
  exact h t c g
 | false =>
  rw[b]at h;obtain⟨s,n,B,C,j,e,v,x,I,J,q,d⟩:=c;have z:=noBy.of e dc;have o:=zhp D;have y:(pp D).2.now=D.now:=by unfold DS.now;rw[o.1,o.2]
  rw[y]at q d
  (repeat (first|refine au ?_|refine BP ?_|refine aD ?_))
  refine ldA (n:=2) underlying89 rfl kr e rfl rfl ?_
  (repeat (first|refine au ?_|refine Wr ?_))
  refine fY (n:=2) kr rfl e oB (by simp only[List.take,List.drop,oO,oR,or_false];rintro u (rfl|rfl)<;>rfl) ?_;intro H a E;have a:blk H p 92 [slv n,.slice none 0 0,slv n,.slice none 0 0,.slice B (pp D).2.l.k C,.bool (pp D).2.off,.bool (decide (0<=(pp D).2.fu)),ci j]:=a
  (repeat (first|refine au ?_|refine uE ?_))
  refine dw (by intro w;kernel_rfl) a oB rfl ?_;intro w3 f G;have i:Ch [p] t w3:=(Ch.of_oth E oB).trans (Ch.of_oth (F:=[p]) G oB) λ_ h=>.inl h;have r:=q.ch i z;exact h w3 ⟨n,n,none,0,j,f,v,x,⟨rfl,rfl⟩,r,r,d.2,d.2⟩ (g.trans i λ_ h=>.inl h)
def zgB(b:DK w p D)(g:D.off=false)(h:∀a n c S,OB S w.heap.size a n c D.now->Below w.heap.size w S->K (.tuple #[.slice a n c,ci 0]) S):call Q 32 #[ptr p,ci 0] K w:=by
 refine ao (goK func32) (FY ?_);refine HE b g ?_
 (repeat (first|refine bo ?_|refine aD ?_))
 refine Qm (.inl rfl) <|bH ?_
 (repeat (first|refine aD ?_))
 obtain⟨s,n,q,r,m,o,j,k,f,t,d,l⟩:=b;have f:=d.len
 (repeat (first|refine au ?_|refine BP ?_|(refine Vx ?_ (by assumption) ?_ ?_;rotate_left;exact rfl)|refine Qk ?_))
 refine Hf d.rb oo ?_;intro a c u i e;exact h _ _ _ _ i e
def zgC(b:DK w p D)(e:D.off=false)(h:∀a c S,Below w.heap.size w S->K (.tuple #[.slice a 0 c,ci 0]) S):call Q 32 #[ptr p,ci 1] K w:=by
 refine ao (goK func32) (FY ?_);refine HE b e ?_
 (repeat (first|refine bo ?_|refine aD ?_))
 refine Qm (.inr rfl) <|bH ?_
 (repeat (first|refine aD ?_))
 obtain⟨s,n,i,j,f,g,_⟩:=b
 (repeat (first|refine au ?_|refine BP ?_|(refine Vx ?_ (by assumption) ?_ ?_;rotate_left;exact rfl)|refine zfj ?_))
 refine Hf (l:=[]) (RV.nil w) oo ?_;intro a c m k d;exact h _ _ _ d
end
def RIn(w:oG)(a:Option Addr)(n c:Nat)(l:List Int):Prop:=RV w a n c (l.map (Value.int .i64))
section
variable  {K:KV}{p:Nat}{D:DS}{f:List UInt8}
def RIn.len{n:Nat}{l:List Int}(h:RIn w a n c l):l.length=n:=by simpa using RV.len h
def RIn.below{B:Nat}{n:Nat}{l:List Int}(h:RIn w a n c l)(d:Below B w S)(b:w.heap.size<=B):RIn S a n c l:=RV.below h d b
def RIn.drew{n:Nat}{l:List Int}(h:RIn w a n c l):RIn w.drew a n c l:=RV.drew h
def zhX{n:Nat}{l:List Int}(a:RIn w av n c l)(d:0<=x)(e:x<n)(h:w.cell? (rV av x.toNat)=some (ci (l.getD x.toNat 0))->K (.pointer (some (rV av x.toNat))) w):bv Q 24 (.slice av n c) (ci x) K w:=by
 refine Ll underlying24 IR d e (RV.some_ a) (h ?_);have b:x.toNat<l.length:=by rw[a.len];omega
 rw[RV.cell a x.toNat (ci (l[x.toNat])) (by simp[qC,gE b])];simp[List.getD,b]
def zcG{n:Nat}{l:List Int}(j:x=(m:Nat))(d:0<m)(e:RIn w a n c l)(h:∀k:Nat,k<m->K (ci (k:Nat)) w):call Q 198 #[.slice a n c,ci (i:Nat),ci x] K w:=by
 subst j;refine ao (goK func198) (XQ ?_);refine bM underlying24 ?_;by_cases p:n<=i
 ·(repeat (first|refine cJ ?_|refine bc ?_|refine kW oo ?_|refine bR oo ?_))
  exact h 0 d
 (repeat (first|refine cJ ?_|refine dL oo ?_))
 refine zhX e oo oo ?_;intro b;refine ux kf b ?_;rw[oQ];by_cases q:l.getD i 0<0
 ·(repeat (first|refine aW ?_|refine aG oo ?_|refine bG oo ?_))
  exact h 0 d
 (repeat (first|refine aW ?_|refine aB oo ?_|refine bG oo ?_))
 refine zhX e oo oo ?_;intro b;refine ux kf b ?_;rw[oQ];refine LH (show 0<=l.getD i 0 by omega) oo ?_;have f:=Int.emod_nonneg (l.getD i 0) (show (m:Int)≠0 by omega);have o:=Int.emod_lt_of_pos (l.getD i 0) (show (0:Int)<m by omega);obtain⟨k,g⟩:=Int.eq_ofNat_of_zero_le f;rw[g];exact h k oo
abbrev TF:TypeId:=89
def YQ{q:Nat}{y:Option Addr×Nat×Nat}{a:List UInt8}(o:DK w p D)(k:blk w q TF [slv y,.slice none 0 0])(t0:TB w y a)(j:a.length<=4194304)(h:∀S,DK S p ⟨a,.no,false, -1⟩->Ch [p] w S->K (ci 0) S):ld Q TF (ptr q) (λc w=>ld Q TF (ptr q) (λd w=>bld Q 92 #[(0,c),(1,d)] (λe w=>bj (ptr p) (λf w=>sto Q 92 f e (λ_t w=>K (ci 0) w) w) w) w) w) w:=by
 obtain⟨s,m,v,x,t,i,_⟩:=o
 refine ldA (n:=2) underlying89 rfl kr k rfl rfl <|ldA (n:=2) underlying89 rfl kr k rfl rfl <|cE (vs:=[slv y,.slice none 0 0,slv y,.slice none 0 0,.slice none 0 0,.bool false,.bool false,ci 0]) kr <|au <|fY (n:=8) kr rfl i oB (by simp only[oO,oR,or_false];rintro u (rfl|rfl|rfl|rfl|rfl|rfl|rfl|rfl)<;>rfl) ?_
 intro w3 b r;have g:Ch [p] w w3:=Ch.of_oth r oB;have l:=t0.ch g (noBy.of i dc);exact h w3 ⟨y,y,none,0,0,b,(λh=>by simp at h),by simp,⟨rfl,rfl⟩,l,l,j,j⟩ g
def zjZ{n:Nat}(hd:DK w p D)(ho:D.off=true)(hD:∀n,D.l≠.cut n)(hr:RIn w a n c A)(h:∀w' f',(D.l=.no->f'=D.f)->(∀b,D.l=.app b->∃m,m<=b.length/\f'=D.f++b.take m)->DK w' p ⟨f',.no,false, -1⟩->Ch [p] w w'->K (ci 0) w'):call Q 183 #[ptr p,.slice a n c] K w:=by
 have T:=hd;obtain⟨s,m,la,lc,fz,M,e1,e2,hl,t0,t1,e3⟩:=hd;rw[ho]at M;have hn:=noBy.of M dc;refine ao (goK func183) (JC ?_)
 (repeat (first|refine Le ?_|refine au ?_|refine Eu ?_|(refine DU ?_ (by assumption) ?_ ?_;rotate_left;exact rfl)|refine aD ?_))
 refine bH ?_
 (repeat (first|refine au ?_|refine uE ?_|(refine Hj ?_ (by assumption) ?_ ?_;rotate_left;exact rfl)|refine aD ?_))
 refine bM underlying90 ?_;have aA:D.l.k<=1:=by cases D.l<;>simp[LO.k]
 (repeat (first|refine aY oo oo ?_))
 refine zcG (i:=0) (m:=D.l.k+1) (by push_cast;rfl) oo hr λk hk=>?_
 (repeat (first|refine au ?_|refine Wr ?_))
 refine ldA (n:=2) underlying89 rfl kr M rfl rfl <|cD (z:=.agg #[.slice none 0 0,.slice none 0 0]) kr ?_;intro w1 I b1 _;have I:blk w1 w.heap.size TF [.slice none 0 0,.slice none 0 0]:=I;refine fY (n:=2) kr rfl I oB (by simp only[List.take,List.drop,oO,oR,or_false];rintro u (rfl|rfl)<;>rfl) ?_;intro w2 J o2
 have J:blk w2 w.heap.size TF [slv s,.slice none 0 0]:=J;have O:Below w.heap.size w w2:=b1.trans o2.below;have ai:=ae O M M.lt;have an:=T.below O;have N:=hl.ch (F:=[]) (Ch.of_below O) (noBy.nil w);have Y:=t0.below O;have aF:=Y.len
 (repeat (first|refine au ?_|refine uE ?_|(refine Hj ?_ (by assumption) ?_ ?_;rotate_left;exact rfl)|refine QA ?_))
 refine UH (s:=3) (m:=k) underlying90 kf (by cases B:D.l<;>rw[B]at hl hk<;>simp_all [LR,LO.k]<;>omega) <|bM underlying90 ?_;cases B:D.l with
 | cut n=>exact qI B (hD n)
 | no =>
  rw[B]at hk N ai;obtain⟨rfl,rfl⟩:=N;obtain rfl:k=0:=by simp[LO.k]at hk;omega
  refine FW (Inv:=λi a=>i=ci 0/\a=w2) (μ:=λ_ _=>0) ⟨rfl,rfl⟩ ?_;rintro _ _ _ _ ⟨rfl,rfl⟩ _
  (repeat (first|refine au ?_|refine uE ?_|(refine Hj ?_ (by assumption) ?_ ?_;rotate_left;exact rfl)|refine FX ?_|refine aW ?_|refine aD ?_))
  refine bM underlying90 ?_
  (repeat (first|refine Ao ?_|refine Am ?_|refine aW ?_|refine aD ?_))
  refine YQ an J Y e3.1 ?_;intro w3 ap P;exact h w3 D.f (λ_=>rfl) (λb M=>by rw[B]at M;cases M) ap ((Ch.of_below O).trans P λ_ h=>.inl h)
 | app b =>
  rw[B]at hk N ai;obtain⟨g,q,v,cs,rfl,ag,S,aj,Z,aC⟩:=N;have hk:k<2:=hk;have ad:D.f.length+b.length<=4194304:=by have:=e3.2;unfold DS.now at this;rw[B]at this;show _;simpa[LO.on]using this
  have aw:=Z.len;generalize af:Value.func (.func 249) #[] #[ptr q]=fv at S;have I:fv.oneCell'=true:=by rw[<-af];rfl
  have call:∀{w3:oG} {K':KV} {y v':Option Addr×Nat×Nat} {m' l':List UInt8},Below w.heap.size w w3->blk w3 q 3 [ci 0]->blk w3 w.heap.size TF [slv y,.slice none 0 0]->TB w3 y m'->TB w3 v' l'->m'.length+l'.length<=4194304->(∀w' y',blk w' w.heap.size TF [slv y',.slice none 0 0]->TB w' y' (m'++l')->Ch [w.heap.size] w3 w'->K' (.tuple #[]) w')->bS Q fv #[pA w.heap.size 0,slv v'] K' w3:=by
   intro w3 K' y v' m' l' b3 t G ty tv hl d;subst af;exact cB (all:=#[pA w.heap.size 0,slv v',ptr q]) rfl (Wp (o:=0) t G rfl ty tv oo dc d)
  refine FW (Inv:=λi a=>∃(j:Nat) (y:Option Addr×Nat×Nat),i=ci j/\j<=k/\Ch [w.heap.size] w2 a/\blk a w.heap.size TF [slv y,.slice none 0 0]/\TB a y (D.f++if j=0 then []else b)) (μ:=λi _=>k-(intOf i).toNat) ⟨0,s,rfl,by omega,Ch.refl _ _,J,by simpa using Y⟩ ?_;rintro _ _ w3 mu ⟨j,y,rfl,hj,P,G,ty⟩ ar;have X:noBy w2 [w.heap.size]:=noBy.of J dc
  have ah:=ag.ch P (X _ _ _ ag dc);have t:=aj.ch P (X _ _ _ aj dc);have ak:=Z.ch P X;have C:Below w.heap.size w w3:=O.trans (P.below (λx B=>by rw[mS B];exact Nat.le_refl _) O.size);by_cases aq:j<k
  .obtain rfl:j=0:=by omega
   (repeat (first|refine aW ?_|refine aG oo ?_))
   refine gO (s:=3) underlying90 kf oo oo <|ldA (n:=3) (vs:=[fv,slv v,.bool true]) underlying165 rfl kr ah (by simpa using S) rfl <|cD (z:=.agg #[.nilFunc,.slice none 0 0,.bool false]) kr ?_;intro w4 R b4 _
   refine fY (n:=3) kr rfl R (by simp[Value.cells]) (by simp only[oO,oR,or_false];rintro u (rfl|rfl|rfl)<;>first|exact I|rfl) ?_;intro w5 E o5;have E:blk w5 w3.heap.size 165 [fv,slv v,.bool true]:=E;have H:Below w3.heap.size w3 w5:=b4.trans o5.below;have r:Below w.heap.size w w5:=C.trans (H.mono C.size);have V:=ae H G G.lt
   (repeat (first|refine Km ?_|refine En ?_|(refine Vx ?_ (by assumption) ?_ ?_;rotate_left;exact rfl)|(refine zgc ?_ (by assumption) ?_ ?_;rotate_left;exact rfl)))
   refine call r (ae H t t.lt) V (ty.below H) (ak.below H) (by simpa using ad) λw6 y6 W aa c6=>?_;have al:Ch [w.heap.size] w2 w6:=(P.trans (Ch.of_below (F:=[]) H) λ_ h=>by cases h).trans c6 λ_ h=>.inl h
   (repeat (first|refine aY oo oo ?_))
   exact⟨⟨1,y6,by simp,aq,al,W,by simpa using aa⟩,by rw[ar];simp only[intOf];omega⟩
  .obtain rfl:j=k:=by omega
   have av:=ae C M M.lt;rw[B]at av
   (repeat (first|refine au ?_|refine uE ?_|(refine Hj ?_ (by assumption) ?_ ?_;rotate_left;exact rfl)|refine FX ?_|refine aW ?_|refine aB oo ?_))
   refine bM underlying90 ?_;have am:(LO.app b).k=1:=rfl;rw[am];by_cases h1:j=1
   .subst h1
    (repeat (first|refine Ao ?_|refine Am ?_|refine aW ?_|refine aD ?_))
    refine YQ (T.below C) G ty (by simpa using ad) ?_;intro w7 U c7;exact h w7 (D.f++b) (λe=>by rw[B]at e;cases e) (λa e=>by rw[B]at e;cases e;exact⟨b.length,Nat.le_refl _,by rw[List.take_length]⟩) (by simpa using U) ((Ch.of_below C).trans c7 λ_ h=>.inl h)
   .obtain rfl:j=0:=by omega
    (repeat (first|refine au ?_|refine uE ?_|(refine Hj ?_ (by assumption) ?_ ?_;rotate_left;exact rfl)|refine Am ?_|refine aW ?_|refine bc ?_))
    refine gO (s:=3) underlying90 kf oo oo <|ldA (n:=3) (vs:=[fv,slv v,.bool true]) underlying165 rfl kr ah (by simpa using S) rfl <|cD (z:=.agg #[.nilFunc,.slice none 0 0,.bool false]) kr ?_;intro w4 R b4 _
    refine fY (n:=3) kr rfl R (by simp[Value.cells]) (by simp only[oO,oR,or_false];rintro u (rfl|rfl|rfl)<;>first|exact I|rfl) ?_;intro w5 E o5;have E:blk w5 w3.heap.size 165 [fv,slv v,.bool true]:=E;have H:Below w3.heap.size w3 w5:=b4.trans o5.below;have r:Below w.heap.size w w5:=C.trans (H.mono C.size);have V:=ae H G G.lt
    (repeat (first|refine Zv ?_|(refine DU ?_ (by assumption) ?_ ?_;rotate_left;exact rfl)|refine bc ?_))
    refine ax (λa => blk a w3.heap.size 165 [fv,slv v,.bool true]) E <|ac (λw L _=>Km) <|ac (λw L _=>lK L rfl) <|ac (λw L _=>En) <|ac (λw L _=>lK L rfl) <|ac (λw L _=>En) <|ac (λw L _=>lK L rfl) <|ac (λw L _=>wY) <|ac (λw L _=>aY oo oo) ?_;have dr:Below w5.heap.size w5 w5.drew:=(jT _ w5).drew
    refine zcG (w:=w5.drew) (i:=1) (m:=b.length+1) (by rw[aw];push_cast;rfl) oo ((RIn.below hr r oA).drew) λmm aE=>?_;refine aI E ?_;have az:=Z.rb.cap;refine ac (λw L _=>UH (s:=1) (m:=mm) underlying87 Eg oo) ?_;have ay:=(ak.below H).below dr
    refine call (w3:=w5.drew) (r.trans (dr.mono r.size)) (ae dr (ae H t t.lt) (ae H t t.lt).lt) V.drew ((ty.below H).below dr) (ay.cut (m:=mm) (q:=v.2.2) oo oo oA) (by rw[qA];simp;omega) λw6 y6 W aa c6=>?_
    have ab:Below w.heap.size w w6:=(r.trans (dr.mono r.size)).trans (c6.below (λx B=>by rw[mS B];exact Nat.le_refl _) r.size)
    (repeat (first|refine Ao ?_))
    refine YQ (T.below ab) W aa (by rw[oT,qA];simp;omega) ?_;intro w7 U c7;exact h w7 _ (λe=>by rw[B]at e;cases e) (λa e=>by rw[B]at e;cases e;exact⟨mm,by omega,by simp⟩) U ((Ch.of_below ab).trans c7 λ_ h=>.inl h)
end
end
end Go.Proofs.YtgohpbmmcgenpaaGreatDoor
