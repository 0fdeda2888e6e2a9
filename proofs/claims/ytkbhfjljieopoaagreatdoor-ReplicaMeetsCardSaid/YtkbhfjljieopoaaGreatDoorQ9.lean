import Derived.Test.YtkbhfjljieopoaaGreatDoorQ3
import Derived.Test.YtkbhfjljieopoaaGreatDoorQ8
import Derived.Test.YtkbhfjljieopoaaGreatDoorQ2
import Derived.Test.YtkbhfjljieopoaaGreatDoorQ4
import Derived.Test.YtkbhfjljieopoaaGreatDoorQ5
namespace Go.Proofs.YtkbhfjljieopoaaGreatDoor
set_option maxRecDepth 100000
set_option maxHeartbeats 4000000
open Go.Proofs.Tryz
variable {w w' w0:World}{K:KV}{zf dd:Nat→Value}{b n c o k B i g p j m s z f d D c2 hi:Nat}{x r:Int}{B1:KE}{a av:Option Addr}{cs ys:List Value}{E t e:TypeId}{xs v:List Int}{α W5:Type}{T:List (Int×Int)}{F:List Nat}{cx cy:Bool}{W4:List Value→World→Prop}{Y5 Z5 K6 W6 X6 Y6 Z6 u7 B7 K7 W7 X7 Y7 Z7 B8 K8 W8 X8 Y8 Z8 l9 n9 u9 B9 K9 W9 X9 Y9 Z9:Value}
section
attribute [local irreducible] bin un conv call bY blt slc aT fld aV idx lkp dO gY eSt rng nxt ent ext alc box bld bT ld sto aU dE mkS ifc pick rdy wts aI sti cond bp Gives ae fh fT cOp
open Go.RowKit
structure Ots (g:Nat) (w w':World):Prop where
 os:w'.os=w.os
 tape:w'.tape=w.tape
 output:w'.output=w.output
 size:w.heap.size≤w'.heap.size
 other:∀k,k<w.heap.size→k≠g→w'.heap[k]? = w.heap[k]?
theorem Ots.refl (w:World)(g:Nat):Ots g w w:=⟨rfl,rfl,rfl,Nat.le_refl _,fun _ _ _=>rfl⟩
theorem Ots.of_oth (h:Oth g w w'):Ots g w w':=⟨h.os,h.tape,h.output,by have:=h.size;omega,fun k _ j=>h.other k j⟩
theorem Ots.of_below (h:Below w.heap.size w w'):Ots g w w':=⟨h.os,h.tape,h.output,h.size,fun k j _=>h.block k j⟩
theorem Ots.trans {a b c:World}(h:Ots g a b)(k:Ots g b c):Ots g a c :=
 ⟨k.os.trans h.os,k.tape.trans h.tape,k.output.trans h.output,Nat.le_trans h.size k.size,fun i hi j=>(k.other i (by have:=h.size;omega) j).trans (h.other i hi j)⟩
theorem Ots.drew (h:Ots g w w'):Ots g w w'.drew:=⟨h.os,h.tape,h.output,h.size,h.other⟩
theorem Ots.new {a b c:World}(h:Ots g a b)(k:Oth p b c)(u:a.heap.size≤p):Ots g a c :=
 ⟨k.os.trans h.os,k.tape.trans h.tape,k.output.trans h.output,by have:=h.size;have:=k.size;omega,fun i hi j=>(k.other i (by omega)).trans (h.other i hi j)⟩
theorem Ots.below (h:Ots g w w')(j:B≤g)(C:B≤w.heap.size):Below B w w':=⟨h.os,h.tape,h.output,h.size,fun k u=>h.other k (by omega) (by omega)⟩
theorem SD.oth (h:SD w g n c xs)(o:Oth p w w')(j:p≠g):SD w' g n c xs:=by
 obtain⟨rest,u,C⟩:=h;exact⟨rest,o.blk u (fun e=>j e.symm),C⟩
theorem SD.below (h:SD w g n c xs)(o:Below w.heap.size w w'):SD w' g n c xs:=by
 obtain⟨rest,j,u⟩:=h;exact⟨rest,ac o j j.lt,u⟩
theorem SD.lt (h:SD w g n c xs):g<w.heap.size:=by
 obtain⟨rest,j,u⟩:=h;exact j.lt
/-! ## The length in bits -/
def Wq (l:List UInt8):Bool:=(List.range 256).all fun i=>i==0 || decide (2 ^ (l.getD i 0).toNat≤2*i)
section
variable {P:Program}{w:World}{K:KV}{t:TypeId}
theorem Tr (J:P.underlying t=some .string){l:List UInt8}(C:l.length=256)(j:Wq l=true){k:IntKind}(M:1≤i)(hi:i<256)(h:∀r:Nat,r<64→2 ^ r≤2*i→K (.int .u8 (r:Int)) w):idx P t (.string (sq l)) (.int k (i:Nat)) K w:=by
 have u:2 ^ (l.getD i 0).toNat≤2*i:=by
  have:=(List.all_eq_true.1 j) i (List.mem_range.2 hi)
  simp only[Bool.or_eq_true,beq_iff_eq,decide_eq_true_eq]at this;rcases this with h|h
  ·omega
  ·exact h
 have I:(l.getD i 0).toNat<64:=by
  rcases Nat.lt_or_ge (l.getD i 0).toNat 64 with h|h
  ·exact h
  ·have:2 ^ 64≤2 ^ (l.getD i 0).toNat:=Nat.pow_le_pow_right (by omega) h
   omega
 refine Pz (w':=w) (v:=.int .u8 ((l.getD i 0).toNat:Int)) ?_ (h _ I u);have O:(sq l).size=256:=by simp[sq,ByteArray.size,C]
 have e:(sq l)[i]? = some (l.getD i 0):=by
  rw[getElem?_pos (sq l) i (by omega)]
  congr 1
  simp[sq,ByteArray.getElem_eq_getElem_data,List.getD,show i<l.length by omega]
 simp[Instr.index,asIntOf,run_underlying J,e]
end
theorem Uw (j:m<18446744073709551616):∃r:Nat,ub .and .u64 x (m:Nat)=(r:Int)∧r≤m:=by
 refine⟨(BitVec.ofInt 64 x &&& BitVec.ofInt 64 (m:Int)).toNat,?_,?_⟩
 ·unfold ub;have h:IntKind.u64.bits=64:=rfl;show IntKind.u64.wrap ((BitVec.ofInt 64 x &&& BitVec.ofInt 64 (m:Int)).toNat:Int)=_;rw[gF]
  have:=(BitVec.ofInt 64 x &&& BitVec.ofInt 64 (m:Int)).isLt
  omega
 ·rw[BitVec.toNat_and,BitVec.ofInt_natCast,BitVec.toNat_ofNat,Nat.mod_eq_of_lt (a:=m) (by omega)];exact Nat.and_le_right
theorem Vf (u:1≤n)(I:n<256)(h:∀r:Nat,r<64→2 ^ r≤2*n→K (.int .i64 (r:Int)) w):call Tryz.prog 91 #[.int .u64 (n:Nat)] K w:=by
 refine aj (goK func91) (Az ?_)
 (repeat (first|refine aO ?_))
 refine aj (goK func133) (xW ?_)
 (repeat (first|refine vw ?_|refine mh ?_|refine vx ?_|refine vt ?_|refine vy ?_|refine vu ?_|refine bM ?_|refine aq (by omega) ?_))
 refine dS underlying31 underlying5 ?_;rw[Ok,show ((n:Nat):Int)%256=(n:Nat)by omega];refine Tr underlying9 rfl (by decide +kernel) u I ?_;intro b C j;refine dS underlying5 underlying3 ?_;rw[eK (by omega) (by omega)]
 (repeat (first|refine aW (by omega) (by omega) ?_))
 have:=h b C j
 rwa[Int.zero_add]
theorem Vn (C:1≤n)(J:n<256)(h:∀m:Nat,1≤m→m≤2*n→K (.int .u64 (m:Int)) w):call Tryz.prog 161 #[.int .i64 (n:Nat)] K w:=by
 refine aj (goK func161) (AL ?_);refine dS underlying3 underlying196 ?_;rw[gF,show ((n:Nat):Int)%18446744073709551616=(n:Nat)by omega];refine Vf C J ?_;intro r O j;refine Cg (by omega) ?_;have M:0<2 ^ r:=Nat.two_pow_pos r;have e:IntKind.u64.wrap (1*2 ^ (min ((r:Int).toNat) IntKind.u64.bits))=((2 ^ r:Nat):Int):=by
  have I:IntKind.u64.bits=64:=rfl;rw[I,show min ((r:Int).toNat) 64=r by omega,Int.one_mul,gF];have u:(2:Int) ^ r=((2 ^ r:Nat):Int):=by simp
  rw[u];omega
 rw[e];exact h _ M j
theorem Ut (J:blk w p 258 [.int .u64 x])(h:∀w' y,blk w' p 258 [.int .u64 y]→Oth p w w'→K (.int .u64 y) w'):call Tryz.prog 162 #[.pointer (some ⟨p,0,none⟩)] K w:=by
 have M:∀w,(sizeOf 258).run Tryz.prog w=.ok 1 w:=fun _=>by kernel_rfl
 have u:∀w,(isAgg 258).run Tryz.prog w=.ok false w:=fun _=>by kernel_rfl
 refine aj (goK func162) (Bo ?_);refine aH (fun _=>ai) <|aH (fun _=>ld1 u J rfl) <|aH (fun _=>ai) <|aH (fun _=>ld1 u J rfl) <|aH (fun _=>Cg (by omega)) <|aH (fun _=>Jo) <|aH (fun _=>ai) <|eB M J.drew (by simp) rfl ?_;intro w1 C U
 refine aH (fun _=>ai) <|aH (fun _=>ld1 u C rfl) <|aH (fun _=>ai) <|aH (fun _=>ld1 u C rfl) <|aH (fun _=>Np (by omega)) <|aH (fun _=>Jo) <|aH (fun _=>ai) <|eB M C.drew (by simp) rfl ?_;intro w2 I o2;refine aH (fun _=>ai) <|aH (fun _=>ld1 u I rfl) <|aH (fun _=>ai) <|aH (fun _=>ld1 u I rfl) <|aH (fun _=>Cg (by omega)) <|aH (fun _=>Jo) <|aH (fun _=>ai) <|eB M I.drew (by simp) rfl ?_
 intro w3 O o3;refine ai <|ld1 u O rfl ?_;exact h w3 _ O (cw (cw (co (lh _ _)) (cw U (co (lh _ _)))) (cw o2 (cw (co (lh _ _)) o3)))
theorem UG {a:Nat}(hd:SD w g n c xs)(al:a≤b)(hb:b≤n)(hn:n<256)(h:∀w' ys,SD w' g n c ys→Ots g w w'→Rng a b xs ys→K (.tuple #[]) w'):call Tryz.prog 189 #[.slice (some ⟨g,0,none⟩) n c,.int .i64 (a:Nat),.int .i64 (b:Nat)] K w:=by
 refine aj (goK func189) (rZ ?_);refine bh (by omega) (by omega) ?_;rw[Lp al];refine bM ?_;by_cases h8:8≤b-a
 rotate_left
 ·refine aq (by omega) ?_;exact h _ xs hd (Ots.refl _ _) (Rng.refl _ _ _)
 refine ax (by omega) <|dS underlying3 underlying258 <|dZ (z:=.int .u64 0) (by kernel_rfl) ?_;intro w1 am b1 s1;have ar:=hd.below b1;have a2:=hd.lt;refine eB (fun _=>by kernel_rfl) am (by simp[Value.cells]) rfl ?_;intro w2 O o2;have av:=ar.oth o2 (by omega);have O:blk w2 w.heap.size 258 [.int .u64 (IntKind.u64.wrap ((b-a:Nat):Int))]:=O;refine Vn (by omega) (by omega) ?_;intro m a3 a4
 refine IX (by omega) (by omega) (by omega) <|DI (by omega) (by omega) <|aW (by omega) (by omega) <|bh (by omega) (by omega) ?_;have t2:Ots g w w2:=(Ots.of_below b1).new o2 (Nat.le_refl _);refine rE (Inv:=fun i wr=>∃(q:Nat) (x:Int) (z:List Int),i=.int .i64 (q:Nat)∧(a≤q)∧SD wr g n c z∧blk wr w.heap.size 258 [.int .u64 x]∧Ots g w wr∧Rng a b xs z) (μ:=fun i _=>b-(intOf i).toNat)
  ⟨a+(b-a) / 4*2-1,_,xs,by congr 1;omega,by omega,av,O,t2,Rng.refl _ _ _⟩ ?_
 rintro _ _ w3 m3 ⟨q,x,z,rfl,hq,U,an,t3,r3⟩ aE;have lz:=U.len;refine IX (by omega) (by omega) (by omega) <|DI (by omega) (by omega) <|aW (by omega) (by omega) <|aW (by omega) (by omega) <|fU ?_;by_cases af:(q:Int)≤(a:Int)+((b-a:Nat):Int) / 4*2+1
 rotate_left
 ·refine aq af ?_;exact h _ z U t3 r3
 refine ax af <|Ut an ?_;intro w4 y ap o4;have ad:=U.oth o4 (by omega);have t4:=t3.new o4 (Nat.le_refl _);refine kO ?_;rw[gF,show ((m:Int)-1)%18446744073709551616=((m-1:Nat):Int)by omega];refine ST ?_;obtain⟨r,aS,a7⟩:=Uw (x:=y) (m:=m-1) (by omega);rw[aS];refine dS underlying196 underlying3 ?_;rw[eK (by omega) (by omega)];refine bM <|rD ?_
 have go:∀(o:Nat) {B1:List Value→World→Prop} {aJ a1 b2 I J C M u a0:Value} {zf:Nat→Value},o<b-a→aJ=.slice (some ⟨g,0,none⟩) n c→a1=.int .i64 (a:Nat)→M=.int .i64 (q:Nat)→u=.int .i64 (o:Nat) →
   (∀e w',gd e 9=.int .i64 ((q+1:Nat):Int)→SD w' g n c (swp z q (a+o))→Oth g w4 w'→B1 e w')→bZ K B1 ((bA aJ a1 b2 I J C M u a0 zf)) w4:=by
  intro o
  intros
  rename_i ho e0 e1 e9 ag hB;subst e0 e1 e9 ag;refine rG <|aw (fun x=>SD x g n c z) ad.drew <|ab (fun x hx _=>aW (by omega) (by omega)) <|ab (fun x hx _=>aW (by omega) (by omega)) ?_;rw[ye];refine CL ad.drew (i:=q) (j:=a+o) (by omega) (by omega) ?_;intro w5 d5 o5;refine rF <|aW (by omega) (by omega) ?_;rw[uE];exact hB _ _ rfl d5 (cw (co (lh _ _)) o5)
 have aa:∀(o:Nat),o<b-a→∀e w',gd e 9=.int .i64 ((q+1:Nat):Int)→SD w' g n c (swp z q (a+o))→Oth g w4 w'→(∃(q:Nat) (x:Int) (z:List Int),gd e 9=.int .i64 (q:Nat)∧(a≤q)∧SD w' g n c z∧blk w' w.heap.size 258 [.int .u64 x]∧Ots g w w'∧Rng a b xs z)∧b-(intOf (gd e 9)).toNat<m3:=by
  intro o ho e w5 e9 d5 o5;refine⟨⟨q+1,y,_,e9,by omega,d5,o5.blk ap (by omega),t4.trans (Ots.of_oth o5),r3.trans (Rng.swp (by omega) (by omega) (by omega) (by omega))⟩,?_⟩;rw[e9,aE];simp only[intOf];omega
 by_cases az:b-a≤r
 ·refine ax (by omega) <|bh (by omega) (by omega) ?_;rw[Lp az];exact go (r-(b-a)) (by omega) rfl rfl rfl rfl (aa _ (by omega))
 ·refine aq (by omega) ?_;exact go r (by omega) rfl rfl rfl rfl (aa _ (by omega))
/-! ## The pivot -/
abbrev I64 :TypeId:=3
theorem HC {s:Int}(M:SD w g n c xs)(O:blk w p I64 [.int .i64 s])(aa:p≠g)(hi:i<n)(hj:j<n)(h:∀w' x y s',(x=i∨x=j)→(y=i∨y=j)→SD w' g n c xs→blk w' p I64 [.int .i64 s']→Oth p w w'→K (.tuple #[.int .i64 (x:Nat),.int .i64 (y:Nat)]) w'):call Tryz.prog 209 #[.slice (some ⟨g,0,none⟩) n c,.int .i64 (i:Nat),.int .i64 (j:Nat),.pointer (some ⟨p,0,none⟩)] K w:=by
 refine aj (goK func209) (vJ ?_);refine aw (fun x=>SD x g n c xs) M.drew <|ab (fun x I _=>iw hj) <|ab (fun x I _=>ldS I hj) <|ab (fun x I _=>iw hi) <|ab (fun x I _=>ldS I hi) <|ru ?_;by_cases C:G xs j<G xs i
 ·refine ax C <|ai <|lK (v:=.int .i64 s) O.drew rfl <|jS <|ai <|eB (fun _=>by kernel_rfl) O.drew (by simp) rfl ?_;intro w2 U o2;have J:=cw (co (lh w p)) o2;exact h _ j i _ (.inr rfl) (.inl rfl) (M.oth J aa) U J
 ·refine aq C ?_;exact h _ i j s (.inl rfl) (.inr rfl) M.drew O.drew (co (lh _ _))
theorem Me {s:Int}(M:SD w g n c xs)(hp:blk w p I64 [.int .i64 s])(u:p≠g)(hi:i<n)(O:j<n)(U:k<n)(h:∀w' x s',(x=i∨x=j∨x=k)→SD w' g n c xs→blk w' p I64 [.int .i64 s']→Oth p w w'→K (.int .i64 (x:Nat)) w'):call Tryz.prog 206 #[.slice (some ⟨g,0,none⟩) n c,.int .i64 (i:Nat),.int .i64 (j:Nat),.int .i64 (k:Nat),.pointer (some ⟨p,0,none⟩)] K w:=by
 refine aj (goK func206) (vH ?_);refine HC M hp u hi O ?_;intro w1 x1 y1 s1 aa ag C p1 o1;refine cZ <|db <|HC C p1 u (by omega) U ?_;intro w2 x2 y2 s2 ad al I p2 o2;refine cZ <|db <|HC I p2 u (by omega) (by omega) ?_;intro w3 x3 y3 s3 af am J p3 o3;refine cZ <|db ?_;exact h _ y3 s3 (by omega) J p3 (cw (cw o1 o2) o3)
theorem Md {s:Int}(C:SD w g n c xs)(I:blk w p I64 [.int .i64 s])(j:p≠g)(U:1≤i)(hi:i+1<n)(hn:n<256)(h:∀w' x s',i-1≤x→x≤i+1→SD w' g n c xs→blk w' p I64 [.int .i64 s']→Oth p w w'→K (.int .i64 (x:Nat)) w'):call Tryz.prog 205 #[.slice (some ⟨g,0,none⟩) n c,.int .i64 (i:Nat),.pointer (some ⟨p,0,none⟩)] K w:=by
 refine aj (goK func205) (rM ?_);refine bh (by omega) (by omega) ?_;rw[rS (by omega)];refine aW (by omega) (by omega) ?_;rw[uE];refine Me C I j (by omega) (by omega) (by omega) ?_;intro w1 x O hx u M J;exact h _ x O (by omega) (by omega) u M J
theorem UI {a:Nat}(hd:SD w g n c xs)(ap:a+8≤b)(hb:b≤n)(hn:n<256)(h:∀w' (p:Nat) (u:Int),a≤p→p<b→SD w' g n c xs→Ots g w w'→K (.tuple #[.int .i64 (p:Nat),.int .i64 u]) w'):call Tryz.prog 190 #[.slice (some ⟨g,0,none⟩) n c,.int .i64 (a:Nat),.int .i64 (b:Nat)] K w:=by
 refine aj (goK func190) (tA ?_);refine bh (by omega) (by omega) ?_;rw[Lp (by omega)];refine dZ (z:=.int .i64 0) (by kernel_rfl) ?_;intro w1 C b1 s1;have M:=hd.below b1;have ar:=hd.lt;have C:blk w1 w.heap.size I64 [.int .i64 0]:=C;obtain⟨l,hl⟩:∃l,b-a=l:=⟨_,rfl⟩
 rw[hl];obtain⟨q,hq⟩:∃q,l / 4=q:=⟨_,rfl⟩
 have ag:((l:Nat):Int) / 4=(q:Nat):=by omega
 have st:∀{K':KV} {t:TypeId} {cx cy:Bool},K' (.int .i64 (q:Nat)) w1→bin Tryz.prog .quo t cx cy (.int .i64 (l:Nat)) (.int .i64 4) K' w1:=by
  intro K' t cx cy hK;refine IX (by omega) (by omega) (by omega) ?_;rw[ag];exact hK
 refine st <|DI (by omega) (by omega) ?_;rw[show ((q:Nat):Int)*1=((q*1:Nat):Int)by omega];refine aW (by omega) (by omega) ?_;rw[ye];refine st <|DI (by omega) (by omega) ?_;rw[show ((q:Nat):Int)*2=((q*2:Nat):Int)by omega];refine aW (by omega) (by omega) ?_;rw[ye];refine st <|DI (by omega) (by omega) ?_;rw[show ((q:Nat):Int)*3=((q*3:Nat):Int)by omega];refine aW (by omega) (by omega) ?_;rw[ye]
 refine sb <|bM <|sd <|ax (by omega) <|bM <|sf ?_;have go:∀{w2:World} {s2:Int} (x y z:Nat) {aJ a1 b2 l8 j O U I al am:Value} {zf:Nat→Value},a≤x∧x<b→a≤y∧y<b→a≤z∧z<b→SD w2 g n c xs→blk w2 w.heap.size I64 [.int .i64 s2]→Ots g w w2 →
   aJ=.slice (some ⟨g,0,none⟩) n c→O=.int .i64 (x:Nat)→U=.int .i64 (y:Nat)→I=.int .i64 (z:Nat)→j=.pointer (some ⟨w.heap.size,0,none⟩)→cC K ((aA aJ a1 b2 l8 j O U I al am zf)) w2:=by
  intro w2 s2 x y z
  intros
  rename_i hx hy hz d2 p2 t2 e0 aa ad af e9;subst e0 aa ad af e9;refine sj <|Me d2 p2 (by omega) (by omega) (by omega) (by omega) ?_;intro w3 v s3 hv J p3 o3;have t3:=t2.new o3 (Nat.le_refl _);refine sh <|lK (v:=.int .i64 s3) p3 rfl <|cA ?_;refine EA (fun _=>h _ v _ (by omega) (by omega) J t3) (fun _=>?_);refine cA ?_
  exact EA (fun _=>h _ v _ (by omega) (by omega) J t3) (fun _=>h _ v _ (by omega) (by omega) J t3)
 by_cases an:50≤l
 ·refine ax (by omega) <|Md M C (by omega) (by omega) (by omega) hn ?_;intro w2 x s2 av az d2 p2 o2;refine Md d2 p2 (by omega) (by omega) (by omega) hn ?_;intro w3 y s3 aE aS J p3 o3;refine Md J p3 (by omega) (by omega) (by omega) hn ?_;intro w4 z s4 a0 a2 d4 p4 o4
  exact go x y z (by omega) (by omega) (by omega) d4 p4 ((((Ots.of_below b1).new o2 (Nat.le_refl _)).new o3 (Nat.le_refl _)).new o4 (Nat.le_refl _)) rfl rfl rfl rfl rfl
 ·refine aq (by omega) ?_;exact go _ _ _ (by omega) (by omega) (by omega) M C (Ots.of_below b1) rfl rfl rfl rfl rfl
end
section
attribute [local irreducible] bin un conv call bY blt slc aT fld aV idx lkp dO gY eSt rng nxt ent ext alc box bld bT ld sto aU dE mkS ifc pick rdy wts aI sti cond bp Gives ae fh fT cOp
open Go.RowKit Go.ChangeMaps
section
variable {P:Program}{w:World}{K:KV}{t:TypeId}
theorem Tq (j:P.underlying t=some .string){s:ByteArray}{k:IntKind}(hi:i<s.size)(h:∀b:Nat,b<256→K (.int .u8 (b:Int)) w):idx P t (.string s) (.int k (i:Nat)) K w:=by
 refine Pz (w':=w) (v:=.int .u8 (s[i].toNat:Int)) ?_ (h _ (UInt8.toNat_lt _));have e:s[i]? = some s[i]:=getElem?_pos s i hi;simp[Instr.index,asIntOf,run_underlying j,e]
end
theorem Dy (u:n<256)(h:∀r:Nat,r<256→K (.int .i64 (r:Int)) w):call Tryz.prog 91 #[.int .u64 (n:Nat)] K w:=by
 refine aj (goK func91) (Az ?_)
 (repeat (first|refine aO ?_))
 refine aj (goK func133) (xW ?_)
 (repeat (first|refine vw ?_|refine mh ?_|refine vx ?_|refine vt ?_|refine vy ?_|refine vu ?_|refine bM ?_|refine aq (by omega) ?_))
 refine dS underlying31 underlying5 ?_;rw[Ok,show ((n:Nat):Int)%256=(n:Nat)by omega];refine Tq underlying9 (by exact u) ?_;intro b j;refine dS underlying5 underlying3 ?_;rw[eK (by omega) (by omega)]
 (repeat (first|refine aW (by omega) (by omega) ?_))
 have:=h b j
 rwa[Int.zero_add]
end
section
attribute [local irreducible] bin un conv call bY blt slc aT fld aV idx lkp dO gY eSt rng nxt ent ext alc box bld bT ld sto aU dE mkS ifc pick rdy wts aI sti cond bp Gives ae fh fT cOp
open Go.RowKit
theorem Wu (M:xs.Nodup)(hi:i<xs.length)(j:k<xs.length)(h:i≠k):G xs i≠G xs k:=by
 have I:G xs i=xs[i]:=by simp[G,List.getD,hi]
 have J:G xs k=xs[k]:=by simp[G,List.getD,j]
 rw[I,J];have C:=List.pairwise_iff_getElem.1 M;rcases Nat.lt_or_ge i k with u|u
 ·exact C i k hi j u
 ·exact fun e=>C k i j hi (by omega) e.symm
theorem Srt.join {ys:List Int}{a:Nat}(C:Srt ys a m)(I:Srt ys (m+1) b)(lo:∀k,a≤k→k<m→G ys k≤G ys m)(M:∀k,m<k→k<b→G ys m≤G ys k):Srt ys a b:=by
 intro i hi J;by_cases h:i+1<m
 ·exact C i hi h
 by_cases j:i+1=m
 ·rw[j];exact lo i hi (by omega)
 by_cases u:i=m
 ·rw[u];exact M (m+1) (by omega) (by omega)
 ·exact I i (by omega) J
structure NX (a b:Nat) (z:List Int) (a2 b2:Nat) (z2:List Int):Prop where
 le:a2≤b2
 ha:a≤a2
 hb:b2≤b
 lt:b2-a2<b-a
 rng:Rng a b z z2
 low:Low a2 b2 z2
 fin:∀ys,Rng a2 b2 z2 ys→Srt ys a2 b2→Rng a b z ys∧Srt ys a b
section
variable {a b m:Nat}{z z2 z3:List Int}
theorem PR.lowL (q:PR z2 a b m)(u:Low a b z2):Low a m z2:=fun i k h j C=>u i k h j (by have:=q.hm;omega)
theorem PR.lowR (q:PR z2 a b m)(C:Low a b z2)(I:z2.Nodup)(O:b≤z2.length):Low (m+1) b z2:=by
 intro i k J M h;have U:=q.hm;by_cases j:i<a
 ·exact C i k j (by omega) h
 have hu:=q.up k (by omega) h;by_cases u:i=m
 ·subst u
  have:=Wu I (i:=i) (k:=k) (by omega) (by omega) (by omega)
  omega
 ·have:=q.lo i (by omega) (by omega)
  omega
theorem TH (r : Rng a b z z2) (q : PR z2 a b m) (hl : Low a b z) (hn : z.Nodup) (hb : b ≤ z.length) (r3 : Rng a m z2 z3) (s3 : Srt z3 a m) : NX a b z (m + 1) b z3 := by
  have hm := q.hm
  have hn2 : z2.Nodup := r.perm.nodup_iff.2 hn
  have hl2 := r.len
  have hl3 := r3.len
  have hn3 : z3.Nodup := r3.perm.nodup_iff.2 hn2
  have lo3 : ∀ k, a ≤ k → k < m → G z3 k < G z2 m := by
    intro k h1 h2
    obtain ⟨j, j1, j2, j3⟩ := r3.from (by omega) hn2 k h1 h2
    rw [j3]; exact q.lo j j1 j2
  have em : G z3 m = G z2 m := r3.out m (by omega)
  have low2 := hl.rng r hb hn
  have low3 := low2.rng (r3.mono (c := a) (d := b) (by omega) (by omega)) (by omega) hn2
  refine ⟨by omega, by omega, by omega, by omega, r.trans (r3.mono (by omega) (by omega)), ?_, fun ys ry sy => ⟨(r.trans (r3.mono (by omega) (by omega))).trans (ry.mono (by omega) (by omega)), Srt.join (m := m) ?_ sy ?_ ?_⟩⟩
  · refine PR.lowR ⟨hm, fun k h1 h2 => by rw [em]; exact lo3 k h1 h2, fun k h1 h2 => ?_⟩ low3 hn3 (by omega)
    rw [em, r3.out k (by omega)]; exact q.up k h1 h2
  · intro i h1 h2
    rw [ry.out i (by omega), ry.out (i + 1) (by omega)]; exact s3 i h1 h2
  · intro k h1 h2
    rw [ry.out k (by omega), ry.out m (by omega), em]
    have := lo3 k h1 h2; omega
  · intro k h1 h2
    obtain ⟨j, j1, j2, j3⟩ := ry.from (by omega) hn3 k (by omega) h2
    rw [ry.out m (by omega), em, j3, r3.out j (by omega)]
    exact q.up j (by omega) j2
theorem Fg (r : Rng a b z z2) (q : PR z2 a b m) (hl : Low a b z) (hn : z.Nodup) (hb : b ≤ z.length) (r3 : Rng (m + 1) b z2 z3) (s3 : Srt z3 (m + 1) b) : NX a b z a m z3 := by
  have hm := q.hm
  have hn2 : z2.Nodup := r.perm.nodup_iff.2 hn
  have hl2 := r.len
  have hl3 := r3.len
  have hn3 : z3.Nodup := r3.perm.nodup_iff.2 hn2
  have em : G z3 m = G z2 m := r3.out m (by omega)
  have low2 := hl.rng r hb hn
  have low3 := low2.rng (r3.mono (c := a) (d := b) (by omega) (by omega)) (by omega) hn2
  refine ⟨by omega, by omega, by omega, by omega, r.trans (r3.mono (by omega) (by omega)), fun i k h1 h2 h3 => low3 i k h1 h2 (by omega), fun ys ry sy => ⟨(r.trans (r3.mono (by omega) (by omega))).trans (ry.mono (by omega) (by omega)), Srt.join (m := m) sy ?_ ?_ ?_⟩⟩
  · intro i h1 h2
    rw [ry.out i (by omega), ry.out (i + 1) (by omega)]; exact s3 i h1 h2
  · intro k h1 h2
    obtain ⟨j, j1, j2, j3⟩ := ry.from (by omega) hn3 k h1 h2
    rw [ry.out m (by omega), em, j3, r3.out j (by omega)]
    have := q.lo j j1 j2; omega
  · intro k h1 h2
    rw [ry.out k (by omega), ry.out m (by omega), em]
    obtain ⟨j, j1, j2, j3⟩ := r3.from (by omega) hn2 k (by omega) h2
    rw [j3]
    exact q.up j (by omega) j2
end
def Lg (d g n c:Nat):Prop:=∀{a b:Nat} {lm:Int} {z:List Int} {w:World} {K:KV},b-a<d→SD w g n c z→a≤b→b≤n→z.Nodup→Low a b z→(∀w' ys,SD w' g n c ys→Ots g w w'→Rng a b z ys→Srt ys a b→K (.tuple #[]) w') →
 call Tryz.prog 159 #[.slice (some ⟨g,0,none⟩) n c,.int .i64 (a:Nat),.int .i64 (b:Nat),.int .i64 lm] K w
def Ol (g n c:Nat)(w0:World)(a b:Nat)(z:List Int)(B1:List Value→World→Prop):Prop:=∀(e:List Value) (w':World) (a2 b2:Nat) (lm:Int) (wb wp:Bool) (z2:List Int),
 gd e 1=.int .i64 (a2:Nat)→gd e 2=.int .i64 (b2:Nat)→gd e 3=.int .i64 lm→gd e 8=.bool wb→gd e 9=.bool wp→SD w' g n c z2→Ots g w0 w'→NX a b z a2 b2 z2→B1 e w'
section
variable {w w0 w':World}{K:KV}{g n c:Nat}{xs z:List Int}
theorem Qf {a:Nat}(e0:Y5=.slice (some ⟨g,0,none⟩) n c)(e1:Z5=.int .i64 (a:Nat))(e2:K6=.int .i64 (b:Nat))(e3:W6=.int .i64 x)(e8:Y6=.bool cx)(e9:Z6=.bool cy)(U:u7=.int .i64 ((b-a:Nat):Int))(al:B7=.int .i64 (p:Nat))(hd:SD w g n c z)(ho:Ots g w0 w)(hr:Rng a b xs z)(ad:a≤p)(af:p<b)(hb:b≤n)(j:Low a b xs)(hn:xs.Nodup)(C:Lg (b-a) g n c)(hB:Ol g n c w0 a b xs W4):dv K W4 ((ah Y5 Z5 K6 W6 X6 Y6 Z6 u7 B7 K7 W7 X7 Y7 Z7 B8 K8 W8 X8 Y8 Z8 l9 n9 u9 B9 K9 W9 X9 Y9 Z9 zf)) w:=by
 subst e0 e1 e2 e3 e8 e9 U al;have hm:n≤4611686018427387904:=by obtain⟨_,_,_,_,hm⟩:=hd;exact hm
 have lz:=hd.len;have ar:=hr.len;have ag:=j.rng hr (by omega) hn;refine uz <|aH (fun _=>de) ?_;have rest:∀{w2:World} {K2:KV},SD w2 g n c z→(∀w' ys m f,SD w' g n c ys→Oth g w2 w'→Rng a b xs ys→PR ys a b m→K2 (.tuple #[.int .i64 (m:Nat),.bool f]) w') →
   call Tryz.prog 195 #[.slice (some ⟨g,0,none⟩) n c,.int .i64 (a:Nat),.int .i64 (b:Nat),.int .i64 (p:Nat)] K2 w2:=by
  intro w2 K2 d2 h2;exact Vr d2 ad af hb (fun w' ys m f h3 h4 h5 h6=>h2 w' ys m f h3 h4 (hr.trans h5) h6)
 have I:∀{m:Nat} {f:Bool} {ys:List Int} {w3:World} {Y5 Z5 K6 W6 X6 Y6 Z6 u7 B7 K7 W7 X7 Y7 Z7 B8 K8 W8 X8 Y8 Z8 l9 n9 u9 B9 K9 W9 X9 Y9 Z9:Value} {zf:Nat→Value},Y5=.slice (some ⟨g,0,none⟩) n c→Z5=.int .i64 (a:Nat)→K6=.int .i64 (b:Nat)→W6=.int .i64 x→X7=.bool f →
   u7=.int .i64 ((b-a:Nat):Int)→W7=.int .i64 (m:Nat)→SD w3 g n c ys→Ots g w0 w3→Rng a b xs ys→PR ys a b m→hU K W4 ((ah Y5 Z5 K6 W6 X6 Y6 Z6 u7 B7 K7 W7 X7 Y7 Z7 B8 K8 W8 X8 Y8 Z8 l9 n9 u9 B9 K9 W9 X9 Y9 Z9 zf)) w3:=by
  intro m f ys w3
  intros
  rename_i e0 e1 e2 e3 e9 U am O o3 M u;subst e0 e1 e2 e3 e9 U am;have an:=u.hm;have aa:ys.Nodup:=M.perm.nodup_iff.2 hn;have J:=j.rng M (by omega) hn;have ly:=O.len;refine um <|bh (by omega) (by omega) <|bh (by omega) (by omega) <|IX (by omega) (by omega) (by omega) <|aM ?_;refine EA (fun _=>?_) (fun _=>?_)
  ·refine bM <|C (by omega) O an.1 (by omega) aa (u.lowL J) ?_;intro w4 y4 d4 o4 r4 s4;refine aW (by omega) (by omega) ?_;exact hB _ _ (m+1) b x _ f y4 rfl rfl rfl rfl rfl d4 (o3.trans o4) (TH M u j hn (by omega) r4 s4)
  ·refine bM <|aW (by omega) (by omega) ?_;rw[uE];refine C (by omega) O (by omega) (by omega) aa (u.lowR J aa (by omega)) ?_;intro w4 y4 d4 o4 r4 s4;exact hB _ _ a m x _ f y4 rfl rfl rfl rfl rfl d4 (o3.trans o4) (Fg M u j hn (by omega) r4 s4)
 by_cases ha:0<a
 ·refine dD (by omega) <|aH (fun _=>bh (by omega) (by omega)) ?_;rw[rS ha];refine aH (fun _=>iw (by omega)) <|aH (fun _=>ldS hd.drew (by omega)) <|aH (fun _=>iw (by omega)) <|aH (fun _=>ldS hd.drew (by omega)) <|aH (fun _=>ru) <|aH (fun _=>tO) <|aH (fun _=>bO (by omega)) ?_;have ap:=ag (a-1) p (by omega) ad af;refine aq (by omega) <|rest hd.drew ?_;intro w3 ys m f O o3 M u
  refine cZ <|db ?_;exact I rfl rfl rfl rfl rfl rfl rfl O (ho.drew.trans (Ots.of_oth o3)) M u
 ·refine dY (by omega) <|aH (fun _=>bw (by omega)) <|aO <|rest hd.drew ?_;intro w3 ys m f O o3 M u;refine cZ <|db ?_;exact I rfl rfl rfl rfl rfl rfl rfl O (ho.drew.trans (Ots.of_oth o3)) M u
theorem Qe {a:Nat}(e0:Y5=.slice (some ⟨g,0,none⟩) n c)(e1:Z5=.int .i64 (a:Nat))(e2:K6=.int .i64 (b:Nat))(e3:W6=.int .i64 x)(e8:Y6=.bool cx)(e9:Z6=.bool cy)(u:u7=.int .i64 ((b-a:Nat):Int))(C:B7=.int .i64 (p:Nat))(aa:K7=.int .i64 r)(hd:SD w g n c z)(ho:Ots g w0 w)(I:Rng a b xs z)(J:a≤p)(M:p<b)(hb:b≤n)(h:Low a b xs)(U:xs.Nodup)(j:Lg (b-a) g n c)(hB:Ol g n c w0 a b xs W4)(hF:∀w' ys,SD w' g n c ys→Ots g w0 w'→Rng a b xs ys→Srt ys a b→K (.tuple #[]) w'):du K W4 ((ah Y5 Z5 K6 W6 X6 Y6 Z6 u7 B7 K7 W7 X7 Y7 Z7 B8 K8 W8 X8 Y8 Z8 l9 n9 u9 B9 K9 W9 X9 Y9 Z9 zf)) w:=by
 subst e0 e1 e2 e3 e8 e9 u C aa;have lz:=hd.len;have ag:=I.len;have O:=h.rng I (by omega) U;have af:z.Nodup:=I.perm.nodup_iff.2 U;have a3:∀{t:Bool} {Y5 Z5 K6 W6 X6 Y6 Z6 u7 B7 K7 W7 X7 Y7 Z7 B8 K8 W8 X8 Y8 Z8 l9 n9 u9 B9 K9 W9 X9 Y9 Z9:Value} {zf:Nat→Value},Y5=.slice (some ⟨g,0,none⟩) n c→Z5=.int .i64 (a:Nat)→K6=.int .i64 (b:Nat)→W6=.int .i64 x→Y6=.bool cx→Z6=.bool cy →
   u7=.int .i64 ((b-a:Nat):Int)→B7=.int .i64 (p:Nat)→X8=.bool t→hJ K W4 ((ah Y5 Z5 K6 W6 X6 Y6 Z6 u7 B7 K7 W7 X7 Y7 Z7 B8 K8 W8 X8 Y8 Z8 l9 n9 u9 B9 K9 W9 X9 Y9 Z9 zf)) w:=by
  intro t
  intros
  rename_i e0 e1 e2 e3 e8 e9 u C ad;subst e0 e1 e2 e3 e8 e9 u C ad;refine uk ?_;cases t
  ·refine aO ?_;exact Qf rfl rfl rfl rfl rfl rfl rfl rfl hd ho I J M hb h U j hB
  ·refine bu <|We hd (by omega) hb O af ?_;intro w2 ys f d2 o2 r2 s2;cases f
   ·refine aO ?_;exact Qf rfl rfl rfl rfl rfl rfl rfl rfl d2 (ho.trans (Ots.of_oth o2)) (I.trans r2) J M hb h U j hB
   ·refine bu ?_;exact hF _ ys d2 (ho.trans (Ots.of_oth o2)) (I.trans r2) (s2 rfl)
 refine ux ?_;cases cx
 ·refine mE <|dA <|mE <|dA ?_;exact a3 rfl rfl rfl rfl rfl rfl rfl rfl rfl
 ·refine kS <|bX ?_;cases cy
  ·refine mE <|dA ?_;exact a3 rfl rfl rfl rfl rfl rfl rfl rfl rfl
  ·refine kS <|cA <|bX ?_;exact a3 rfl rfl rfl rfl rfl rfl rfl rfl rfl
theorem NU {a:Nat}(e0:Y5=.slice (some ⟨g,0,none⟩) n c)(e1:Z5=.int .i64 (a:Nat))(e2:K6=.int .i64 (b:Nat))(e3:W6=.int .i64 x)(e8:Y6=.bool cx)(e9:Z6=.bool cy)(I:u7=.int .i64 ((b-a:Nat):Int))(hd:SD w g n c z)(ho:Ots g w0 w)(hr:Rng a b xs z)(aa:a+12<b)(C:b≤n)(J:n<256)(h:Low a b xs)(hn:xs.Nodup)(j:Lg (b-a) g n c)(hB:Ol g n c w0 a b xs W4)(hF:∀w' ys,SD w' g n c ys→Ots g w0 w'→Rng a b xs ys→Srt ys a b→K (.tuple #[]) w'):dt K W4 ((ah Y5 Z5 K6 W6 X6 Y6 Z6 u7 B7 K7 W7 X7 Y7 Z7 B8 K8 W8 X8 Y8 Z8 l9 n9 u9 B9 K9 W9 X9 Y9 Z9 zf)) w:=by
 subst e0 e1 e2 e3 e8 e9 I;refine ut <|UI hd (by omega) C J ?_;intro w2 p u M O U o2;refine cZ <|db <|cA <|ui ?_;refine EA (fun _=>?_) (fun _=>?_)
 ·refine Wh U C ?_;intro w3 ys d3 o3 r3;refine bh (by omega) (by omega) <|bh (by omega) (by omega) <|bh (by omega) (by omega) ?_;rw[show ((b:Int)-1-((p:Int)-(a:Int)))=((b-1-(p-a):Nat):Int)by omega];exact Qe rfl rfl rfl rfl rfl rfl rfl rfl rfl d3 ((ho.trans o2).trans (Ots.of_oth o3)) (hr.trans r3) (by omega) (by omega) C h hn j hB hF
 ·exact Qe rfl rfl rfl rfl rfl rfl rfl rfl rfl U (ho.trans o2) hr M O C h hn j hB hF
theorem Vt (af:n<256):∀d,Lg d g n c:=by
 intro d
 induction d with
 | zero=>intro a b lm z w K h;omega
 | succ d ih =>
  intro a b lm xs w K az hd am hb hn ag h;have lx:=hd.len;refine aj (goK func159) (pf ?_);refine oJ (Inv:=fun x y l b1 b2 _ _ _ _ _ _ _ _ _ _ _ _ _ _ wr=>∃(j u:Nat) (lm:Int) (wb wp:Bool) (z:List Int),x=.int .i64 (j:Nat)∧y=.int .i64 (u:Nat)∧l=.int .i64 lm∧b1=.bool wb∧b2=.bool wp ∧
    a≤j∧j≤u∧u≤b∧SD wr g n c z∧Ots g w wr∧z.Nodup∧Low j u z∧∀ys,Rng j u z ys→Srt ys j u→Rng a b xs ys∧Srt ys a b)
   (μ:=fun x y l b1 b2 _ _ _ _ _ _ _ _ _ _ _ _ _ _ _=>(intOf y).toNat-(intOf x).toNat) ⟨a,b,lm,true,true,xs,rfl,rfl,rfl,rfl,rfl,Nat.le_refl _,am,Nat.le_refl _,hd,Ots.refl _ _,hn,ag,fun ys h1 h2=>⟨h1,h2⟩⟩ ?_
  rintro _ _ _ _ _ _ _ _ _ _ _ _ _ _ _ _ _ _ _ _ w1 m ⟨j,u,lm,wb,wp,z,rfl,rfl,rfl,rfl,rfl,h1,h2,h3,I,o1,O,ad,C⟩ an;have lz:=I.len;refine bh (by omega) (by omega) ?_;rw[Lp h2];refine fU ?_;by_cases av:u-j≤12
  ·refine ax (by omega) <|Ry I h2 (by omega) ?_;intro w2 ys M U r2 s2;obtain⟨f1,f2⟩:=C ys r2 s2;exact h _ ys M (o1.trans (Ots.of_oth U)) f1 f2
  refine aq (by omega) <|cA ?_;refine EA (fun _=>?_) (fun _=>?_)
  ·refine UR I (by omega) (by omega) O ?_;intro w2 ys M U r2 s2;obtain⟨f1,f2⟩:=C ys r2 s2;exact h _ ys M (o1.trans (Ots.of_oth U)) f1 f2
  have hF:∀w' ys,SD w' g n c ys→Ots g w w'→Rng j u z ys→Srt ys j u→K (.tuple #[]) w':=by
   intro w2 ys M U r2 s2;obtain⟨f1,f2⟩:=C ys r2 s2;exact h _ ys M U f1 f2
  have aa:Lg (u-j) g n c:=by
   intro a2 b2 al z2 w2 K2 q1 q2 q3 q4 q5 q6 q7;exact ih (by omega) q2 q3 q4 q5 q6 q7
  have hB:Ol g n c w j u z (fun J w2=>(∃(j u:Nat) (lm:Int) (wb wp:Bool) (z:List Int),gd J 1=.int .i64 (j:Nat)∧gd J 2=.int .i64 (u:Nat)∧gd J 3=.int .i64 lm∧gd J 8=.bool wb∧gd J 9=.bool wp ∧
    a≤j∧j≤u∧u≤b∧SD w2 g n c z∧Ots g w w2∧z.Nodup∧Low j u z∧∀ys,Rng j u z ys→Srt ys j u→Rng a b xs ys∧Srt ys a b)∧(intOf (gd J 2)).toNat-(intOf (gd J 1)).toNat<m):=by
   intro e w2 a2 b2 al ap ar z2 e1 J e3 e8 e9 M U x2
   have:=x2.ha
   have:=x2.hb
   have:=x2.lt
   refine⟨⟨a2,b2,al,ap,ar,z2,e1,J,e3,e8,e9,by omega,x2.le,by omega,M,U,x2.rng.perm.nodup_iff.2 O,x2.low,fun ys r s=>?_⟩,?_⟩
   ·obtain⟨f1,f2⟩:=x2.fin ys r s;exact C ys f1 f2
   ·rw[e1,J,an];simp only[intOf];omega
  refine dB <|ug ?_;cases wb
  ·refine bu <|UG I h2 (by omega) af ?_;intro w2 ys M U r2;refine kO ?_;exact NU rfl rfl rfl rfl rfl rfl rfl M (o1.trans U) r2 (by omega) (by omega) af ad O aa hB hF
  ·refine aO ?_;exact NU rfl rfl rfl rfl rfl rfl rfl I o1 (Rng.refl _ _ _) (by omega) (by omega) af ad O aa hB hF
theorem Uf (C:SD w g n c xs)(j:n<256)(I:xs.Nodup)(h:∀w' ys,SD w' g n c ys→Ots g w w'→ys.Perm xs→Srt ys 0 n→K (.tuple #[]) w'):call Tryz.prog 123 #[.slice (some ⟨g,0,none⟩) n c] K w:=by
 refine aj (goK func123) (qJ ?_);refine Vd <|dS underlying3 underlying196 ?_;rw[gF,show ((n:Nat):Int)%18446744073709551616=(n:Nat)by omega];refine Dy j ?_;intro r hr;refine Vt j (n+1) (a:=0) (by omega) C (by omega) (Nat.le_refl _) I (fun i k h=>by omega) ?_;intro U ys u J M O;exact h U ys u J M.perm O
end
theorem VE {ys:List Int}(M:Srt ys 0 ys.length)(hn:ys.Nodup):ys.Pairwise (· < ·):=by
 rw[List.pairwise_iff_getElem];have u:∀d i (h:i+d+1<ys.length),ys[i]'(by omega)<ys[i+d+1]:=by
  intro d
  induction d with
  | zero =>
   intro i h;have J:=M i (by omega) (by omega);have C:G ys i=ys[i]'(by omega):=by simp[G,List.getD,show i<ys.length by omega]
   have I:G ys (i+1)=ys[i+1]'(by omega):=by simp[G,List.getD,show i+1<ys.length by omega]
   rw[C,I]at J;have aa:ys[i]'(by omega)≠ys[i+1]'(by omega):=(List.pairwise_iff_getElem.1 hn) i (i+1) (by omega) (by omega) (by omega);show ys[i]'(by omega)<ys[i+1]'(by omega);omega
  | succ d ih =>
   intro i h;have J:=ih i (by omega);have O:=M (i+d+1) (by omega) (by omega);have C:G ys (i+d+1)=ys[i+d+1]'(by omega):=by simp[G,List.getD,show i+d+1<ys.length by omega]
   have I:G ys (i+d+1+1)=ys[i+d+1+1]'(by omega):=by simp[G,List.getD,show i+d+1+1<ys.length by omega]
   rw[C,I]at O;show ys[i]'(by omega)<ys[i+d+1+1]'(by omega);omega
 intro i j hi hj U
 have:=u (j-i-1) i (by omega)
 have e:i+(j-i-1)+1=j:=by omega
 simpa[e]using this
section
variable {w:World}{K:KV}{t tp:Nat}{T:List (Int×Int)}
theorem Rx {d:Value}(h:K (.tuple #[]) w):call Tryz.prog 187 #[d,.int .i64 0,.int .i64 0] K w:=by
 refine aj (goK func187) (nE ?_)
 (repeat (first|refine aW (by omega) (by omega) ?_))
 refine mU (Inv:=fun i _ _ _ _ _ _ _ _ _ _ wr=>i=.int .i64 1∧wr=w) (μ:=fun i _ _ _ _ _ _ _ _ _ _ _=>0) ⟨rfl,rfl⟩ ?_;rintro _ _ _ _ _ _ _ _ _ _ _ _ u m ⟨rfl,rfl⟩ j
 (repeat (first|refine aM ?_|refine aO ?_))
 exact h
theorem Ue (h:K (.tuple #[]) w):call Tryz.prog 123 #[.slice none 0 0] K w:=by
 refine aj (goK func123) (qJ ?_);refine Vd <|dS underlying3 underlying196 ?_;rw[gF,show ((0:Nat):Int)%18446744073709551616=(0:Nat)by omega];refine Dy (n:=0) (by omega) ?_;intro r u;refine aj (goK func159) (pf ?_);refine oJ (Inv:=fun a b _ _ _ _ _ _ _ _ _ _ _ _ _ _ _ _ _ wr=>a=.int .i64 0∧b=.int .i64 0∧wr=w) (μ:=fun a b _ _ _ _ _ _ _ _ _ _ _ _ _ _ _ _ _ _=>0) ⟨rfl,rfl,rfl⟩ ?_
 rintro _ _ _ _ _ _ _ _ _ _ _ _ _ _ _ _ _ _ _ _ C m ⟨rfl,rfl,rfl⟩ j
 (repeat (first|refine fU ?_|refine bh (by omega) (by omega) ?_|refine bu ?_))
 refine Rx ?_;exact h
theorem RF {v:Value}(h:K (.bool true) w):call Tryz.prog 89 #[v] K w :=
 aj (goK func89) (Er h)
def IdR (w:World)(B:Nat)(a:Option Addr)(c:Nat)(ids:List Int):Prop:=(ids=[]∧a=none∧c=0)∨∃g rest,a=some ⟨g,0,none⟩∧B≤g∧ids.length≤c∧blk w g 31 (ids.map u6++rest)
theorem NV (ht:TreeM w t tp T)(hn:T.length<256)(h:∀w' a c (ids:List Int),ids.Perm (T.map (·.1))→ids.Pairwise (· < ·)→IdR w' w.heap.size a c ids→Below w.heap.size w w'→K (.slice a ids.length c) w'):call Tryz.prog 51 #[pB t] K w:=by
 obtain⟨M,hM,hp⟩:=ht.mp;have bn:=ht.lt;refine aj (goK func51) (Gz (aj (goK func88) (FH (Jw (aO (ai (wI (lK (v:=.map (some tp)) ht.bt rfl (Fx underlying129 hM ?_)))))))));intro w4 bd b4 s4;have a7:w.heap.size≠tp:=by omega
 have bs:M.length=T.length:=hp.length_eq;refine DX (Inv:=fun l wr=>∃(done:List Int) (a:Option Addr) (c:Nat),l=.slice a done.length c∧IT u6 u6 wr w.heap.size tp M done∧Below w.heap.size w wr∧w4.heap.size≤wr.heap.size ∧
   OV wr w4.heap.size 31 a done.length c (done.map u6))
  (μ:=fun l wr=>lC wr tp w.heap.size) ⟨[],none,0,rfl,bd,b4,Nat.le_refl _,OV.nil _ _ _⟩ ?_
 rintro l _ w5 m ⟨done,a,c,rfl,ar,b5,bW,aa⟩ hm;obtain⟨n1,n2,n3⟩:=ar.nodup;have bk:done.length≤M.length:=by
  have:=pS n1 n3;simpa using this
 refine Fl ar a7 ?_ ?_
 ·intro af;have C:done.Perm (T.map (·.1)):=((List.perm_ext_iff_of_nodup n1 n2).2 fun x=>⟨n3 x,af x⟩).trans (hp.map _);refine sv rfl (aO (DY ?_));rcases aa.2 with⟨hv,hz⟩|⟨g,cap,az,hv,hg,hh,a4,bi,an,ap⟩
  ·simp only[Value.slice.injEq]at hv;obtain⟨rfl,b9,rfl⟩:=hv;have a0:done=[]:=List.eq_nil_of_length_eq_zero hz;subst a0;refine Ue ?_;exact h w5 none 0 [] C List.Pairwise.nil (.inl ⟨rfl,rfl,rfl⟩) b5
  simp only[Value.slice.injEq]at hv;obtain⟨rfl,_,rfl⟩:=hv;have a9:SD w5 g done.length c done:=by
   refine⟨az.toList.drop done.length,?_,rfl,a4,by omega⟩;rw[Nat.mul_one]at ap;rw[show done.map uv=done.map u6 from rfl, ←ap,List.take_append_drop];exact hh
  refine Uf a9 (by omega) n1 ?_;intro w6 ys a2 o6 ad am;have I:Below w.heap.size w w6:=b5.trans (o6.below (by omega) (by omega));have bb:ys.length=done.length:=ad.length_eq;have ba:IdR w6 w.heap.size (some ⟨g,0,none⟩) c ys:=by
   obtain⟨rest,k1,k2,k3,k4⟩:=a2;exact .inr ⟨g,rest,rfl,by omega,by omega,k1⟩
  rw[←bb]at am ⊢;exact h w6 _ c ys (ad.trans C) (VE am (ad.nodup_iff.2 n1)) ba I
 ·intro x v w6 b3 b0 av aE o6 a3;have I:Below w.heap.size w w6:=bv b5 o6 (Nat.le_refl _);have s6:=o6.size;have ag:OV w6 w4.heap.size 31 a done.length c (done.map u6):=cJ aa fun k U=>o6.other k (by have:=(OV.block aa k U).1;omega);refine sv rfl (bu (Iu aE (cZ (fM rfl (RF (bu ?_))))))
  refine mY (vs:=[u6 x]) underlying120 (s:=1) (by kernel_rfl) (by kernel_rfl) (by omega) rfl (by simp) (by simp) (by simp) (by simp[u6,Value.cells]) fun w7 O J s7=>?_;have O:blk w7 w6.heap.size 31 [u6 x]:=by simpa[Value.cells,u6]using O
  have al:OV w7 w4.heap.size 31 a done.length c (done.map u6):=cJ ag fun k U=>J.block k (OV.block ag k U).2;obtain⟨i,hi,hz,an,aS⟩:=info_parts (show (Tryz.prog.info? 31).map (fun i=>(i.zero,i.size,i.bytes))=some (some (u6 0),1,8)by kernel_rfl)
  refine FK (base:=w4.heap.size) (s:=1) (ys:=[u6 x]) underlying120 hi hz an aS rfl (by omega) al O rfl rfl (by simp[u6,Value.oneCell']) (by omega) (by omega) (by omega) ?_;intro a' c' w8 a8 u;have j:∀k,k<w6.heap.size→(∀q,(Value.slice a done.length c).ownBlock=some q→q≠k)→w8.heap[k]? = w6.heap[k]? := by
   intro k U hq;rw[u.block k (by omega) (fun e=>hq k e.symm rfl),J.block k U]
  have hq:∀q,(Value.slice a done.length c).ownBlock=some q→w4.heap.size≤q:=fun q e=>(OV.block al q e).1;have bg:=av.lt;have be:IT u6 u6 w8 w.heap.size tp M (done++[x]):=av.kept (j _ (by omega) fun q e=>by have:=hq q e;omega) (j _ (by omega) fun q e=>by have:=hq q e;omega)
  have b8:Below w.heap.size w w8:=⟨u.os.trans (J.os.trans I.os),u.tape.trans (J.tape.trans I.tape),u.output.trans (J.output.trans I.output),by have:=u.size;have:=J.size;have:=I.size;omega,fun k U=>by
   have:=I.size
   rw[j k (by omega) fun q e=>by have:=hq q e;omega,I.block k U]⟩
  refine⟨⟨done++[x],a',c',by simp,be,b8,by have:=u.size;have:=J.size;omega,?_⟩,?_⟩
  ·rw[List.map_append,List.length_append];exact a8
  ·rw[hm]
   have:lC w8 tp w.heap.size=lC w6 tp w.heap.size:=tw (j _ (by omega) fun q e=>by have:=hq q e;omega) (j _ (by omega) fun q e=>by have:=hq q e;omega)
   omega
end
section
variable {w:World}{K:KV}{B c:Nat}{a:Option Addr}{ids:List Int}{x:Int}
theorem IdR.at (h:IdR w B a c ids)(hi:i<ids.length)(u:K (u6 ids[i]) w):aV Tryz.prog 120 (.slice a ids.length c) (.int .i64 (i:Nat)) (fun p=>ld Tryz.prog 31 p K) w:=by
 rcases h with⟨rfl,_⟩|⟨g,rest,rfl,I,C,j⟩
 ·simp at hi
 refine dJ underlying120 (s:=1) (fun _=>by kernel_rfl) (by omega) (by omega) ?_;rw[Int.toNat_natCast,Nat.mul_one,Nat.zero_add];refine lK (v:=u6 ids[i]) j ?_ u;rw[List.getElem?_append_left (by simpa using hi),List.getElem?_map,List.getElem?_eq_getElem hi];rfl
theorem IdR.kept (h:IdR w B a c ids)(J:∀k o,B≤k→w.heap[k]? = some o→w'.heap[k]? = w.heap[k]?):IdR w' B a c ids:=by
 rcases h with h|⟨g,rest,C,j,I,u⟩
 ·exact .inl h
 ·exact .inr ⟨g,rest,C,j,I,by have:=J g _ j u;unfold blk at *; rw[this];exact u⟩
theorem IdR.below (h:IdR w B a c ids)(j:Below w.heap.size w w'):IdR w' B a c ids :=
 h.kept fun k o _ u=>j.block k (Array.getElem?_eq_some_iff.1 u).1
theorem IdR.own (h:w.ownsRow B 31 1 (.slice a n c) n (ids.map u6))(hl:ids.length=n):IdR w B a c ids:=by
 rcases h.2 with⟨j,hz⟩|⟨g,cap,C,j,M,O,U,J,aa,u⟩
 ·simp only[Value.slice.injEq]at j;exact .inl ⟨List.eq_nil_of_length_eq_zero (by omega),j.1,j.2.2⟩
 ·simp only[Value.slice.injEq]at j;obtain⟨I,_,e2⟩:=j;refine .inr ⟨g,C.toList.drop n,I,M,by omega,?_⟩;rw[Nat.mul_one]at u;rw[←u,List.take_append_drop];exact O
theorem Fj (h:IdR w B a c ids)(hl:ids.length<1000000)(M:∀i:Int,(0≤i↔x∈ids)→K (.int .i64 i) w):call Tryz.prog 264 #[.slice a ids.length c,u6 x] K w:=by
 refine aj (goK func264) (wg (bj underlying120 ?_));refine vi (Inv:=fun i wr=>∃k:Nat,i=iv (k:Nat)∧wr=w∧k≤ids.length∧∀j (I:j<ids.length),j<k→ids[j]≠x) (μ:=fun i _=>ids.length-(intOf i).toNat) ⟨0,rfl,rfl,Nat.zero_le _,fun j _ I=>by omega⟩ ?_;rintro _ dd _ m ⟨k,rfl,rfl,U,u⟩ hm;refine aM ?_;by_cases C:k<ids.length
 ·refine ax (by omega) (h.at C (cA ?_));by_cases J:x=ids[k]
  ·exact ax J (M _ ⟨fun _=>J ▸ List.getElem_mem C,fun _=>by omega⟩)
  ·refine aq J (aW (by omega) (by omega) ?_);refine⟨⟨k+1,ivS,rfl,C,fun j I O=>?_⟩,by rw[hm];show ids.length-((k:Int)+1).toNat<ids.length-(k:Int).toNat;omega⟩;by_cases e:j=k
   ·subst e;exact fun e=>J e.symm
   ·exact u j I (by omega)
 ·refine aq (by omega) (vj (M _ ⟨fun h0=>by omega,fun hx=>?_⟩));obtain⟨j,I,e⟩:=List.getElem_of_mem hx;exact absurd e (u j I (by omega))
theorem Ng (h:IdR w B a c ids)(u:ids.length<1000000)(j:K (.bool (decide (x∈ids))) w):call Tryz.prog 253 #[.slice a ids.length c,u6 x] K w:=by
 refine aj (goK func253) (uW (Fj h u fun i hi=>bM ?_));rw[show decide (i≥0)=decide (x∈ids)from decide_eq_decide.2 hi];exact j
theorem TJ (h:∀w',blk w' w.heap.size 120 [.slice a ids.length c]→Below w.heap.size w w'→w'.heap.size=w.heap.size+1→K (.func (.func 263) #[] #[pB w.heap.size]) w'):call Tryz.prog 252 #[.slice a ids.length c] K w:=by
 refine aj (goK func252) (uV (cv fun C j b1 u=>?_));exact h C (by simpa[Value.cells]using j) b1 u
theorem TL {Y:YB}{l:Nat}(hY:xe Y)(hl:ids.length<1000000)(Inv:Nat→World→Prop)(h:World→Prop)(h0:Inv 0 w)(O:∀j w,Inv j w→blk w b 120 [.slice a ids.length c]∧IdR w B a c ids)(hy:∀j k x w K,k+j+1=ids.length→ids[k]? = some x→Inv j w→(∀w',Inv (j+1) w'→K (.bool true) w')→(∀w',h w'→K (.bool false) w')→Y [iv (k:Nat),u6 x] K w)(he:∀w',Inv ids.length w'→K (.tuple #[]) w')(hs:∀w',h w'→K (.tuple #[]) w'):yc Tryz.prog Y l 263 [.func (.yield l) #[] #[],pB b] w K:=by
 refine tU (lK (v:=.slice a ids.length c) (O 0 w h0).1 rfl (bj underlying120 (bh (by omega) (by omega) ?_)));refine sU hY (Inv:=fun i wr=>∃j:Nat,i=.int .i64 ((ids.length:Int)-1-(j:Nat))∧j≤ids.length∧Inv j wr) (μ:=fun i _=>(intOf i+1).toNat) ⟨0,by simp,Nat.zero_le _,h0⟩ ?_;rintro _ dd I m ⟨j,rfl,hj,hI⟩ C;refine bM ?_;by_cases M:j<ids.length
 ·obtain⟨k,hk⟩:∃k:Nat,k+j+1=ids.length:=⟨ids.length-j-1,by omega⟩
  have ek:(ids.length:Int)-1-(j:Nat)=(k:Nat):=by omega
  rw[ek]at C ⊢;have u:k<ids.length:=by omega
  refine ax (by omega) (lK (v:=.slice a ids.length c) (O j I hI).1 rfl ((O j I hI).2.at u ?_));refine .inl ⟨rfl,hy j k ids[k] I _ hk (List.getElem?_eq_getElem u) hI (fun w' J => dB (aO (bh (by omega) (by omega) ?_))) (fun w' U => dB (bu (hs w' U)))⟩;refine⟨⟨j+1,congrArg (Value.int .i64) (by push_cast;omega),M,J⟩,by rw[C];show ((k:Int)-1+1).toNat<((k:Int)+1).toNat;omega⟩
 ·have e:j=ids.length:=by omega
  subst e;exact aq (by omega) (he I hI)
end
theorem Gj {V:List Int}(h:V.length=6):jD Tryz.prog 3 35 (vCs V)=true:=by
 obtain⟨_,_,_,_,_,_,rfl⟩:=MJ h
 kernel_rfl
theorem Up {A B:List Int}(hA:A.length=6)(hB:B.length=6)(hb:blk w b 35 (vCs A++vCs B))(h:∀w',Below w.heap.size w w'→K (.agg (vCs (jV A B)).toArray) w'):call Tryz.prog 112 #[.slice (some ⟨b,0,none⟩) 2 2,.func (.func 113) #[] #[]] K w:=by
 have lA:=bQ (V:=A);have lB:=bQ (V:=B);refine aj (goK func112) (Kh ?_);refine cv fun w1 hc b1 s1=>?_;have hc:blk w1 w.heap.size 213 [.func (.func 113) #[] #[]]:=by simpa[Value.cells]using hc
 have C:=ac b1 hb hb.lt;refine AN fun w2 ht b2 s2=>?_;have u:=ac b2 C C.lt;have I:=ac b2 hc hc.lt;refine bj underlying211 (cA (aq (by decide) ?_))
 refine dJ underlying211 (s:=6) (fun _=>by kernel_rfl) (by decide) (by decide) <|ldA (n:=6) (vs:=vCs A) underlying35 rfl (by kernel_rfl) u (by show ((vCs A++vCs B).drop 0).take 6=_;rw[List.drop_zero,List.take_append_of_le_length (by omega),List.take_of_length_le (by omega)]) (by omega) ?_;refine AN fun w3 ho b3 s3=>?_;have ap:=ac b3 ht ht.lt;refine yb rfl hA ho fun w4 U o4=>?_
 have g4:Below w.heap.size w w4:=bv ((b1.trans (b2.mono (by omega))).trans (b3.mono (by omega))) o4 (by omega);have am:=o4.blk (ac b3 u u.lt) (by have:=hb.lt;omega);have J:=o4.blk (ac b3 I I.lt) (by omega);have aa:=o4.blk ap (by omega);have s4:=o4.size
 refine OX (q:=1) (s:=6) underlying211 (fun _=>by kernel_rfl) (by omega) (by omega) <|bj underlying211 <|Ib (Inv:=fun i wr=>(i=ci 0∧wr=w4)∨(i=ci 1∧Below w.heap.size w wr∧blk wr w2.heap.size 35 (vCs (jV A B))∧blk wr w1.heap.size 35 (vCs [0,0,0,0,0,0]))) (μ:=fun i _=>6-(intOf i).toNat) (.inl ⟨rfl,rfl⟩) ?_;rintro _ dd w5 m hI hm;rcases hI with⟨rfl,rfl⟩|⟨rfl,g5,an,ar⟩
 ·refine aM (ax (by decide) ?_);refine dJ underlying211 (s:=6) (fun _=>by kernel_rfl) (by decide) (by decide) <|ldA (n:=6) (vs:=vCs B) underlying35 rfl (by kernel_rfl) am (by show ((vCs A++vCs B).drop 6).take 6=_;rw[List.drop_append_of_le_length (by omega),List.drop_of_length_le (by omega),List.nil_append,List.take_of_length_le (by omega)]) (by omega) ?_;refine AN fun w6 hv b6 s6=>?_
  refine yb rfl hB hv fun w7 af o7=>?_;have j:=o7.blk (ac b6 U U.lt) (by omega);have M:=o7.blk (ac b6 J J.lt) (by omega);have ad:=o7.blk (ac b6 aa aa.lt) (by omega);have g7:Below w.heap.size w w7:=bv (g4.trans (b6.mono (by omega))) o7 (by omega);have s7:=o7.size
  refine Og (G:=jV A B) oQ (fun k hk w8 b8 K' al => fM rfl (Tk hA hB hk (ac b8 M M.lt) (ac b8 j j.lt) (ac b8 af af.lt) (al _ ⟨rfl,rfl,rfl,Nat.le_refl _,fun _ _=>rfl⟩))) fun w9 b9=>?_;refine yb hA oQ (ac b9 j j.lt) fun az O ag=>aW (by decide) (by decide) ?_
  have:=b9.size
  refine⟨.inr ⟨rfl,bv (g7.trans (b9.mono (by omega))) ag (by omega),O,ag.blk (ac b9 ad ad.lt) (by omega)⟩,by rw[hm];decide⟩
 ·refine aM (aq (by decide) (Ic ?_));refine pe oQ an (yb rfl oQ ar fun w6 av o6=>?_);exact vD (v:=.agg (vCs (jV A B)).toArray) (fun _=>pe oQ av) (h _ (bv g5 o6 (by omega)))
theorem Oh {A B:List Int}(I:A.length=6)(J:B.length=6)(u:blk w b 35 (vCs A++vCs B))(h:∀w',Below w.heap.size w w'→K (.agg (vCs (jV A B)).toArray) w'):call Tryz.prog 77 #[.slice (some ⟨b,0,none⟩) 2 2] K w:=by
 refine aj (goK func77) (Kd ?_);refine AN fun U C b1 O=>?_;refine Up I J (ac b1 u u.lt) fun w2 b2=>?_;refine yb rfl oQ (ac b2 C C.lt) fun w3 j M=>?_;exact vD (v:=.agg (vCs (jV A B)).toArray) (fun _=>pe oQ j) (h _ (bv (b1.trans (b2.mono (by omega))) M (by omega)))
theorem Oi {A B:List Int}(M:A.length=6)(j:B.length=6)(h:∀w',Below w.heap.size w w'→K (.bool (leV A B)) w'):call Tryz.prog 69 #[.agg (vCs A).toArray,.agg (vCs B).toArray] K w:=by
 refine aj (goK func69) (Ke ?_);refine uA M fun w1 h1 b1 s1=>uA j fun w2 h2 b2 s2=>?_;have u:=ac b2 h1 h1.lt;refine aw (fun x=>blk x w.heap.size 35 (vCs A)∧blk x w1.heap.size 35 (vCs B)) ⟨u.drew,h2.drew⟩ <|ab (fun x O _=>pe M O.1) <|ab (fun x O _=>pe j O.2) <|ab (fun x O _=>pe j O.2) ?_
 refine mY [.agg (vCs A).toArray,.agg (vCs B).toArray] underlying211 (s:=6) (by kernel_rfl) (by kernel_rfl) (by omega) rfl (by simp) (by decide) rfl (by
  intro v hv;simp only[List.mem_cons,List.not_mem_nil,or_false]at hv;rcases hv with rfl|rfl
  ·have:=congrArg List.length (oD M);rw[bQ,M]at this;simpa using this
  ·have:=congrArg List.length (oD j);rw[bQ,j]at this;simpa using this) fun w3 h3 U s3=>?_
 have h3:blk w3 w2.drew.heap.size 35 (vCs A++vCs B):=by
  have e:([Value.agg (vCs A).toArray,.agg (vCs B).toArray].flatMap fun v=>v.cells.toList)=vCs A++vCs B:=by
   simp only[List.flatMap_cons,List.flatMap_nil,List.append_nil,oD M,oD j]
  rwa[e]at h3
 have I:=ac U u u.lt;have C:=ac U h2 h2.lt;refine bR ⟨I,C⟩ ?_;refine Oh M j h3 fun w4 b4=>?_;refine bR ⟨ac b4 I I.lt,ac b4 C C.lt⟩ ?_;refine ab (v:=.bool (leV A B)) (fun x O K J=>Cf 3 (by omega) (by kernel_rfl) (by kernel_rfl) (Gj oQ) (Gj j) fun r hr=>by
  have:r=leV A B:=by rw[Uo,VY j]at hr;exact Bool.eq_iff_iff.2 hr
  rw[this];exact J) ?_
 have g2:Below w.heap.size w w2.drew:=(b1.trans (b2.mono (by omega))).drew;have aa:=g2.size;have g3:=g2.trans (U.mono aa);exact h _ (g3.trans (b4.mono g3.size))
theorem EV.V_len {e:EV}:e.V.length=6:=rfl
theorem Th {e:EV}(j:blk w b 54 (evC e))(h:K (.agg (vCs e.V).toArray) w):ld Tryz.prog 35 (.pointer (some ⟨b,2,none⟩)) K w :=
 ldA (n:=6) (vs:=vCs e.V) underlying35 rfl (by kernel_rfl) j rfl rfl h
theorem xj {e:EV}(h:∀w',blk w' w.heap.size 54 (evC e)→Below w.heap.size w w'→w'.heap.size=w.heap.size+1→K (.pointer (some ⟨w.heap.size,0,none⟩)) w'):box Tryz.prog 54 (.agg (evC e).toArray) K w :=
 cv fun w' j b s=>h w' (by simpa[Value.cells]using j) b s
theorem gB {e:EV}(j:blk w b 54 (evC e))(h:K (.agg (evC e).toArray) w):ld Tryz.prog 54 (.pointer (some ⟨b,0,none⟩)) K w :=
 ldA (n:=14) (vs:=evC e) underlying54 rfl (by kernel_rfl) j rfl rfl h
theorem Gb {V:List Int}{e:EV}(O:V.length=6)(h:∀w',Below w.heap.size w w'→K (.bool (nH V e)) w'):call Tryz.prog 97 #[.agg (vCs V).toArray,.agg (evC e).toArray] K w:=by
 refine aj (goK func97) (KR ?_);refine uA O fun w1 h1 b1 s1=>xj fun w2 M b2 s2=>?_;have j:=ac b2 h1 h1.lt;refine gB M (CH fun w3 C=>?_);have J:=ac C j j.lt;have u:=ac C M M.lt;have I:=(b1.trans (b2.mono (by omega))).trans (C.mono (by omega));cases U:dK e with
 | false =>
  refine mE (dA ?_)
  have:=h _ I
  unfold nH at this;rwa[U,Bool.false_and]at this
 | true =>
  refine kS (pe O J (bD (lK (v:=iv e.o) u rfl (iZ (lK (v:=u6 e.s) u rfl (VH O fun w4 b4=>bX ?_))))))
  have:=h _ (I.trans (b4.mono I.size))
  obtain⟨o1,o6,s1,s2⟩:=gC U;unfold nH at this;rw[U,Bool.true_and]at this;have hr:bK e.o=true:=by unfold bK;simp;omega
  show K (Value.bool (bK e.o&&(decide (e.s>0)&&decide (V.getD (e.o-1).toNat 0≥e.s)))) w4;rwa[hr,Bool.true_and,show decide (e.s>0)=true from decide_eq_true (by omega),Bool.true_and]
theorem HF {V:List Int}{e:EV}(O:V.length=6)(hv:∀k,k<6→0≤V.getD k 0)(h:∀w',Below w.heap.size w w'→K (.bool (ey V e)) w'):call Tryz.prog 98 #[.agg (vCs V).toArray,.agg (evC e).toArray] K w:=by
 refine aj (goK func98) (JI ?_);refine uA O fun w1 C b1 s1=>xj fun w2 J b2 s2=>?_;have I:=(ac b2 C C.lt).drew;have J:=J.drew;have g2:Below w.heap.size w w2.drew:=(b1.trans (b2.mono (by omega))).drew;refine aw (fun x=>blk x w1.heap.size 54 (evC e)) J <|ab (fun x u _=>gB u) ?_;refine CH fun w3 U=>?_;have aa:=ac U I I.lt;have ad:=ac U J J.lt;have M:=g2.trans (U.mono g2.size)
 refine aw (fun x=>blk x w.heap.size 35 (vCs V)∧blk x w1.heap.size 54 (evC e)) ⟨aa,ad⟩ ?_;have nt:asB (.bool false)≠some true:=by simp[asB]
 cases hm:dK e with
 | false =>
  have:=h _ M
  unfold ey at this;rw[hm,Bool.false_and]at this
  iterate 9 refine oN nt ?_
  refine ab (fun x u _=>dA) ?_
  iterate 3 refine oN nt ?_
  refine xGn nt ?_;exact aw (fun _=>True) trivial (ab (fun x u _=>dA) this)
 | true =>
  obtain⟨o1,o6,af,ag⟩:=gC hm;obtain⟨k,hk⟩:∃k:Nat,k=(e.o-1).toNat:=⟨_,rfl⟩
  have e2:ey V e=(decide (V.getD k 0=e.s-1)&&leV e.V V):=by
   unfold ey leV;rw[hm,Bool.true_and, ←hk]
   congr 1
   exact decide_eq_decide.2 (by omega)
  refine gE rfl (fun x u _=>bD) <|gE rfl (fun x u _=>lK (v:=iv e.o) u.2 rfl) <|gE (x:=iv (k:Nat)) rfl (fun x u K j=>kO (by rw[eK (by omega) (by omega),show (e.o-1)=(k:Nat)by omega];exact j)) <|gE rfl (fun x u _=>ixV rfl (by omega)) <|gE (x:=u6 (V.getD k 0)) rfl (fun x u _=>lK u.1 (by rw[Nat.zero_add];exact xc O (by omega))) <|gE rfl (fun x u _=>iZ) <|gE rfl (fun x u _=>lK (v:=u6 e.s) u.2 rfl) <|gE (x:=u6 (e.s-1)) rfl (fun x u K j=>kO (by rw[gF,show (e.s-1)%18446744073709551616=e.s-1 by omega];exact j)) <|gE rfl (fun x u _=>cA) <|ab (fun x u _=>bX) ?_
  by_cases C:V.getD k 0=e.s-1
  ·refine gE (FL C) (fun x u _=>qR) <|gE (FL C) (fun x u _=>Th u.2) <|gE (FL C) (fun x u _=>pe O u.1) ?_;refine Ce (FL C) (Oi EV.V_len O fun w4 b4=>?_)
   have:=h _ (M.trans (b4.mono M.size))
   rw[e2,decide_eq_true C,Bool.true_and]at this;exact aw (fun _=>True) trivial (ab (fun x u _=>bO C) this)
  ·have:=h _ M
   rw[e2,decide_eq_false C,Bool.false_and]at this
   iterate 3 refine oN (KZ C) ?_
   refine xGn (KZ C) ?_;exact aw (fun _=>True) trivial (ab (fun x u _=>bw C) this)
end
section
attribute [local irreducible] bin un conv call bY blt slc aT fld aV idx lkp dO gY eSt rng nxt ent ext alc box bld bT ld sto aU dE mkS ifc pick rdy wts aI sti cond bp Gives ae fh fT cOp
open Go.RowKit Go.ChangeMaps
structure LB where
 p:Nat
 t:Nat
 tp:Nat
 pm:Nat
 rm:Nat
 gm:Nat
 am:Nat
def LB.wv (q:LB):List Nat:=[q.p,q.tp,q.pm,q.rm,q.gm,q.am]
def LB.l (q:LB):List Nat:=[q.p,q.t,q.tp,q.pm,q.rm,q.gm,q.am,0]
theorem LB.wl {q:LB}:∀k∈q.wv,k∈q.l:=by
 intro k h;simp only[LB.wv,LB.l,List.mem_cons,List.not_mem_nil,or_false]at h ⊢;omega
section
variable {q:LB}
theorem LN.pt (h:q.l.Nodup):q.p≠q.t:=fun e=>by simp[LB.l,e]at h
theorem LN.pd (h:q.l.Nodup):q.p≠q.tp:=fun e=>by simp[LB.l,e]at h
theorem LN.pm (h:q.l.Nodup):q.p≠q.pm:=fun e=>by simp[LB.l,e]at h
theorem LN.pr (h:q.l.Nodup):q.p≠q.rm:=fun e=>by simp[LB.l,e]at h
theorem LN.pg (h:q.l.Nodup):q.p≠q.gm:=fun e=>by simp[LB.l,e]at h
theorem LN.pa (h:q.l.Nodup):q.p≠q.am:=fun e=>by simp[LB.l,e]at h
theorem LN.pz (h:q.l.Nodup):q.p≠0:=fun e=>by simp[LB.l,e]at h
theorem LN.tm (h:q.l.Nodup):q.t≠q.pm:=fun e=>by simp[LB.l,e]at h
theorem LN.tr (h:q.l.Nodup):q.t≠q.rm:=fun e=>by simp[LB.l,e]at h
theorem LN.tg (h:q.l.Nodup):q.t≠q.gm:=fun e=>by simp[LB.l,e]at h
theorem LN.ta (h:q.l.Nodup):q.t≠q.am:=fun e=>by simp[LB.l,e]at h
theorem LN.dm (h:q.l.Nodup):q.tp≠q.pm:=fun e=>by simp[LB.l,e]at h
theorem LN.dr (h:q.l.Nodup):q.tp≠q.rm:=fun e=>by simp[LB.l,e]at h
theorem LN.dg (h:q.l.Nodup):q.tp≠q.gm:=fun e=>by simp[LB.l,e]at h
theorem LN.da (h:q.l.Nodup):q.tp≠q.am:=fun e=>by simp[LB.l,e]at h
theorem LN.dz (h:q.l.Nodup):q.tp≠0:=fun e=>by simp[LB.l,e]at h
theorem LN.mr (h:q.l.Nodup):q.pm≠q.rm:=fun e=>by simp[LB.l,e]at h
theorem LN.mg (h:q.l.Nodup):q.pm≠q.gm:=fun e=>by simp[LB.l,e]at h
theorem LN.ma (h:q.l.Nodup):q.pm≠q.am:=fun e=>by simp[LB.l,e]at h
theorem LN.mz (h:q.l.Nodup):q.pm≠0:=fun e=>by simp[LB.l,e]at h
theorem LN.rg (h:q.l.Nodup):q.rm≠q.gm:=fun e=>by simp[LB.l,e]at h
theorem LN.ra (h:q.l.Nodup):q.rm≠q.am:=fun e=>by simp[LB.l,e]at h
theorem LN.rz (h:q.l.Nodup):q.rm≠0:=fun e=>by simp[LB.l,e]at h
theorem LN.ga (h:q.l.Nodup):q.gm≠q.am:=fun e=>by simp[LB.l,e]at h
theorem LN.gz (h:q.l.Nodup):q.gm≠0:=fun e=>by simp[LB.l,e]at h
theorem LN.az (h:q.l.Nodup):q.am≠0:=fun e=>by simp[LB.l,e]at h
theorem LN.tp (h:q.l.Nodup):q.t≠q.p:=(LN.pt h).symm
theorem LN.dp (h:q.l.Nodup):q.tp≠q.p:=(LN.pd h).symm
theorem LN.mp (h:q.l.Nodup):q.pm≠q.p:=(LN.pm h).symm
theorem LN.md (h:q.l.Nodup):q.pm≠q.tp:=(LN.dm h).symm
theorem LN.rp (h:q.l.Nodup):q.rm≠q.p:=(LN.pr h).symm
theorem LN.rd (h:q.l.Nodup):q.rm≠q.tp:=(LN.dr h).symm
theorem LN.rm (h:q.l.Nodup):q.rm≠q.pm:=(LN.mr h).symm
theorem LN.gp (h:q.l.Nodup):q.gm≠q.p:=(LN.pg h).symm
theorem LN.gd (h:q.l.Nodup):q.gm≠q.tp:=(LN.dg h).symm
theorem LN.gm (h:q.l.Nodup):q.gm≠q.pm:=(LN.mg h).symm
theorem LN.gr (h:q.l.Nodup):q.gm≠q.rm:=(LN.rg h).symm
theorem LN.ap (h:q.l.Nodup):q.am≠q.p:=(LN.pa h).symm
theorem LN.ad (h:q.l.Nodup):q.am≠q.tp:=(LN.da h).symm
theorem LN.am (h:q.l.Nodup):q.am≠q.pm:=(LN.ma h).symm
theorem LN.ar (h:q.l.Nodup):q.am≠q.rm:=(LN.ra h).symm
theorem LN.ag (h:q.l.Nodup):q.am≠q.gm:=(LN.ga h).symm
theorem LN.zp (h:q.l.Nodup):0≠q.p:=(LN.pz h).symm
theorem LN.zd (h:q.l.Nodup):0≠q.tp:=(LN.dz h).symm
theorem LN.zm (h:q.l.Nodup):0≠q.pm:=(LN.mz h).symm
theorem LN.zr (h:q.l.Nodup):0≠q.rm:=(LN.rz h).symm
theorem LN.zg (h:q.l.Nodup):0≠q.gm:=(LN.gz h).symm
theorem LN.za (h:q.l.Nodup):0≠q.am:=(LN.az h).symm
end
def kindsV :List Value:=[.nilFunc,.func (.func 229) #[] #[],.func (.func 230) #[] #[],.func (.func 231) #[] #[],.func (.func 232) #[] #[],.func (.func 233) #[] #[],.func (.func 234) #[] #[],.func (.func 235) #[] #[]]
def KD (w:World):Prop:=∃E fr,w.heap[0]? = some (.cells kindsV.toArray E fr)
theorem KD.lt (h:KD w):0<w.heap.size:=by obtain⟨E,j,h⟩:=h;exact(Array.getElem?_eq_some_iff.1 h).1
theorem KD.keep (h:KD w)(u:w'.heap[0]? = w.heap[0]?):KD w':=by obtain⟨E,j,h⟩:=h;exact⟨E,j,u.trans h⟩
theorem KD.below (h:KD w)(j:Below w.heap.size w w'):KD w':=h.keep (j.block 0 h.lt)
def DL (N:List ND):List Int:=(List.range 6).map fun k=>((gP N ((k:Nat)+1):Nat):Int)
def plC (q:LB)(s:PL):List Value:=s.I.map .bool++(s.L.map .bool++(vCs s.V++([pB q.t,.map (some q.pm),.map (some q.rm)]++((DL s.N).map iv++[.map (some q.gm),.map (some q.am)]))))
def rqV (x:Int×Int):Value:=.agg #[.int .i64 x.1,.int .u64 x.2]
def rgV (A:List Int):Value:=.agg (A.map iv).toArray
def grV (g:GR):Value:=.agg (grC g).toArray
def rgL (N:List ND):List (Int×List Int):=N.map fun x=>(x.id,x.A)
def grL (G:List GR):List ((Int×Int)×GR):=G.map fun g=>((g.o,g.q),g)
theorem rqK :zH Tryz.prog 151 rqV:=by
 refine Lj _ underlying151 (fun x=>⟨_,rfl⟩) (fun x y h=>?_) (fun w M x=>by kernel_rfl) (fun w x y=>⟨decide (x=y),?_,?_⟩) (fun x=>?_)
 ·simp only[rqV,Value.agg.injEq]at h;simp at h;exact Prod.ext h.1 h.2
 ·have C:Tryz.prog.underlying 151=some (.struct (Tryz.prog.fieldsOf 151)):=by kernel_rfl
  have I:Tryz.prog.stoodInHeld 151=false:=by kernel_rfl
  have O:=underlying3;have U:=underlying31;have a1:=Tryz.isAgg3;have J:=Tryz.isAgg31;have z1:=Tryz.sizeOf3;have z2:=Tryz.sizeOf31;simp only[rqV];show (Op.equalIn (9999+1) _ _ _).run _ w=_;rw[run_equalIn_agg w 9999 151 _ _ C I];simp only[Program.fieldsOf,underlying151]
  go_simp
  by_cases j:x.1=y.1<;>by_cases u:x.2=y.2<;>simp[j,u,Prod.ext_iff]
 ·simp[rqV];constructor
  ·rintro rfl;exact⟨rfl,rfl⟩
  ·rintro⟨j,u⟩;exact Prod.ext j u
 ·unfold Instr.sameBits;simp[rqV];constructor<;>(unfold Instr.sameBits;simp)
structure PM (w:World) (q:LB) (s:PL):Prop where
 i6:s.I.length=6
 l6:s.L.length=6
 v6:s.V.length=6
 b:blk w q.p 135 (plC q s)
 tm:TreeM w q.t q.tp (tr s.N)
 pm:∃m,MB u6 u6 w q.pm m∧m.Perm (tr s.N)
 rm:∃m,MB u6 rgV w q.rm m∧m.Perm (rgL s.N)
 gm:∃m,MB rqV grV w q.gm m∧m.Perm (grL s.G)
 am:∃m,MB rqV Value.bool w q.am m∧∀o r,1≤o→o≤6→dP m (o,r)=if jB s.R (o-1).toNat r=true then some true else none
 nd:q.l.Nodup
 kd:KD w
section
variable {w w':World}{q:LB}{s:PL}
theorem PM.keep (h:PM w q s)(j:∀k∈q.l,k<w.heap.size→w'.heap[k]? = w.heap[k]?):PM w' q s:=by
 have u:∀{k:Nat} {E:TypeId} {cs:List Value},k∈q.l→blk w k E cs→blk w' k E cs:=fun {k E cs} hm u=>by
  have:=j k hm u.lt
  unfold blk at *; rw[this];exact u
 obtain⟨i6,l6,v6,b,C,⟨m1,M,e1⟩,⟨m2,O,e2⟩,⟨m3,U,e3⟩,⟨m4,p4,e4⟩,nd,I⟩:=h;obtain⟨m0,J,e0⟩:=C.mp
 exact⟨i6,l6,v6,u (by simp[LB.l]) b,⟨u (by simp[LB.l]) C.bt,⟨m0,J.kept (j _ (by simp[LB.l]) J.lt),e0⟩,C.uq⟩,⟨m1,M.kept (j _ (by simp[LB.l]) M.lt),e1⟩,⟨m2,O.kept (j _ (by simp[LB.l]) O.lt),e2⟩,⟨m3,U.kept (j _ (by simp[LB.l]) U.lt),e3⟩,⟨m4,p4.kept (j _ (by simp[LB.l]) p4.lt),e4⟩,nd,I.keep (j _ (by simp[LB.l]) I.lt)⟩
theorem PM.below (h:PM w q s)(j:Below w.heap.size w w'):PM w' q s:=h.keep fun k _ u=>j.block k u
theorem PM.ch (h:PM w q s)(j:Ch F w w')(hF:∀k∈q.l,k∉F):PM w' q s:=h.keep fun k u C=>j.block k C (hF k u)
theorem PM.drew (h:PM w q s):PM w.drew q s:=h.below (Below.refl _ w).drew
theorem PM.lt (h:PM w q s):∀k∈q.l,k<w.heap.size:=by
 obtain⟨i6,l6,v6,b,u,⟨m1,I,U⟩,⟨m2,J,e2⟩,⟨m3,M,e3⟩,⟨m4,O,e4⟩,nd,C⟩:=h;intro k j;simp only[LB.l,List.mem_cons,List.not_mem_nil,or_false]at j;rcases j with rfl|rfl|rfl|rfl|rfl|rfl|rfl|rfl
 ·exact b.lt
 ·exact u.lt.1
 ·exact u.lt.2
 ·exact I.lt
 ·exact J.lt
 ·exact M.lt
 ·exact O.lt
 ·exact C.lt
/-! ## Its cells -/
theorem iP {A B:List Value}(h:A.length=n)(k:Nat):(A++B)[n+k]? = B[k]? := by
 rw[List.getElem?_append_right (by omega),h,Nat.add_sub_cancel_left]
theorem Ii {A B:List Value}(h:A.length=n)(j:k<n):(A++B)[k]? = A[k]? := List.getElem?_append_left (by omega)
theorem rB {A B:List Value}(h:A.length=n)(k:Nat)(v:Value):(A++B).set (n+k) v=A++B.set k v:=by
 rw[List.set_append_right _ _ (by omega),h,Nat.add_sub_cancel_left]
theorem Fz {A B:List Value}(h:A.length=n)(j:k<n)(v:Value):(A++B).set k v=A.set k v++B:=List.set_append_left _ _ (by omega)
theorem IQ {f:α→Value}{L:List α}{d:α}(h:k<L.length):(L.map f)[k]? = some (f (L.getD k d)):=by
 rw[List.getElem?_map,List.getElem?_eq_getElem h];simp[List.getD,h]
theorem rf {N:List ND}:(DL N).length=6:=by simp[DL]
theorem JJ {N:List ND}(h:k<6):(DL N).getD k 0=((gP N ((k:Nat)+1):Nat):Int):=by
 unfold DL;rw[List.getD_eq_getElem?_getD,List.getElem?_map,List.getElem?_range h];rfl
theorem PM.cI (h:PM w q s)(j:k<6):(plC q s)[k]? = some (.bool (s.I.getD k false)):=by
 unfold plC;rw[Ii (n:=6) (by simp[h.i6]) j,IQ (by rw[h.i6];exact j)]
theorem PM.cL (h:PM w q s)(j:k<6):(plC q s)[6+k]? = some (.bool (s.L.getD k false)):=by
 unfold plC;rw[iP (by simp[h.i6]),Ii (n:=6) (by simp[h.l6]) j,IQ (by rw[h.l6];exact j)]
theorem PM.cV (h:PM w q s)(j:k<6):(plC q s)[12+k]? = some (u6 (s.V.getD k 0)):=by
 unfold plC;rw[show 12+k=6+(6+k)by omega,iP (by simp[h.i6]),iP (by simp[h.l6]),Ii (n:=6) (by rw[bQ,h.v6]) j,xc h.v6 j]
theorem PM.cX (h:PM w q s)(k:Nat):(plC q s)[18+k]? = ([pB q.t,.map (some q.pm),.map (some q.rm)]++((DL s.N).map iv++[.map (some q.gm),.map (some q.am)]))[k]? := by
 unfold plC;rw[show 18+k=6+(6+(6+k))by omega,iP (by simp[h.i6]),iP (by simp[h.l6]),iP (by rw[bQ,h.v6])]
theorem PM.c18 (h:PM w q s):(plC q s)[18]? = some (pB q.t):=(h.cX 0).trans rfl
theorem PM.c19 (h:PM w q s):(plC q s)[19]? = some (.map (some q.pm)):=(h.cX 1).trans rfl
theorem PM.c20 (h:PM w q s):(plC q s)[20]? = some (.map (some q.rm)):=(h.cX 2).trans rfl
theorem PM.cO (h:PM w q s)(j:k<6):(plC q s)[21+k]? = some (iv ((gP s.N ((k:Nat)+1):Nat):Int)):=by
 rw[show 21+k=18+(3+k)by omega,h.cX,iP (n:=3) rfl,Ii (n:=6) (by simp[rf]) j,IQ (d:=0) (by rw[rf];exact j),JJ j]
theorem PM.c27 (h:PM w q s):(plC q s)[27]? = some (.map (some q.gm)):=by
 rw[show 27=18+(3+(6+0))by omega,h.cX,iP (n:=3) rfl,iP (n:=6) (by simp[rf])];rfl
theorem PM.c28 (h:PM w q s):(plC q s)[28]? = some (.map (some q.am)):=by
 rw[show 28=18+(3+(6+1))by omega,h.cX,iP (n:=3) rfl,iP (n:=6) (by simp[rf])];rfl
theorem PM.len (h:PM w q s):(plC q s).length=29:=by
 unfold plC;simp[h.i6,h.l6,bQ,h.v6,rf]
theorem zG {f:α→Value}{L:List α}{x:α}:(L.map f).set k (f x)=(L.set k x).map f:=by rw[List.map_set]
theorem PM.sI (h:PM w q s)(j:k<6)(b:Bool):(plC q s).set k (.bool b)=plC q {s with I:=s.I.set k b}:=by
 unfold plC;rw[Fz (n:=6) (by simp[h.i6]) j,zG]
theorem PM.sL (h:PM w q s)(j:k<6)(b:Bool):(plC q s).set (6+k) (.bool b)=plC q {s with L:=s.L.set k b}:=by
 unfold plC;rw[rB (by simp[h.i6]),Fz (n:=6) (by simp[h.l6]) j,zG]
theorem PM.sV (h:PM w q s)(j:k<6)(x:Int):(plC q s).set (12+k) (u6 x)=plC q {s with V:=s.V.set k x}:=by
 unfold plC;rw[show 12+k=6+(6+k)by omega,rB (by simp[h.i6]),rB (by simp[h.l6]),Fz (n:=6) (by rw[bQ,h.v6]) j];unfold vCs;rw[zG]
theorem PM.sO (h:PM w q s)(J:k<6){N:List ND}(hN:∀j,j<6→j≠k→gP N ((j:Nat)+1)=gP s.N ((j:Nat)+1)):(plC q s).set (21+k) (iv ((gP N ((k:Nat)+1):Nat):Int))=plC q {s with N:=N}:=by
 unfold plC;rw[show 21+k=6+(6+(6+(3+k)))by omega,rB (by simp[h.i6]),rB (by simp[h.l6]),rB (by rw[bQ,h.v6]),rB (n:=3) rfl,Fz (n:=6) (by simp[rf]) J,zG];have e:(DL s.N).set k ((gP N ((k:Nat)+1):Nat):Int)=DL N:=by
  refine List.ext_getElem (by simp[rf]) fun j M I=>?_;have u:j<6:=by simpa[rf]using I
  rw[List.getElem_set];have a1:=JJ (N:=N) u;have C:=JJ (N:=s.N) u;rw[List.getD_eq_getElem?_getD,List.getElem?_eq_getElem (by rw[rf];exact u)]at a1 C;simp only[Option.getD_some]at a1 C;by_cases e:k=j
  ·subst e;rw[if_pos rfl,a1]
  ·rw[if_neg e,C,a1,hN j u (fun e' => e e'.symm)]
 rw[e]
end
theorem zO (h:K (.pointer (some ⟨b,o+0,none⟩)) w):aT Tryz.prog 135 (.pointer (some ⟨b,o,none⟩)) 0 K w:=aK (by kernel_rfl) h
theorem GQ (h:K (.pointer (some ⟨b,o+6,none⟩)) w):aT Tryz.prog 135 (.pointer (some ⟨b,o,none⟩)) 1 K w:=aK (by kernel_rfl) h
theorem wD (h:K (.pointer (some ⟨b,o+12,none⟩)) w):aT Tryz.prog 135 (.pointer (some ⟨b,o,none⟩)) 2 K w:=aK (by kernel_rfl) h
theorem wF (h:K (.pointer (some ⟨b,o+18,none⟩)) w):aT Tryz.prog 135 (.pointer (some ⟨b,o,none⟩)) 3 K w:=aK (by kernel_rfl) h
theorem GS (h:K (.pointer (some ⟨b,o+19,none⟩)) w):aT Tryz.prog 135 (.pointer (some ⟨b,o,none⟩)) 4 K w:=aK (by kernel_rfl) h
theorem kz (h:K (.pointer (some ⟨b,o+20,none⟩)) w):aT Tryz.prog 135 (.pointer (some ⟨b,o,none⟩)) 5 K w:=aK (by kernel_rfl) h
theorem GT (h:K (.pointer (some ⟨b,o+21,none⟩)) w):aT Tryz.prog 135 (.pointer (some ⟨b,o,none⟩)) 6 K w:=aK (by kernel_rfl) h
theorem CY (h:K (.pointer (some ⟨b,o+27,none⟩)) w):aT Tryz.prog 135 (.pointer (some ⟨b,o,none⟩)) 7 K w:=aK (by kernel_rfl) h
theorem CZ (h:K (.pointer (some ⟨b,o+28,none⟩)) w):aT Tryz.prog 135 (.pointer (some ⟨b,o,none⟩)) 8 K w:=aK (by kernel_rfl) h
/-! ## What its maps hold -/
section
variable {N:List ND}{G:List GR}{id:Int}
theorem FZ :dP (rgL N) id=match bU N id with|true=>some (aN N id)|false=>none:=by
 unfold rgL
 induction N with
 | nil=>rfl
 | cons x N ih =>
  by_cases h:x.id=id
  ·have j:bU (x::N) id=true:=mF.2 ⟨x,by simp,h⟩;have u:aN (x::N) id=x.A:=by unfold aN;rw[List.find?_cons_of_pos (by simpa using h)]
   rw[j,u];simp[dP,h]
  ·have j:bU (x::N) id=bU N id:=by unfold bU;simp[h]
   have u:aN (x::N) id=aN N id:=by unfold aN;rw[List.find?_cons_of_neg (by simpa using h)]
   rw[j,u, ←ih];simp[dP,h]
theorem Jn (h:bU N id=false):aN N id=z54:=by
 unfold aN;cases j:N.find? fun x=>x.id==id with
 | none=>rfl
 | some x =>
  have:=mF.2 ⟨x,List.mem_of_find?_eq_some j,by simpa using List.find?_some j⟩
  rw[h]at this;cases this
theorem zC {o q:Int}:dP (grL G) (o,q)=iQ G o q:=by
 unfold grL iQ
 induction G with
 | nil=>rfl
 | cons g G ih =>
  by_cases h:(g.o,g.q)=(o,q)
  ·have j:g.o=o∧g.q=q:=by simpa using h
   simp[dP,h,j]
  ·have j : ¬(g.o=o∧g.q=q):=by simpa using h
   have C:(g.o==o&&g.q==q)=false:=by
    rw[Bool.eq_false_iff];intro u;rw[Bool.and_eq_true,beq_iff_eq,beq_iff_eq]at u;exact j u
   rw[List.map_cons,List.find?_cons,C];simp only[dP,h,if_false];exact ih
theorem AI (j:N.Pairwise (·.id < ·.id)):((rgL N).map (·.1)).Nodup:=by
 unfold rgL;rw[List.map_map];exact List.pairwise_map.2 (j.imp fun h e=>by
  have e:_=_:=e;simp only[Function.comp_apply]at e;omega)
theorem DW (j:N.Pairwise (·.id < ·.id)):((tr N).map (·.1)).Nodup:=by
 unfold tr;rw[List.map_map];exact List.pairwise_map.2 (j.imp fun h e=>by
  have e:_=_:=e;simp only[Function.comp_apply]at e;omega)
theorem Dg (j:G.Pairwise ltG):((grL G).map (·.1)).Nodup:=by
 unfold grL;rw[List.map_map];exact List.pairwise_map.2 (j.imp fun h e=>by
  have e:_=_:=e;simp only[Function.comp_apply,Prod.mk.injEq]at e;unfold ltG at h;omega)
end
theorem rgz :∀w,(zeroValue 50).run Tryz.prog w=.ok (rgV z54) w:=fun w=>by kernel_rfl
theorem grz :∀w,(zeroValue 126).run Tryz.prog w=.ok (grV ⟨0,0,0,0,0⟩) w:=fun w=>by kernel_rfl
theorem bz :∀w,(zeroValue 4).run Tryz.prog w=.ok (.bool false) w:=fun w=>by kernel_rfl
section
variable {w:World}{K:KV}{q:LB}{s:PL}
theorem PM.rg_l (h:PM w q s)(hi:PI s){id:Int}(j:K (rgV (aN s.N id)) w):lkp Tryz.prog 130 (.map (some q.rm)) (u6 id) false K w:=by
 obtain⟨m,u,C⟩:=h.rm;refine LZ (z0:=z54) u6K underlying130 rgz u ?_;rw[mQ C (AI hi.srt),FZ];cases I:bU s.N id with
 | true=>exact j
 | false=>rw[Jn I]at j;exact j
theorem PM.rg_l2 (h:PM w q s)(hi:PI s){id:Int}(j:K (.tuple #[rgV (aN s.N id),.bool (bU s.N id)]) w):lkp Tryz.prog 130 (.map (some q.rm)) (u6 id) true K w:=by
 obtain⟨m,C,I⟩:=h.rm;refine BB (z0:=z54) u6K underlying130 rgz C ?_;rw[mQ I (AI hi.srt),FZ];cases u:bU s.N id with
 | true=>rw[u]at j;exact j
 | false=>rw[Jn u,u]at j;exact j
theorem PM.par_l (h:PM w q s)(hi:PI s){id:Int}(u:cr (tr s.N) id=true)(C:K (u6 (eE (tr s.N) id)) w):lkp Tryz.prog 129 (.map (some q.pm)) (u6 id) false K w:=by
 obtain⟨m,I,J⟩:=h.pm;refine LZ (z0:=0) u6K underlying129 u6z I ?_;have j:=DW hi.srt;rw[mQ J j,Cw j,u];exact C
theorem PM.ask_l (h:PM w q s){o:Int}(C:1≤o)(I:o≤6)(j:K (.bool (jB s.R (o-1).toNat r)) w):lkp Tryz.prog 132 (.map (some q.am)) (rqV (o,r)) false K w:=by
 obtain⟨m,J,M⟩:=h.am;refine LZ (z0:=false) rqK underlying132 bz J ?_;rw[M o r C I];cases u:jB s.R (o-1).toNat r with
 | true=>rw[u]at j;exact j
 | false=>rw[u]at j;exact j
theorem PM.gr_l (h:PM w q s)(hi:PI s){o:Int}(j:K (.tuple #[grV ((iQ s.G o r).getD ⟨0,0,0,0,0⟩),.bool (iQ s.G o r).isSome]) w):lkp Tryz.prog 131 (.map (some q.gm)) (rqV (o,r)) true K w:=by
 obtain⟨m,u,C⟩:=h.gm;refine BB (z0:=⟨0,0,0,0,0⟩) rqK underlying131 grz u ?_;rw[mQ C (Dg hi.gs),zC];exact j
end
theorem PI.len30 {s:PL}(hi:PI s):s.N.length≤30:=by
 rw[JE fun x C=>by
  obtain⟨o,q,a1,h,j,u,a5,_⟩:=hi.ids x C;exact⟨o,q,a1,h,j,u,a5⟩]
 have:=hi.own 1
 have:=hi.own 2
 have:=hi.own 3
 have:=hi.own 4
 have:=hi.own 5
 have:=hi.own 6
 omega
theorem IdR.imp {ids:List Int}(h:IdR w B a c ids)(J:∀g cs,B≤g→blk w g 31 cs→blk w' g 31 cs):IdR w' B a c ids:=by
 rcases h with h|⟨g,rest,u,j,C,I⟩
 ·exact .inl h
 ·exact .inr ⟨g,rest,u,j,C,J _ _ j I⟩
theorem Ac {N:List ND}:(tr N).length=N.length:=by simp[tr]
theorem PI.plen {s:PL}(hi:PI s)(id:Int):(di s.N id).length≤4:=by
 cases h:cr (tr s.N) id with
 | true =>
  obtain⟨x,j,e⟩:=jE.1 h;obtain⟨y,u,rfl⟩:=List.mem_map.1 j;have e:y.id=id:=e;rw[←e];exact hi.dep y u
 | false=>simp[di,dh,cB,h]
structure RoI (w0 v:World) (q:LB) (s:PL) (y t tp b1 D:Nat) (a:Option Addr) (c B:Nat) (P l:List Int):Prop where
 pm:PM v q s
 lv:blk v w0.heap.size 79 [pB q.p]
 tv:blk v y 127 [pB t]
 tb:∃S,TreeM v t tp S∧RI (tr s.N) S l l
 sl:blk v b1 120 [.slice a P.length c]
 ids:IdR v B a c P
 bel:Below w0.heap.size w0 v
 dm:v.heap[D]? = some (.deferred (some []))
 sz:D+2≤v.heap.size
section
variable {w0 v v':World}{q:LB}{s:PL}{y t tp b1 D c B:Nat}{a:Option Addr}{P l l':List Int}
theorem RoI.ch (h:RoI w0 v q s y t tp b1 D a c B P l)(u:Ch F v v')(hF:∀k∈F,w0.heap.size<k∧k≠y∧k≠b1∧k≠D∧(∀cs,¬blk v k 31 cs))(J:∀k∈q.l,k<w0.heap.size)(M:∃S,TreeM v' t tp S∧RI (tr s.N) S l' l'):RoI w0 v' q s y t tp b1 D a c B P l' where
 pm:=h.pm.ch u fun k C j=>by have:=J k C;have:=(hF k j).1;omega
 lv:=h.lv.ch u fun j=>by have:=(hF _ j).1;omega
 tv:=h.tv.ch u fun j=>(hF _ j).2.1 rfl
 tb:=M
 sl:=h.sl.ch u fun j=>(hF _ j).2.2.1 rfl
 ids:=h.ids.imp fun g cs _ I=>I.ch u fun j=>(hF _ j).2.2.2.2 _ I
 bel:=⟨u.os.trans h.bel.os,u.tape.trans h.bel.tape,u.output.trans h.bel.output,Nat.le_trans h.bel.size u.size,fun k C=>by
  rw[u.block k (Nat.lt_of_lt_of_le C h.bel.size) (fun j=>by have:=(hF k j).1;omega),h.bel.block k C]⟩
 dm:=(u.block D (by have:=h.sz;omega) (fun j=>(hF _ j).2.2.2.1 rfl)).trans h.dm
 sz:=Nat.le_trans h.sz u.size
theorem su {o:Obj}(u:w.heap[k]? = some o)(j:∀cs z,o≠.cells cs E z)(cs:List Value):¬blk w k E cs:=by
 intro h;unfold blk at h;rw[u]at h;exact j _ _ (Option.some.inj h)
theorem TreeM.mo {t:Nat}(h:TreeM w t b T):∃es c,w.heap[b]? = some (.map es c):=by
 obtain⟨m,⟨es,c,j⟩,_⟩:=h.mp;exact⟨es,c,j.heap⟩
end
section
variable {w:World}{K:KV}{q:LB}{s:PL}
theorem IdR.at2 {ids:List Int}{K2:Value→KV}(h:IdR w B a c ids)(hi:i<ids.length)(u:∀p,K2 p (u6 ids[i]) w):aV Tryz.prog 120 (.slice a ids.length c) (.int .i64 (i:Nat)) (fun p=>ld Tryz.prog 31 p (K2 p)) w:=by
 rcases h with⟨rfl,_⟩|⟨g,rest,rfl,I,C,j⟩
 ·simp at hi
 refine dJ underlying120 (s:=1) (fun _=>by kernel_rfl) (by omega) (by omega) ?_;rw[Int.toNat_natCast,Nat.mul_one,Nat.zero_add];refine lK (v:=u6 ids[i]) j ?_ (u _);rw[List.getElem?_append_left (by simpa using hi),List.getElem?_map,List.getElem?_eq_getElem hi];rfl
theorem TT {id par:Int}(h:PM w q s)(hi:PI s)(I:∀w',Below w.heap.size w w'→K (.int .i64 (iX (tr s.N) id par).2) w'):call Tryz.prog 237 #[pB q.p,u6 id,u6 par] K w:=by
 have ar:=h.lt;obtain⟨rk,av⟩:=hi.tk;have dq:=hi.len30;have c6:(dh (tr s.N) par).length≤4:=hi.plen par;obtain⟨P,hP⟩:∃P,P=dh (tr s.N) par:=⟨_,rfl⟩
 have ap:∀i n,P[i]? = some n→n≠0∧cr (tr s.N) n=true∧((i+1=P.length∧eE (tr s.N) n=0)∨P[i+1]? = some (eE (tr s.N) n)):=fun i n hn=>by
  rw[hP]at hn ⊢;exact Kw av _ _ (by have:=AM av par;omega) i n hn
 have cf:P.Nodup:=by rw[hP];exact(yY av _ _).imp fun {a b} dr e=>by subst e;omega
 rw[←hP]at c6;refine aj (goK func237) (Cv ?_);refine cv fun w1 h1 b1 s1=>Qv fun w2 t tp cl b2 l2 d5=>?_;have h1:blk w1 w.heap.size 79 [pB q.p]:=by simpa[Value.cells]using h1
 refine dZ (z:=.pointer none) (by kernel_rfl) fun w3 h3 b3 s3=>?_;have h3:blk w3 w2.heap.size 127 [.pointer none]:=by simpa[Value.cells]using h3
 refine eB (fun _=>by kernel_rfl) h3 (by show 0<1;decide) rfl fun w4 h4 o4=>?_;have h4:blk w4 w2.heap.size 127 [pB t]:=h4;obtain⟨y,hy⟩:∃y,y=w2.heap.size:=⟨_,rfl⟩
 rw[←hy]at h4 o4 ⊢;have d3:=cl.lt;have d2:=b2.size;have B4:Below w.heap.size w w4:=bG (b1.trans ((b2.mono (by omega)).trans (b3.mono (by omega)))) o4 (by omega);have l4:blk w4 w.heap.size 79 [pB q.p]:=o4.blk (ac b3 (ac b2 h1 h1.lt) (by omega)) (by omega);have t4:TreeM w4 t tp []:=(cl.below b3).oth o4 (by omega) (by omega);have p4:=h.below B4
 refine lK (v:=pB q.p) l4 rfl (ai (wF (lK (v:=pB q.t) p4.b (by rw[Nat.zero_add];exact p4.c18) ?_)));refine Kb av p4.tm (by rw[Ac];omega) fun w5 a c ho b5=>?_;rw[←hP]at ho ⊢;have cV:IdR w5 w4.heap.size a c P:=IdR.own ho rfl;refine TJ fun w6 h6 b6 s6=>?_;have s4:w4.heap.size=w2.heap.size+1:=by rw[o4.size,s3]
 have bg:=b5.size;refine Qj (g:=.tmp 21) (ps:=#[22,23]) (a:=cd lJ []) (bd:=cd lL []) (gf:=263) (cap:=[pB w5.heap.size]) (by kernel_rfl) rfl ?_;intro fn W bW sW hD hL;have ag:Below w4.heap.size w4 W:=b5.trans ((b6.mono bg).trans (bW.mono (by omega)));have bk:RoI w W q s y t tp w5.heap.size w6.heap.size a c w4.heap.size P [] :=
  ⟨p4.below ag,ac ag l4 l4.lt,ac ag h4 h4.lt,⟨[],t4.below ag,RI.nil⟩,ac bW h6 h6.lt,(cV.below b6).below bW,B4.trans (ag.mono B4.size),hD,by omega⟩
 generalize d4:w6.heap.size=D at *;have cO:∀{j:Nat},P.drop (P.length-0)=[]:=by simp
 refine TL (ids:=P) (c:=c) (a:=a) (B:=w4.heap.size) Ik (by omega)
  (fun j v=>RoI w v q s y t tp w5.heap.size D a c w4.heap.size P (P.drop (P.length-j))∧v.heap[D+1]? = some (.loop (mX fn _ #[22,23] (cd lJ []) (cd lL []) D .ready none))) (fun _=>False)
  ⟨by simpa using bk,hL⟩ (fun j v hv=>⟨hv.1.sl,hv.1.ids⟩) ?_ ?_ (fun _ U=>U.elim)
 ·rintro j k x v K' dF hx ⟨hR,hl⟩ kT kF;obtain⟨bi,dg,dp⟩:=ap k x hx;have cI:P.drop (P.length-j)=P.drop (k+1):=by congr 1;omega
  have am:k<P.length:=by omega
  have cL:P.drop (P.length-(j+1))=x::P.drop (k+1):=by
   rw[show P.length-(j+1)=k by omega,List.drop_eq_getElem_cons am];rw[List.getElem?_eq_getElem am]at hx;rw[Option.some.inj hx]
  rw[cI]at hR;refine⟨by kernel_rfl,by kernel_rfl,hl,rfl,Bf ⟨hl,Bg ?_⟩⟩;generalize a0:v.putObj (D+1) _=v1;have o1:Oth (D+1) v v1:=a0 ▸ oth_put;have l1:v1.heap[D+1]? = some (.loop (mX fn _ #[22,23] (cd lJ []) (cd lL []) D .busy none)):=a0 ▸ World.putObj_heap_same (by have:=hR.sz;omega);obtain⟨S,hS,bb⟩:=hR.tb;have cD:=hS.lt;have d0:w.heap.size<D:=by have:=hR.sz;have:=bg;omega
  have R1:RoI w v1.drew q s y t tp w5.heap.size D a c w4.heap.size P (P.drop (k+1)):=hR.ch (F:=[D+1]) ⟨o1.os,o1.tape,o1.output,by show v.heap.size≤v1.heap.size;rw[o1.size];exact Nat.le_refl _,fun k _ I=>o1.other k (by simpa using I)⟩
   (fun k I=>by
    have I:k=D+1:=by simpa using I
    subst I;exact⟨by omega,by omega,by omega,by omega,su hl (by simp)⟩) ar ⟨S,(hS.oth o1 (by omega) (by omega)).drew,bb⟩
  have d6:(x::P.drop (k+1)).length=j+1:=by simp;omega
  refine aw (fun u=>PM u q s∧blk u w.heap.size 79 [pB q.p]∧blk u y 127 [pB t]) ⟨R1.pm,R1.lv,R1.tv⟩ <|ab (fun u hu _=>lK (v:=pB t) hu.2.2 rfl) <|ab (fun u hu _=>lK (v:=pB q.p) hu.2.1 rfl) ?_;refine ab (fun u hu _=>ai) (ab (fun u hu _=>GS) ?_);refine ab (fun u hu _=>lK (v:=.map (some q.pm)) hu.1.b (by rw[Nat.zero_add];exact hu.1.c19)) <|ab (fun u hu _=>hu.1.par_l hi dg) ?_
  obtain⟨S1,ad,J⟩:=R1.tb;obtain⟨d7,c1⟩:=J.tk;have c3:=J.len;have dz:(P.drop (k+1)).length=j:=by simp;omega
  have c5:x∉P.drop (k+1):=by
   have hn:=cf;rw[←List.take_append_drop k P,List.drop_eq_getElem_cons am]at hn;rw[List.getElem?_eq_getElem am]at hx;rw[Option.some.inj hx]at hn;exact(List.nodup_cons.1 (List.nodup_append.1 hn).2.1).1
  have ce:eE (tr s.N) x=0∨eE (tr s.N) x∈P.drop (k+1):=by
   rcases dp with⟨_,U⟩|U
   ·exact .inl U
   ·right
    have:(P.drop (k+1))[0]? = some (eE (tr s.N) x):=by rw[List.getElem?_drop,Nat.add_zero];exact U
    exact List.mem_of_getElem? this
  obtain⟨e0,_,a3⟩:=J.add bi c5 ce (by omega) (.inr (by omega));refine Jh c1 ad (by omega) fun w7 aE c7=>?_;obtain⟨es,cc,aS⟩:=ad.mo;have R7:=R1.ch (F:=[tp]) c7 (fun k I=>by
    have I:k=tp:=by simpa using I
    subst I;refine⟨by omega,by omega,?_,by omega,su aS (by simp)⟩;intro e
    have:=R1.sl
    rw[←e]at this;unfold blk at this;rw[aS]at this;cases this) ar ⟨_,aE,a3 rfl⟩
  have l7:w7.heap[D+1]? = some (.loop (mX fn _ #[22,23] (cd lJ []) (cd lL []) D .busy none)):=(c7.block (D+1) (by have:=R1.sz;omega) (by simp;omega)).trans l1;refine⟨l7,kT _ ⟨?_,World.putObj_heap_same (by have:=R7.sz;omega)⟩⟩;rw[cL];generalize da:w7.putObj (D+1) _=v8;have o8:Oth (D+1) w7 v8:=da ▸ oth_put
  exact R7.ch (F:=[D+1]) ⟨o8.os,o8.tape,o8.output,by rw[o8.size];exact Nat.le_refl _,fun k _ I=>o8.other k (by simpa using I)⟩
   (fun k I=>by
    have I:k=D+1:=by simpa using I
    subst I;exact⟨by omega,by omega,by omega,by omega,su l7 (by simp)⟩) ar ⟨_,aE.oth o8 (by omega) (by omega),a3 rfl⟩
 ·rintro v ⟨hR,hl⟩;rw[Nat.sub_self,List.drop_zero]at hR;refine⟨none,hl,Be ?_⟩;generalize a0:v.putObj (D+1) _=v1;have o1:Oth (D+1) v v1:=a0 ▸ oth_put;obtain⟨S,hS,bb⟩:=hR.tb;have cD:=hS.lt;have d0:w.heap.size<D:=by have:=hR.sz;have:=bg;omega
  have R1:RoI w v1 q s y t tp w5.heap.size D a c w4.heap.size P P:=hR.ch (F:=[D+1]) ⟨o1.os,o1.tape,o1.output,by rw[o1.size];exact Nat.le_refl _,fun k _ I=>o1.other k (by simpa using I)⟩
   (fun k I=>by
    have I:k=D+1:=by simpa using I
    subst I;exact⟨by omega,by omega,by omega,by omega,su hl (by simp)⟩) ar ⟨S,hS.oth o1 (by omega) (by omega),bb⟩
  refine lK (v:=pB q.p) R1.lv rfl (ai (wF (lK (v:=pB q.t) R1.pm.b (by rw[Nat.zero_add];exact R1.pm.c18) ?_)));refine NV R1.pm.tm (by rw[Ac];omega) fun w7 a7 c7 ids M c8 b8 b7=>?_;have cX:ids.length=s.N.length:=by rw[M.length_eq,List.length_map,Ac]
  have a4:ids.Nodup:=c8.imp fun U=>by omega
  refine bj underlying120 ?_;obtain⟨S1,ad,J⟩:=R1.tb;have R7:RoI w w7 q s y t tp w5.heap.size D a c w4.heap.size P P:=R1.ch (F:=[]) (Ch.of_below b7) (by simp) ar ⟨S1,ad.below b7,J⟩;have aE:=ad.below b7;clear R1 ad;have d9:D+2≤v1.heap.size:=by rw[o1.size];exact hR.sz
  let lk:Nat→List Int:=fun k=>((ids.take k).filter fun n=>!P.contains n).reverse++P
  refine yB (Inv:=fun i wr=>∃(k:Nat) (S:List (Int×Int)),i=iv (k:Nat)∧k≤ids.length∧TreeM wr t tp S∧RI (tr s.N) S (lk k) P∧blk wr y 127 [pB t]∧IdR wr w4.heap.size a c P∧IdR wr v1.heap.size a7 c7 ids∧Below w.heap.size w wr∧wr.heap[D]? = some (.deferred (some []))∧D+2≤wr.heap.size)
   (μ:=fun i _=>ids.length-(intOf i).toNat) ⟨0,S1,rfl,Nat.zero_le _,aE,J,R7.tv,R7.ids,b8,R7.bel,R7.dm,R7.sz⟩ ?_
  rintro _ dd w8 m ⟨k,S8,rfl,am,af,C,a2,al,aa,O,ba,cm⟩ hm;have c4:=C.len;obtain⟨d8,b9⟩:=C.tk;have a8:∀n∈lk k,n∈ids:=by
   intro n hn;rcases List.mem_append.1 hn with hn|hn
   ·exact List.mem_of_mem_take ((List.mem_filter.1 (List.mem_reverse.1 hn)).1)
   ·rw[M.mem_iff,List.mem_map];obtain⟨i,be,e⟩:=List.getElem_of_mem hn;obtain⟨_,U,_⟩:=ap i n (by rw[List.getElem?_eq_getElem be,e]);obtain⟨z,hz,e⟩:=jE.1 U;exact⟨z,hz,e⟩
  have d1:(lk k).length≤s.N.length:=by rw[←cX];exact pS C.nd a8
  refine aM ?_;by_cases an:k<ids.length
  ·refine ax (by omega) (yA (aa.at2 an fun pt=>?_));have hx:ids[k]? = some ids[k]:=List.getElem?_eq_getElem an;generalize dj:ids[k]=x at hx;have a9:ids.take (k+1)=ids.take k++[x]:=by rw[List.take_add_one,hx];rfl
   refine Ng al (by omega) (tO ?_);by_cases az:x∈P
   ·refine aq (by simpa using az) (rt (aW (by omega) (by omega) ?_));have e:lk (k+1)=lk k:=by simp only[lk];rw[a9];simp[az]
    exact⟨⟨k+1,S8,ivS,an,af,by rw[e];exact C,a2,al,aa,O,ba,cm⟩,by rw[hm];show ids.length-((k:Int)+1).toNat<ids.length-(k:Int).toNat;omega⟩
   ·refine ax az (lK (v:=pB t) a2 rfl ?_);have e:lk (k+1)=x::lk k:=by simp only[lk];rw[a9];simp[az]
    have dk:x∉lk k:=by
     intro U;rcases List.mem_append.1 U with U|U
     ·have U:=(List.mem_filter.1 (List.mem_reverse.1 U)).1;obtain⟨i,be,e2⟩:=List.getElem_of_mem U;rw[List.getElem_take]at e2;have cR:i<k:=by simp at be;omega
      have:=(List.pairwise_iff_getElem.1 a4) i k (by omega) an cR
      rw[dj]at this;exact this e2
     ·exact az U
    have bi:x≠0:=by
     have:x∈ids:=List.mem_of_getElem? hx
     rw[M.mem_iff,List.mem_map]at this;obtain⟨z,hz,e2⟩:=this;rw[←e2];exact av.nz z hz
    obtain⟨e0,bn,_⟩:=C.add bi dk (.inl rfl) (by omega) (.inl rfl);refine Jh b9 af (by omega) fun w9 bt c9=>rt (aW (by omega) (by omega) ?_);obtain⟨es,cc,aS⟩:=af.mo;have b0:∀g cs,blk w8 g 31 cs→blk w9 g 31 cs:=fun g cs hb=>hb.ch c9 (fun hf=>by
     have hf:g=tp:=by simpa using hf
     subst hf;exact su aS (by simp) _ hb)
    have bs:=af.lt;refine⟨⟨k+1,_,ivS,an,bt,by rw[e];exact bn,a2.ch c9 (by simp;omega),al.imp fun g cs _=>b0 g cs,aa.imp fun g cs _=>b0 g cs,?_,(c9.block D (by omega) (by simp;omega)).trans ba,Nat.le_trans cm c9.size⟩,by rw[hm];show ids.length-((k:Int)+1).toNat<ids.length-(k:Int).toNat;omega⟩;exact O.trans (c9.below (by simp;omega) O.size)
  ·refine aq (by omega) (yC (lK (v:=pB t) a2 rfl ?_));have e:ids.take k=ids:=by rw[List.take_of_length_le (by omega)]
   have c2:(lk k).Perm ((tr s.N).map (·.1)):=by
    refine List.Perm.trans ?_ M;refine(List.perm_ext_iff_of_nodup C.nd a4).2 fun n=>⟨a8 n,fun hn=>?_⟩
    show n∈((ids.take k).filter fun n=>!P.contains n).reverse++P;rw[e];by_cases ca:n∈P
    ·exact List.mem_append_right _ ca
    ·exact List.mem_append_left _ (List.mem_reverse.2 (List.mem_filter.2 ⟨hn,by simpa using ca⟩))
   rw[hP]at C;have b4:=C.err (id:=id) c2;refine Jh b9 af (by omega) fun w9 bt c9=>?_;have bs:=af.lt;have cp:w9.heap[D]? = some (.deferred (some [])):=(c9.block D (by omega) (by simp;omega)).trans ba;refine⟨cp,?_⟩;rw[b4];refine I _ (bG (p:=D) (O.trans (c9.below (by simp;omega) O.size)) oth_put (by omega))
end
/-! ## Plain -/
def qx (e:EV)(s:PL):PL:={eff e s with V:=s.V}
section
variable {κ ν:Type}[DecidableEq κ]
theorem Ky {m L:List (κ×ν)}(C:(m.map (·.1)).Nodup)(hL:(L.map (·.1)).Nodup)(h:∀y,dP m y=dP L y):m.Perm L:=by
 have I:∀{l:List (κ×ν)},(l.map (·.1)).Nodup→l.Nodup:=fun {l} h=>List.Pairwise.of_map (·.1) (fun a b j e=>j (by rw[e])) h;refine(List.perm_ext_iff_of_nodup (I C) (I hL)).2 fun⟨k,v⟩=>⟨fun u=>?_,fun u=>?_⟩
 ·exact uR (by rw[←h];exact nN C u)
 ·exact uR (by rw[h];exact nN hL u)
end
theorem MB.nodup {kv:α→Value}{vv:W5→Value}{m:List (α×W5)}(h:MB kv vv w b m):(m.map (·.1)).Nodup:=by
 obtain⟨_,_,h⟩:=h;exact h.nodup
theorem Bx {x:ND}:∀{N:List ND},(dN x N).Perm (x::N)
 | []=>.refl _
 | y::N=>by
  unfold dN;split
  ·exact .refl _
  ·exact((Bx (x:=x) (N:=N)).cons y).trans (List.Perm.swap x y N)
theorem insG_perm {x:GR}:∀{G:List GR},(iS x G).Perm (x::G)
 | []=>.refl _
 | y::G=>by
  unfold iS;split
  ·exact .refl _
  ·exact((insG_perm (x:=x) (G:=G)).cons y).trans (List.Perm.swap x y G)
theorem Vq (C:n<16777216)(u:c<1099511627776):ub .or .u64 ((n*1099511627776:Nat):Int) (c:Int)=((n*1099511627776+c:Nat):Int):=by
 unfold ub;have j:IntKind.u64.bits=64:=rfl;simp only[j,gF]
 have:(BitVec.ofInt 64 ((n*1099511627776:Nat):Int) ||| BitVec.ofInt 64 ((c:Nat):Int)).toNat=n*1099511627776+c:=by
  rw[BitVec.toNat_or,BitVec.ofInt_natCast,BitVec.ofInt_natCast,BitVec.toNat_ofNat,BitVec.toNat_ofNat];rw[Nat.mod_eq_of_lt (by omega),Nat.mod_eq_of_lt (by omega)];have h:=Nat.shiftLeft_add_eq_or_of_lt (i:=40) (b:=c) (by omega) n;rw[Nat.shiftLeft_eq]at h;rw[←h]
 show ((BitVec.ofInt 64 ((n*1099511627776:Nat):Int) ||| BitVec.ofInt 64 ((c:Nat):Int)).toNat:Int)%18446744073709551616=_;rw[this];omega
def Uv (w':World)(q:LB)(s1:PL)(fv:Value):Prop:=∀(w2:World) (K2:KV),Below w'.heap.size w' w2→(∀w3,PM w3 q s1→Ch q.wv w2 w3→K2 (.tuple #[]) w3)→bY Tryz.prog fv #[] K2 w2
section
variable {e:EV}{s:PL}
theorem Gp (k:e.k=1):qx e s={s with N:=dN ⟨idE e,e.n,z54.set e.q e.a⟩ s.N}:=by simp[qx,eff,nO,nP,kZ,nop,gop,NOp.ap,GOp.ap,k]
theorem Gv (k:e.k=2):qx e s={s with N:=s.N.map (dR [e.n] e.q e.a)}:=by simp[qx,eff,nO,nP,kZ,nop,gop,NOp.ap,GOp.ap,k]
theorem Tb (k:e.k=3):qx e s={s with N:=s.N.map (dR (di s.N e.n) (6+e.q) e.a),G:=iS ⟨e.o,e.r,e.n,e.a,0⟩ s.G,R:=s.R.set e.q (s.R.getD e.q []++[e.r])}:=by simp[qx,eff,nO,nP,kZ,nop,gop,NOp.ap,GOp.ap,k]
theorem Tc (k:e.k=4):qx e s={s with N:=s.N.map (dR (di s.N (gOf s e).n) (12+e.q) (gOf s e).a),G:=s.G.map (nD e.o e.f e.r),R:=s.R.set e.q (s.R.getD e.q []++[e.r])}:=by simp[qx,eff,nO,nP,kZ,nop,gop,NOp.ap,GOp.ap,k]
theorem Td (k:e.k=5):qx e s={s with N:=s.N.map (dR [e.n] (18+6*e.q+(e.t-1).toNat) e.a)}:=by simp[qx,eff,nO,nP,kZ,nop,gop,NOp.ap,GOp.ap,k]
theorem Te (k:e.k=6):qx e s={s with I:=s.I.set (e.t-1).toNat true}:=by simp[qx,eff,nO,nP,kZ,nop,gop,NOp.ap,GOp.ap,k]
theorem Tf (k:e.k=7):qx e s={s with L:=s.L.set e.q true}:=by simp[qx,eff,nO,nP,kZ,nop,gop,NOp.ap,GOp.ap,k]
end
theorem ixO {i:Int}(hi:i=(k:Nat))(j:k<6)(h:K (.pointer (some ⟨b,o+k,none⟩)) w):aV Tryz.prog 133 (.pointer (some ⟨b,o,none⟩)) (.int .i64 i) K w:=by
 subst hi;exact eO underlying133 (s:=1) (fun _=>by kernel_rfl) (by omega) (by omega) (by rw[Int.toNat_natCast,Nat.mul_one];exact h)
theorem JK {i:Int}(hi:i=(k:Nat))(j:k<6)(h:K (.pointer (some ⟨b,o+k,none⟩)) w):aV Tryz.prog 41 (.pointer (some ⟨b,o,none⟩)) (.int .i64 i) K w:=by
 subst hi;exact eO underlying41 (s:=1) (fun _=>by kernel_rfl) (by omega) (by omega) (by rw[Int.toNat_natCast,Nat.mul_one];exact h)
structure LE (w0 w:World) (q:LB) (e:EV):Prop where
 l:blk w w0.heap.size 79 [pB q.p]
 e:blk w (w0.heap.size+1) 54 (evC e)
 bel:Below w0.heap.size w0 w
section
variable {w0 w w':World}{q:LB}{e:EV}
theorem LE.fresh (g:LE w0 w q e)(h:Below w.heap.size w w'):LE w0 w' q e:=⟨ac h g.l g.l.lt,ac h g.e g.e.lt,g.bel.trans (h.mono g.bel.size)⟩
theorem LE.sz (g:LE w0 w q e):w0.heap.size+2≤w.heap.size:=g.e.lt
theorem LE.drew (g:LE w0 w q e):LE w0 w.drew q e:=g.fresh (Below.refl _ w).drew
theorem LE.oth (g:LE w0 w q e)(o:Oth b w w')(h:w0.heap.size+2≤b):LE w0 w' q e:=⟨o.blk g.l (by omega),o.blk g.e (by omega),bG g.bel o (by omega)⟩
end
section
variable {w:World}{K:KV}{q:LB}{s:PL}{e:EV}
theorem LE.make {K2:Value→Value→World→Prop}(h:∀w',LE w w' q e→w'.heap.size=w.heap.size+2→K2 (pB w.heap.size) (pB (w.heap.size+1)) w'):box Tryz.prog 79 (pB q.p) (fun l=>box Tryz.prog 54 (.agg (evC e).toArray) (K2 l)) w:=by
 refine cv fun I j b1 C=>xj fun J u b2 M=>?_;have j:blk I w.heap.size 79 [pB q.p]:=by simpa[Value.cells]using j
 rw[C]at u ⊢;exact h J ⟨ac b2 j j.lt,u,b1.trans (b2.mono (by omega))⟩ (by omega)
theorem Fp {o:Int}(I:1≤o)(J:o≤6)(M:1≤x)(O:x<1099511627776)(h:K (u6 (o*M40+x)) w):call Tryz.prog 236 #[iv o,u6 x] K w:=by
 refine aj (goK func236) (Pc (aM (dX (by omega) (de (bw (by omega) (dX (by omega) (aM (bw (by omega) (dX (by omega) (bM (bw (by omega) (aq (by omega) ?_))))))))))));refine dS underlying3 underlying31 ?_;rw[gF,show o%18446744073709551616=o by omega];refine Cg (by omega) ?_;have e:o*2 ^ (min (40:Int).toNat IntKind.u64.bits)=o*1099511627776:=rfl
 obtain⟨j,rfl⟩:=Int.eq_ofNat_of_zero_le (show 0≤o by omega);obtain⟨u,rfl⟩:=Int.eq_ofNat_of_zero_le (show 0≤x by omega);rw[e,gF,show (j:Int)*1099511627776%18446744073709551616=((j*1099511627776:Nat):Int)by omega];refine UD ?_;rw[Vq (by omega) (by omega)];have C:((j*1099511627776+u:Nat):Int)=(j:Int)*M40+(u:Int):=by simp only[M40];omega
 rw[C];exact h
theorem sE {x:Value}(C:(Tryz.prog.info? t).bind (·.zero)=some x)(u:x.cells.toList=[x])(h:∀w',blk w' w.heap.size t [x]→Below w.heap.size w w'→w'.heap.size=w.heap.size+1→K (pB w.heap.size) w'):alc Tryz.prog t K w :=
 dZ C fun w' j b s=>h w' (by rwa[u]at j) b s
theorem mk6 {S0:World→Prop}{T:Value→Value→Value→(World→Prop)→World→Prop}{o:Int}(U:1≤o)(h2:o≤6)(h3:1≤x)(h4:x<1099511627776)(C:∀w',Below w.heap.size w w'→S0 w')(h:∀w' bi bk,blk w' bi 31 [u6 0]→blk w' bk 3 [iv 0]→bi≠bk→w.heap.size≤bi→w.heap.size≤bk→Below w.heap.size w w'→T (u6 (o*M40+x)) (pB bi) (pB bk) S0 w'):(call Tryz.prog 236 #[iv o,u6 x] (fun t=>aY S0 fun S w=>(alc Tryz.prog 31 (fun i=>aY S fun S=>alc Tryz.prog 3 fun k=>aY S fun S=>T t i k S) w)∧(alc Tryz.prog 3 (fun k=>aY S fun S=>alc Tryz.prog 31 fun i=>aY S fun S=>T t i k S) w)) w) ∧
    ((alc Tryz.prog 31 (fun i=>aY S0 fun S w=>(call Tryz.prog 236 #[iv o,u6 x] (fun t=>aY S fun S=>alc Tryz.prog 3 fun k=>aY S fun S=>T t i k S) w)∧(alc Tryz.prog 3 (fun k=>aY S fun S=>call Tryz.prog 236 #[iv o,u6 x] fun t=>aY S fun S=>T t i k S) w)) w) ∧
     (alc Tryz.prog 3 (fun k=>aY S0 fun S w=>(call Tryz.prog 236 #[iv o,u6 x] (fun t=>aY S fun S=>alc Tryz.prog 31 fun i=>aY S fun S=>T t i k S) w)∧(alc Tryz.prog 31 (fun i=>aY S fun S=>call Tryz.prog 236 #[iv o,u6 x] fun t=>aY S fun S=>T t i k S) w)) w)):=by
  have aa:=C w (Below.refl _ w);have ik:∀j w2,Below w.heap.size w j→blk j w.heap.size 31 [u6 0]→j.heap.size=w.heap.size+1→blk w2 j.heap.size 3 [iv 0]→Below j.heap.size j w2→Below w.heap.size w w2∧T (u6 (o*M40+x)) (pB w.heap.size) (pB j.heap.size) S0 w2:=fun j w2 b1 I O J b2 =>
    have u:=b1.trans (b2.mono (by omega))
    ⟨u,h w2 _ _ (ac b2 I I.lt) J (by omega) (by omega) (by omega) u⟩
  have ki:∀j w2,Below w.heap.size w j→blk j w.heap.size 3 [iv 0]→j.heap.size=w.heap.size+1→blk w2 j.heap.size 31 [u6 0]→Below j.heap.size j w2→Below w.heap.size w w2∧T (u6 (o*M40+x)) (pB j.heap.size) (pB w.heap.size) S0 w2:=fun j w2 b1 I O J b2 =>
    have u:=b1.trans (b2.mono (by omega))
    ⟨u,h w2 _ _ J (ac b2 I I.lt) (by omega) (by omega) (by omega) u⟩
  refine⟨Fp U h2 h3 h4 (bR aa ⟨?_,?_⟩),?_,?_⟩
  · refine sE (x:=u6 0) (by kernel_rfl) rfl fun j I b1 O=>bR (C _ b1) (sE (x:=iv 0) (by kernel_rfl) rfl fun w2 J b2 s2=>?_)
    obtain⟨u,M⟩:=ik j w2 b1 I O J b2;exact bR (C _ u) M
  · refine sE (x:=iv 0) (by kernel_rfl) rfl fun j I b1 O=>bR (C _ b1) (sE (x:=u6 0) (by kernel_rfl) rfl fun w2 J b2 s2=>?_)
    obtain⟨u,M⟩:=ki j w2 b1 I O J b2;exact bR (C _ u) M
  · refine sE (x:=u6 0) (by kernel_rfl) rfl fun j I b1 O=>bR (C _ b1) ⟨Fp U h2 h3 h4 (bR (C _ b1) (sE (x:=iv 0) (by kernel_rfl) rfl fun w2 J b2 s2=>?_)),sE (x:=iv 0) (by kernel_rfl) rfl fun w2 J b2 s2=>?_⟩
    · obtain⟨u,M⟩:=ik j w2 b1 I O J b2
      exact bR (C _ u) M
    · obtain⟨u,M⟩:=ik j w2 b1 I O J b2
      exact bR (C _ u) (Fp U h2 h3 h4 (bR (C _ u) M))
  · refine sE (x:=iv 0) (by kernel_rfl) rfl fun j I b1 O=>bR (C _ b1) ⟨Fp U h2 h3 h4 (bR (C _ b1) (sE (x:=u6 0) (by kernel_rfl) rfl fun w2 J b2 s2=>?_)),sE (x:=u6 0) (by kernel_rfl) rfl fun w2 J b2 s2=>?_⟩
    · obtain⟨u,M⟩:=ki j w2 b1 I O J b2
      exact bR (C _ u) M
    · obtain⟨u,M⟩:=ki j w2 b1 I O J b2
      exact bR (C _ u) (Fp U h2 h3 h4 (bR (C _ u) M))
end
structure LV (w:World) (z:Nat) (q:LB) (e:EV):Prop where
 l:blk w z 79 [pB q.p]
 e:blk w (z+1) 54 (evC e)
section
variable {w w':World}{z:Nat}{q:LB}{e:EV}
theorem LV.ch (g:LV w z q e)(j:Ch F w w')(hF:∀k∈F,k<z∨z+2≤k):LV w' z q e :=
 ⟨g.l.ch j fun h=>by have:=hF _ h;omega,g.e.ch j fun h=>by have:=hF _ h;omega⟩
theorem LV.below (g:LV w z q e)(h:Below w.heap.size w w'):LV w' z q e:=g.ch (Ch.of_below h:Ch [] w w') (by simp)
theorem LV.oth (g:LV w z q e)(o:Oth b w w')(h:b<z∨z+2≤b):LV w' z q e:=⟨o.blk g.l (by omega),o.blk g.e (by omega)⟩
theorem LV.drew (g:LV w z q e):LV w.drew z q e:=g.below (Below.refl _ w).drew
theorem LE.lv (g:LE w0 w q e):LV w w0.heap.size q e:=⟨g.l,g.e⟩
end
section
variable {w:World}{K:KV}{q:LB}{s:PL}{e:EV}
theorem RH (g:LV w z q e)(aE:blk w b 31 [u6 (idE e)])(bi:blk w n 3 [iv (e.q:Nat)])(zi:z+2≤b)(zk:z+2≤n)(hq:∀k∈q.l,k<z)(h:PM w q s)(hi:PI s)(hm:dK e=true)(hn:bU s.N (idE e)=false)(J:(iX (tr s.N) (idE e) e.n).2=0)(u:∀w',PM w' q {s with N:=dN ⟨idE e,e.n,z54.set e.q e.a⟩ s.N}→Ch q.wv w w'→K (.tuple #[]) w'):call Tryz.prog 238 #[pB z,pB b,pB (z+1),pB n] K w:=by
 obtain⟨rk,bW⟩:=hi.tk;obtain⟨af,ho⟩:=qe hm;have a4:=gC hm;have b9:=hi.len30;have I:=h.nd;have hb:=hq;simp only[LB.l,List.mem_cons,List.not_mem_nil,or_false,forall_eq_or_imp,forall_eq]at hb;obtain⟨x,hx⟩:∃x:ND,x=⟨idE e,e.n,z54.set e.q e.a⟩:=⟨_,rfl⟩
 have U:x.id=idE e:=by rw[hx]
 have ba:x.par=e.n:=by rw[hx]
 have a9:x.A=z54.set e.q e.a:=by rw[hx]
 rw[←hx]at u;have a7:∀y∈s.N,y.id≠x.id:=fun y C e' => by
  rw[mF.2 ⟨y,C,e'.trans U⟩]at hn;cases hn
 have a8:=rK hi.srt a7;have e0:iX (tr s.N) (idE e) e.n=(fl (tr s.N) (oG (fun y=>decide (idE e<y.1)) (tr s.N) (tr s.N).length) (idE e,e.n),0):=by
  unfold iX at J ⊢;split at J
  ·cases J
  rename_i g1;rw[if_neg g1];split at J
  ·cases J
  rename_i g2;rw[if_neg g2];split at J
  ·cases J
  rename_i g3;rw[if_neg g3];split at J
  ·cases J
  rename_i g4;rw[if_neg g4]
 have av:∀i:Nat,(fl (tr s.N) i (idE e,e.n)).Perm (tr (dN x s.N)):=fun i=>by
  refine List.perm_middle.trans ?_;rw[List.take_append_drop]
  have:=((Bx (x:=x) (N:=s.N)).map fun y:ND=>(y.id,y.par)).symm
  rw[List.map_cons,U,ba]at this;exact this
 refine aj (goK func238) (Au ?_);refine aw (fun y=>LV y z q e∧blk y b 31 [u6 (idE e)]∧PM y q s) ⟨g.drew,aE.drew,h.drew⟩ ?_;refine ab (fun y C _=>lK (v:=pB q.p) C.1.l rfl) (ab (fun y C _=>ai) (ab (fun y C _=>wF) ?_));refine ab (fun y C _=>lK (v:=pB q.t) C.2.2.b (by rw[Nat.zero_add];exact C.2.2.c18)) <|ab (fun y C _=>lK (v:=u6 (idE e)) C.2.1 rfl) ?_
 refine ab (fun y C _=>eW) (ab (fun y C _=>lK (v:=u6 e.n) C.1.e rfl) ?_);refine Jh bW h.drew.tm (by rw[Ac];omega) fun w1 t1 c1=>?_;have g1:LV w1 z q e:=g.drew.ch c1 (by simp;omega);have i1:=aE.drew.ch c1 (by simp;omega);have k1:=bi.drew.ch c1 (by simp;omega);have b1:=h.drew.b.ch c1 (by simp[LN.pd I]);obtain⟨m1,p1,e1⟩:=h.pm;obtain⟨m2,p2,e2⟩:=h.rm
 have p1:MB u6 u6 w1 q.pm m1:=(p1.kept rfl:MB u6 u6 w.drew q.pm m1).ch c1 (by simp[LN.md I]);have p2:MB u6 rgV w1 q.rm m2:=(p2.kept rfl:MB u6 rgV w.drew q.rm m2).ch c1 (by simp[LN.rd I])
 -- parent
 refine aw (fun y=>LV y z q e∧blk y b 31 [u6 (idE e)]∧blk y q.p 135 (plC q s)) ⟨g1.drew,i1.drew,b1.drew⟩ ?_;refine ab (fun y C _=>lK (v:=pB q.p) C.1.l rfl) (ab (fun y C _=>ai) (ab (fun y C _=>GS) ?_));refine ab (fun y C _=>lK (v:=.map (some q.pm)) C.2.2 (by rw[Nat.zero_add];exact h.c19)) <|ab (fun y C _=>lK (v:=u6 (idE e)) C.2.1 rfl) ?_
 refine ab (fun y C _=>eW) (ab (fun y C _=>lK (v:=u6 e.n) C.1.e rfl) ?_);refine rL u6K underlying129 (p1.kept rfl:MB u6 u6 w1.drew q.pm m1) fun w2 bb O=>?_;have g2:=(g1.drew.oth O (by omega)).drew;have i2:=(O.blk i1.drew (by omega)).drew;have k2:=(O.blk k1.drew (by omega)).drew;have b2:=(O.blk b1.drew (LN.pm I)).drew
 -- own
 refine aH (fun _=>lK (v:=pB q.p) g2.l rfl) (aH (fun _=>lK (v:=iv (e.q:Nat)) k2 rfl) ?_);refine aH (fun _=>ai) (aH (fun _=>GT) (aH (fun _=>ixO rfl af) ?_));refine aH (fun K u=>lK (v:=iv ((gP s.N ((e.q:Nat)+1):Nat):Int)) b2 (by rw[Nat.zero_add];exact h.cO af) u) ?_;have b7:=hi.own ((e.q:Nat)+1);refine aH (v:=iv (((gP s.N ((e.q:Nat)+1):Nat):Int)+1)) (fun _=>aW (by omega) (by omega)) ?_
 refine aH (fun _=>ai) (aH (fun _=>GT) (aH (fun _=>ixO rfl af) ?_));refine eB (fun _=>by kernel_rfl) b2 (by rw[h.len];omega) rfl fun w3 b3 M=>?_;have an:((gP s.N ((e.q:Nat)+1):Nat):Int)+1=((gP (dN x s.N) ((e.q:Nat)+1):Nat):Int):=by
  rw[DM,U,show idE e / M40=e.o from ti (by omega) a4.2.2.2,if_pos ho];push_cast;rfl
 rw[an,Nat.zero_add,h.sO af (N:=dN x s.N) (fun j hj ca=>by
  rw[DM,U,show idE e / M40=e.o from ti (by omega) a4.2.2.2,if_neg (by omega)];rfl)]at b3
 have g3:=g2.oth M (by omega);have i3:=M.blk i2 (by omega);have k3:=M.blk k2 (by omega)
 -- the rights
 refine yz (eT (vs:=z54.map iv) (by kernel_rfl) (vB fun w4 r4 be s4=>ud rfl rfl r4 fun w5 r5 o5=>?_));have b8:=g3.e.lt;have cf:∀k∈q.l,k<w3.heap.size:=fun k hk=>by have:=hq k hk;omega
 have aa:Ch [w3.heap.size] w3 w5:=(Ch.of_below be:Ch [w3.heap.size] w3 w4).trans (Ch.of_oth o5 (by simp):Ch [w3.heap.size] w4 w5) (fun x hx=>.inl hx);have g5:=g3.ch aa (by simp;omega);have i5:=i3.ch aa (by have:=i3.lt;simp;omega);have k5:=k3.ch aa (by have:=k3.lt;simp;omega);have b5:=b3.ch aa (by simp;omega)
 refine lK (v:=iv (e.q:Nat)) k5 rfl (dT (lK (v:=iv e.a) g5.e rfl (sx (ixR rfl af (eB (fun _=>by kernel_rfl) r5 (by simp[z54];omega) rfl fun w6 r6 o6=>?_)))));have r6:blk w6 w3.heap.size 50 (x.A.map iv):=by
  rw[Nat.zero_add]at r6;rw[a9, ←zG];exact r6
 have g6:=g5.oth o6 (by omega);have i6:=o6.blk i5 (by have:=i3.lt;omega);have b6:=o6.blk b5 (by omega);have az:Ch [w3.heap.size] w3 w6:=aa.trans (Ch.of_oth o6 (by simp):Ch [w3.heap.size] w5 w6) (fun x hx=>.inl hx)
 have b4:MB u6 rgV w6 q.rm m2:=(((p2.kept rfl:MB u6 rgV w1.drew q.rm m2).oth O (LN.rm I):MB u6 rgV w2 q.rm m2).oth ⟨M.os,M.tape,M.output,M.size,M.other⟩ (LN.rp I):MB u6 rgV w3 q.rm m2).ch az (by simp;omega);have b0:x.A.length=54:=by rw[a9];simp[z54]
 have bg:(plC q {s with N:=dN x s.N})[20]? = some (.map (some q.rm)):=by
  have h':PM w q {s with N:=s.N}:=h;unfold plC;rw[show 20=6+(6+(6+2))by omega,iP (by simp[h.i6]),iP (by simp[h.l6]),iP (by rw[bQ,h.v6])];rfl
 refine aw (fun y=>LV y z q e∧blk y b 31 [u6 (idE e)]∧blk y q.p 135 (plC q {s with N:=dN x s.N})∧blk y w3.heap.size 50 (x.A.map iv)) ⟨g6.drew,i6.drew,b6.drew,r6.drew⟩ ?_;refine ab (fun y C _=>lK (v:=pB q.p) C.1.l rfl) (ab (fun y C _=>ai) (ab (fun y C _=>kz) ?_))
 refine ab (fun y C _=>lK (v:=.map (some q.rm)) C.2.2.1 (by rw[Nat.zero_add];exact bg)) <|ab (fun y C _=>lK (v:=u6 (idE e)) C.2.1 rfl) <|ab (fun y C _=>pT b0 C.2.2.2) ?_;refine rL (v:=x.A) u6K underlying130 (b4.kept rfl:MB u6 rgV w6.drew q.rm m2) fun w7 bd o7=>?_
 have al:Ch [w3.heap.size,q.rm] w3 w7:=(az.mono (by simp)).trans (Ch.of_oth (F:=[q.rm]) ⟨o7.os,o7.tape,o7.output,o7.size,o7.other⟩ (by simp)) (by simp)
 -- what is elsewhere
 have ce:Ch q.wv w w7:=by
  have a1:Ch q.wv w w1:=((Ch.of_below (Below.refl _ w).drew:Ch q.wv w w.drew).trans c1 (by simp[LB.wv]))
  have a2:Ch q.wv w w2:=a1.trans (Ch.of_oth (F:=[q.pm]) ⟨O.os,O.tape,O.output,O.size,O.other⟩ (by simp)) (by simp[LB.wv]);have a3:Ch q.wv w w3:=a2.trans (Ch.of_oth (F:=[q.p]) ⟨M.os,M.tape,M.output,M.size,M.other⟩ (by simp)) (by simp[LB.wv]);exact a3.trans al (by
   have:=a3.size
   intro y C;simp only[List.mem_cons,List.not_mem_nil,or_false]at C;rcases C with rfl|rfl
   ·exact .inr this
   ·exact .inl (by simp[LB.wv]))
 have ag:∀k,k<w.heap.size→k≠q.tp→k≠q.pm→k≠q.p→k≠q.rm→w7.heap[k]? = w.heap[k]? := fun k hk n1 n2 n3 n4=>by
  have s1:=c1.size;have s1:w.heap.size≤w1.heap.size:=s1;have s2:w2.heap.size=w1.heap.size:=O.size;have s3:w3.heap.size=w2.heap.size:=M.size;rw[al.block k (by omega) (by simp;omega),M.other k n3];show w2.heap[k]? = _;rw[O.other k n2];show w1.heap[k]? = _;rw[c1.block k hk (by simp;omega)];rfl
 have cc:w1.heap.size=w3.heap.size:=by rw[M.size];show _=w2.heap.size;rw[O.size];rfl
 have bk:=h.lt;simp only[LB.l,List.mem_cons,List.not_mem_nil,or_false,forall_eq_or_imp,forall_eq]at bk;have mv:∀k,k≠q.pm→k≠q.p→k≠q.rm→k<w1.heap.size→w7.heap[k]? = w1.heap[k]? := fun k n2 n3 n4 hk=>by
  rw[al.block k (by omega) (by simp;omega),M.other k n3];show w2.heap[k]? = _;rw[O.other k n2];rfl
 obtain⟨mt,pt,et⟩:=t1.mp;have bs:TreeM w7 q.t q.tp (tr (dN x s.N)):=by
  refine⟨?_,⟨mt,pt.kept (mv _ (LN.dm I) (LN.dp I) (LN.dr I) pt.lt),et.trans (by rw[e0];exact av _)⟩,DW a8⟩
  have:=t1.bt
  unfold blk at this ⊢;rw[mv _ (LN.tm I) (LN.tp I) (LN.tr I) t1.bt.lt];exact this
 have aS:dP m1 (idE e)=none:=by
  rw[mQ e1 (DW hi.srt),Cw (DW hi.srt),kh,hn]
 have a0:dP m2 (idE e)=none:=by
  rw[mQ e2 (AI hi.srt),FZ,hn]
 rw[uS aS]at bb;rw[uS a0]at bd;refine u w7 ⟨h.i6,h.l6,h.v6,?_,bs,⟨_,bb.kept ?_,?_⟩,⟨_,bd,?_⟩,?_,?_,h.nd,?_⟩ ce
 ·exact o7.blk b6.drew (LN.pr I)
 ·have bn:q.pm<w3.heap.size:=by omega
  rw[al.block q.pm bn (by simp[LN.mr I];omega),M.other _ (LN.mp I)];rfl
 ·refine(List.perm_append_singleton _ _).trans ((e1.cons _).trans ?_)
  have:=((Bx (x:=x) (N:=s.N)).map fun y:ND=>(y.id,y.par)).symm
  rw[List.map_cons,U,ba]at this;exact this
 ·refine(List.perm_append_singleton _ _).trans ((e2.cons _).trans ?_)
  have:=((Bx (x:=x) (N:=s.N)).map fun y:ND=>(y.id,y.A)).symm
  rw[List.map_cons,U]at this;exact this
 ·obtain⟨m3,p3,e3⟩:=h.gm;exact⟨m3,p3.kept (ag _ p3.lt (LN.gd I) (LN.gm I) (LN.gp I) (LN.gr I)),e3⟩
 ·obtain⟨m4,p4,e4⟩:=h.am;exact⟨m4,p4.kept (ag _ p4.lt (LN.ad I) (LN.am I) (LN.ap I) (LN.ar I)),e4⟩
 ·exact h.kd.keep (ag _ h.kd.lt (LN.zd I) (LN.zm I) (LN.zp I) (LN.zr I))
end
theorem PM.oth {q:LB}{s:PL}(h:PM w q s)(o:Oth b w w')(j:b∉q.l):PM w' q s:=h.keep fun k u _=>o.other k fun e=>j (e ▸ u)
def DoesB (B:Nat)(w':World)(q:LB)(s1:PL)(fv:Value):Prop:=∃X:List Nat,(∀k∈X,B≤k)∧∀(w2:World) (K2:KV),Below w'.heap.size w' w2→(∀w3,PM w3 q s1→Ch (X++q.wv) w2 w3→K2 (.tuple #[]) w3)→bY Tryz.prog fv #[] K2 w2
def Kind (w:World)(q:LB)(s:PL)(e:EV)(K:KV):Prop :=
 (∀w',eU e s≠0→Below w.heap.size w w'→K (.tuple #[.nilFunc,.int .i64 (eU e s)]) w') ∧
 (eU e s=0→∀w' fv,Below w.heap.size w w'→DoesB w.heap.size w' q (qx e s) fv→K (.tuple #[fv,.int .i64 0]) w')
theorem Kind.y {q:LB}{s:PL}{e:EV}(u:Kind w q s e K)(j:eU e s=0)(w':World)(h:Value)(b:Below w.heap.size w w')(d:Uv w' q (qx e s) h):K (.tuple #[h,.int .i64 0]) w':=u.2 j w' h b ⟨[],by simp,d⟩
section
variable {w:World}{K:KV}{q:LB}{s:PL}{e:EV}
theorem TA (h:PM w q s)(hi:PI s)(hm:dK e=true)(hk:e.k=1)(hn:bU s.N (idE e)=false)(kd:Kind w q s e K):call Tryz.prog 229 #[pB q.p,.agg (evC e).toArray] K w:=by
 have ag:=kd.y;obtain⟨no,_⟩:=kd;obtain⟨af,ho⟩:=qe hm;have C:=gC hm;have U:=h.lt;have u:eU e s=if 5≤gP s.N e.o∨M47<e.a then 6 else (iX (tr s.N) (idE e) e.n).2:=by unfold eU;rw[if_pos hk]
 refine aj (goK func229) (BW (LE.make fun w1 J s1=>?_));have J:=J.drew;have p1:=h.below J.bel;refine aw (fun y=>LE w y q e∧PM y q s) ⟨J,p1⟩ ?_;refine ab (fun y I _=>bD) (ab (fun y I _=>lK (v:=iv e.o) I.1.e rfl) ?_);refine ab (fun y I _=>iZ) (ab (fun y I _=>lK (v:=u6 e.s) I.1.e rfl) ?_);refine ab (fun y I _=>bD) (ab (fun y I _=>lK (v:=iv e.o) I.1.e rfl) ?_)
 refine ab (v:=iv (e.q:Nat)) (fun y I K j=>bh (by omega) (by omega) (by rw[show e.o-1=(e.q:Nat)by omega];exact j)) ?_;refine mk6 C.1 C.2.1 C.2.2.1 C.2.2.2 (fun w' b=>⟨J.fresh b,p1.below b⟩) fun w2 bi bk i2 k2 ad zi zk b2=>?_;have z2:w.heap.size+2≤w1.heap.size:=J.sz;have zi:w.heap.size+2≤bi:=Nat.le_trans z2 zi;have zk:w.heap.size+2≤bk:=Nat.le_trans z2 zk;have g2:=J.fresh b2
 have p2:=p1.below b2;refine eB (fun _=>by kernel_rfl) i2 (by simp) rfl fun w3 i3 o3=>?_;have i3:blk w3 bi 31 [u6 (idE e)]:=i3;have g3:=g2.oth o3 zi;have p3:=p2.oth o3 fun hh=>by have:=U _ hh;omega
 have k3:=o3.blk k2 (fun e=>ad e.symm);refine bR ⟨g3,p3⟩ (eB (fun _=>by kernel_rfl) k3 (by simp) rfl fun w4 k4 o4=>?_);have k4:blk w4 bk 3 [iv (e.q:Nat)]:=k4;have i4:=(o4.blk i3 ad).drew;have k4:=k4.drew;have M:=(g3.oth o4 zk).drew;have p4:=(p3.oth o4 fun hh=>by have:=U _ hh;omega).drew;refine aH (fun _=>lK (v:=pB q.p) M.l rfl) (aH (fun _=>lK (v:=iv (e.q:Nat)) k4 rfl) ?_)
 refine aH (fun _=>ai) (aH (fun _=>GT) (aH (fun _=>ixO rfl af) ?_));refine aH (fun K j=>lK (v:=iv ((gP s.N ((e.q:Nat)+1):Nat):Int)) p4.b (by rw[Nat.zero_add];exact p4.cO af) j) ?_;rw[←ho];refine aH (fun _=>bM) ?_;by_cases h5:(5:Int)≤((gP s.N e.o:Nat):Int)
 ·refine jy h5 (aH (fun _=>bO h5) (bu ?_));rw[if_pos (.inl (by omega))]at u
  have:=no _ (by rw[u];decide) M.bel
  rwa[u]at this
 refine dX h5 (aH (fun _=>dT) (aH (fun _=>lK (v:=iv e.a) M.e rfl) (aH (fun _=>de) (aH (fun _=>bw h5) ?_))));by_cases h6:(140737488355328:Int)<e.a
 ·refine ax h6 ?_;rw[if_pos (.inr h6)]at u
  have:=no _ (by rw[u];decide) M.bel
  rwa[u]at this
 rw[if_neg (by simp only[M47];omega)]at u;refine aq h6 (lK (v:=pB q.p) M.l rfl (lK (v:=u6 (idE e)) i4 rfl (eW (lK (v:=u6 e.n) M.e rfl ?_))));refine TT p4 hi fun w5 b5=>bN ?_;have g5:=M.fresh b5;by_cases O:(iX (tr s.N) (idE e) e.n).2≠0
 ·refine ax O ?_
  have:=no _ (by rw[u];exact O) g5.bel
  rwa[u]at this
 have O:(iX (tr s.N) (idE e) e.n).2=0:=by simpa using O
 refine aq (by simp[O]) (ag (by rw[u];exact O) w5 _ g5.bel fun w6 K2 b6 aa=>fM rfl ?_);have p6:=(p4.below b5).below b6;have g6:=g5.fresh b6;rw[Gp hk]at aa;exact RH g6.lv (ac (b5.trans (b6.mono b5.size)) i4 i4.lt) (ac (b5.trans (b6.mono b5.size)) k4 k4.lt) zi zk U p6 hi hm hn O aa
/-! ## A node's rights, put -/
theorem Kr {N:List ND}{ids:List Int}{y:Int}:dP (rgL (N.map (dR ids c x))) y=match bU N y with|true=>some (if y∈ids then (aN N y).set c (nA (aN N y) c+x)else aN N y)|false=>none:=by
 rw[FZ,Hf fun z=>(gV z).1];cases I:bU N y with
 | false=>rfl
 | true =>
  simp only
  congr 1
  unfold aN;rw[List.find?_map];have e:((fun z:ND=>z.id==y) ∘ dR ids c x)=fun z:ND=>z.id==y:=by
   funext z;show ((dR ids c x z).id==y)=_;rw[(gV z).1]
  rw[e];cases u:N.find? fun z=>z.id==y with
  | none =>
   exfalso;obtain⟨z,j,C⟩:=mF.1 I
   have:=List.find?_eq_none.1 u z j
   exact this (by simpa using C)
  | some z =>
   have j:z.id=y:=by simpa using List.find?_some u
   simp only[Option.map_some];by_cases h:y∈ids
   ·rw[if_pos h,sr (by rw[j];exact h)]
   ·rw[if_neg h,qw (by rw[j];exact h)]
theorem Lk {N:List ND}:N.map (dR [] c x)=N:=by
 conv=>rhs;rw[←List.map_id N]
 exact List.map_congr_left fun y _=>qw (by simp)
theorem Wf {N N':List ND}(h:∀o,gP N' o=gP N o):plC q {s with N:=N'} = plC q {s with N:=N}:=by
 unfold plC DL;simp only[h]
theorem PM.put_c {done:List Int}{id:Int}(h:PM w q {s with N:=s.N.map (dR done c x)})(hi:PI s)(aa:id∉done)(hh:bU s.N id=true){A:List Int}(hA:A=(aN s.N id).set c (nA (aN s.N id) c+x))(hK:∀w',PM w' q {s with N:=s.N.map (dR (done++[id]) c x)}→Oth q.rm w w'→K undef w'):dO Tryz.prog 130 (.map (some q.rm)) (u6 id) (rgV A) K w:=by
 have j:=h.nd;obtain⟨m,hm,hp⟩:=h.rm;refine rL u6K underlying130 hm fun U J u=>hK U ?_ u;have C:∀l,(s.N.map (dR l c x)).Pairwise (·.id < ·.id):=fun l=>Dz (fun y=>(gV y).1) hi.srt;have I:(s.N.map (dR (done++[id]) c x)).map (fun y=>(y.id,y.par))=(s.N.map (dR done c x)).map fun y=>(y.id,y.par):=by
  rw[List.map_map,List.map_map];exact List.map_congr_left fun y _=>by
   show ((dR _ _ _ y).id,(dR _ _ _ y).par)=((dR _ _ _ y).id,(dR _ _ _ y).par)
   rw[(gV y).1,(gV y).2,(gV y).1,(gV y).2]
 have I:tr (s.N.map (dR (done++[id]) c x))=tr (s.N.map (dR done c x)):=I;have k:∀k∈q.l,k≠q.rm→U.heap[k]? = w.heap[k]? := fun k _ M=>u.other k M;obtain⟨i6,l6,v6,b,tm,⟨m1,p1,e1⟩,_,⟨m3,p3,e3⟩,⟨m4,p4,e4⟩,_,kd⟩:=h
 refine⟨i6,l6,v6,?_,?_,⟨m1,p1.oth u (LN.mr j),by show m1.Perm (tr _);rw[I];exact e1⟩,⟨_,J,?_⟩,⟨m3,p3.oth u (LN.gr j),e3⟩,⟨m4,p4.oth u (LN.ar j),e4⟩,j,kd.keep (u.other 0 (LN.zr j))⟩
 ·have:=u.blk b (LN.pr j)
  rw[Wf (s:=s) (N:=s.N.map (dR done c x)) (N':=s.N.map (dR (done++[id]) c x)) (fun o=>by rw[DN fun y=>(gV y).1,DN fun y=>(gV y).1])];exact this
 ·have:=tm.oth u (LN.tr j) (LN.dr j)
  show TreeM U q.t q.tp (tr _);rw[I];exact this
 ·refine Ky (vz hm.nodup) (AI (C _)) fun y=>?_;rw[DH,mQ hp (AI (C _)),Kr,Kr];by_cases O:y=id
  ·subst O;rw[if_pos rfl,hh,hA];simp
  ·rw[if_neg O];cases bU s.N y with
   | false=>rfl
   | true=>simp[O]
theorem PM.put1_c {id:Int}(h:PM w q s)(hi:PI s)(C:bU s.N id=true){A:List Int}(j:A=(aN s.N id).set c (nA (aN s.N id) c+x))(u:∀w',PM w' q {s with N:=s.N.map (dR [id] c x)}→Oth q.rm w w'→K undef w'):dO Tryz.prog 130 (.map (some q.rm)) (u6 id) (rgV A) K w:=by
 refine PM.put_c (s:=s) (done:=[]) (c:=c) (x:=x) ?_ hi (by simp) C j u;rw[Lk];exact h
end
end
end Go.Proofs.YtkbhfjljieopoaaGreatDoor
