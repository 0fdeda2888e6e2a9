import Derived.Test.YtgpfkmdknlcemaaGreatDoorQ4
import Derived.Test.YtgpfkmdknlcemaaGreatDoorQ10
import Derived.Test.YtgpfkmdknlcemaaGreatDoorQ6
import Derived.Test.YtgpfkmdknlcemaaGreatDoorQ1
import Derived.Test.YtgpfkmdknlcemaaGreatDoorQ2
import Derived.Test.YtgpfkmdknlcemaaGreatDoorQ7
namespace Go.Proofs.YtgpfkmdknlcemaaGreatDoor
set_option maxRecDepth 100000
set_option maxHeartbeats 4000000
open Tryz
section
attribute [local irreducible] bin un conv call dC blt slc ai fld aU idx lkp eX jl eSt rng nxt ent ext alc box bld dl ld sto bo eS mkS ifc pick rdy wts aJ sti cond bM Gives ae fU gX cOp
section
open Go.RowKit
def Low (a b:Nat)(xs:List Int):Prop:=∀i k,i<a→a≤k→k<b→G xs i<G xs k
theorem Low.rng {a b:Nat}{xs ys:List Int}(h:Low a b xs)(r:Rng a b xs ys)(M:b≤xs.length)(R:xs.Nodup):Low a b ys:=by
 intro i k d I u;obtain⟨j,U,C,J⟩:=r.from M R k I u;rw[r.out i (.inl d),J];exact h i j d U C
section
variable {w w0 w':World}{K:KV}{g n c:Nat}{xs z:List Int}
theorem K8 {a b i s:Nat}{B1:List Value→World→Prop}{ac a1 b2 i7 j8 j9 j10 J X I an ar U ap M al ag V am:Value}{zf:Nat→Value}(e0:ac=.slice (some ⟨g,0,none⟩) n c)(e1:a1=.int .i64 (a:Nat))(e2:b2=.int .i64 (b:Nat))(e7:i7=.int .i64 (i:Nat))(e8:j8=.int .i64 (s:Nat))(hd:SD w g n c z)(ho:Oth g w0 w)(hr:Rng a b xs z)(hs:Srt z a i)(az:a<i)(a2:i<b)(hb:b≤n)(a3:s<5)(Z:∀e w' z,gd e 7=.int .i64 (i:Nat)→gd e 8=.int .i64 ((s:Int)+1)→SD w' g n c z→Oth g w0 w'→Rng a b xs z→Srt z a i→B1 e w'):aW K B1 ((ak ac a1 b2 i7 j8 j9 j10 J X I an ar U ap M al ag V am zf)) w:=by
 subst e0 e1 e2 e7 e8;have hm:n≤4611686018427387904:=by obtain⟨_,_,_,_,hm⟩:=hd;exact hm
 refine oB <|bg (by omega) (by omega) <|cH ?_;by_cases C:(2:Int)≤(b:Int)-i
 rotate_left
 ·refine au C <|gR <|aR (by omega) (by omega) ?_;exact Z _ _ _ rfl rfl hd ho hr hs
 refine ay C <|aR (by omega) (by omega) ?_;rw[tu];refine oC (Inv:=fun j wr=>∃(q:Nat) (z:List Int),j=.int .i64 (q:Nat)∧i+1≤q∧q≤b∧SD wr g n c z∧Oth g w0 wr∧Rng a b xs z∧Srt z a i) (μ:=fun j _=>b-(intOf j).toNat)
  ⟨i+1,z,rfl,Nat.le_refl _,by omega,hd,ho,hr,hs⟩ ?_
 rintro _ _ w1 m1 ⟨q,u,rfl,av,a0,h,o1,r1,s1⟩ R;have lz:=h.len;refine aV ?_;by_cases aS:q<b
 rotate_left
 ·refine au (by omega) <|gR <|aR (by omega) (by omega) ?_;exact Z _ _ _ rfl rfl h o1 r1 s1
 refine ay (by omega) <|aE (fun x=>SD x g n c u) h.drew <|ab (fun x d _=>gZ (by omega)) <|ab (fun x d _=>ldS d (by omega)) <|ab (fun x d _=>bg (by omega) (by omega)) ?_;rw[qL (by omega)];refine ab (fun x d _=>gZ (by omega)) <|ab (fun x d _=>ldS d (by omega)) <|qt <|aE (fun _=>True) trivial <|ab (fun x d _=>rT) ?_;by_cases ad:G u q<G u (q-1)
 rotate_left
 ·refine ay ad <|gR <|aR (by omega) (by omega) ?_;exact Z _ _ _ rfl rfl h.drew (bZ o1) r1 s1
 refine au (by omega) <|aE (fun x=>SD x g n c u) h.drew.drew <|ab (fun x d _=>bg (by omega) (by omega)) <|ab (fun x d _=>bg (by omega) (by omega)) ?_;rw[qL (by omega)];refine AM h.drew.drew (i:=q) (j:=q-1) (by omega) (by omega) ?_;intro w4 d4 o4;refine aR (by omega) (by omega) ?_;have gs:=fun k=>xv (xs:=u) (i:=q) (j:=q-1) (k:=k) (by omega) (by omega)
 refine⟨⟨q+1,_,rfl,by omega,by omega,d4,ct (bZ (bZ o1)) o4,r1.trans (Rng.swp (by omega) (by omega) (by omega) (by omega)),fun k h1 C=>?_⟩,?_⟩
 ·rw[gs,gs,if_neg (by omega),if_neg (by omega),if_neg (by omega),if_neg (by omega)];exact s1 k h1 C
 ·rw[R,tu];simp only[intOf];omega
theorem U1 {a b i s:Nat}{B1:List Value→World→Prop}{ac a1 b2 i7 j8 j9 j10 ar a0 ap a4 an ag a6 ad a3 a2 aS am:Value}{zf:Nat→Value}(e0:ac=.slice (some ⟨g,0,none⟩) n c)(e1:a1=.int .i64 (a:Nat))(e2:b2=.int .i64 (b:Nat))(e7:i7=.int .i64 (i:Nat))(e8:j8=.int .i64 (s:Nat))(hd:SD w g n c z)(ho:Oth g w0 w)(hr:Rng a b xs z)(hs:Srt z a (i-1))(C:a<i)(J:i<b)(hb:b≤n)(M:s<5)(Z:Low a b xs)(hn:xs.Nodup)(hB:∀e w' z,gd e 7=.int .i64 (i:Nat)→gd e 8=.int .i64 ((s:Int)+1)→SD w' g n c z→Oth g w0 w'→Rng a b xs z→Srt z a i→B1 e w'):dy K B1 ((ak ac a1 b2 i7 j8 j9 j10 ar a0 ap a4 an ag a6 ad a3 a2 aS am zf)) w:=by
 subst e0 e1 e2 e7 e8;have hm:n≤4611686018427387904:=by obtain⟨_,_,_,_,hm⟩:=hd;exact hm
 refine ow <|bg (by omega) (by omega) <|cH <|oy ?_;by_cases R:(2:Int)≤(i:Int)-a
 rotate_left
 ·refine au R ?_;exact K8 rfl rfl rfl rfl rfl hd ho hr (fun k u h3=>by omega) C J hb M hB
 refine ay R <|bg (by omega) (by omega) ?_;rw[qL (by omega)];refine oA (Inv:=fun j wr=>∃(q:Nat) (z:List Int),j=.int .i64 (q:Nat)∧a≤q∧q≤i-1∧SD wr g n c z∧Oth g w0 wr∧Rng a b xs z ∧
   (∀k,a≤k→k+1≤i-1→k+1≠q→G z k≤G z (k+1))∧(a<q→q<i-1→G z (q-1)≤G z (q+1))) (μ:=fun j _=>(intOf j).toNat)
  ⟨i-1,z,rfl,by omega,Nat.le_refl _,hd,ho,hr,fun k u R h3=>hs k u (by omega),fun _ h=>by omega⟩ ?_
 rintro _ _ w1 m1 ⟨q,V,rfl,a7,a8,U,o1,r1,s1,x1⟩ av;have lz:=U.len;have d:=r1.len;have X:=Z.rng r1 (by omega) hn;refine cH ?_;by_cases I:0<q
 rotate_left
 ·refine au (by omega) ?_;exact K8 rfl rfl rfl rfl rfl U o1 r1 (fun k u h3=>s1 k u (by omega) (by omega)) C J hb M hB
 refine ay (by omega) <|aE (fun x=>SD x g n c V) U.drew <|ab (fun x d _=>gZ (by omega)) <|ab (fun x d _=>ldS d (by omega)) <|ab (fun x d _=>bg (by omega) (by omega)) ?_;rw[qL I];refine ab (fun x d _=>gZ (by omega)) <|ab (fun x d _=>ldS d (by omega)) <|qt <|aE (fun _=>True) trivial <|ab (fun x d _=>rT) ?_;by_cases al:G V q<G V (q-1)
 rotate_left
 ·refine ay al ?_;refine K8 rfl rfl rfl rfl rfl U.drew (bZ o1) r1 (fun k u h3=>?_) C J hb M hB;by_cases e:k+1=q
  ·rw[e,show k=q-1 by omega];omega
  ·exact s1 k u (by omega) e
 refine au (by omega) ?_;have az:a<q:=by
  rcases Nat.lt_or_ge a q with h|h
  ·exact h
  ·have:=X (q-1) q (by omega) (by omega) (by omega)
   omega
 refine aE (fun x=>SD x g n c V) U.drew.drew <|ab (fun x d _=>bg (by omega) (by omega)) <|ab (fun x d _=>bg (by omega) (by omega)) ?_;rw[qL I];refine AM U.drew.drew (i:=q) (j:=q-1) (by omega) (by omega) ?_;intro w4 d4 o4;refine bg (by omega) (by omega) ?_;rw[qL I];have gs:=fun k=>xv (xs:=V) (i:=q) (j:=q-1) (k:=k) (by omega) (by omega)
 refine⟨⟨q-1,_,rfl,by omega,by omega,d4,ct (bZ (bZ o1)) o4,r1.trans (Rng.swp (by omega) (by omega) (by omega) (by omega)),fun k u R h3=>?_,fun u R=>?_⟩,?_⟩
 ·rw[gs,gs];by_cases i1:k=q-1
  ·subst i1;rw[if_pos rfl,if_neg (by omega),if_pos (by omega)];omega
  by_cases i2:k=q
  ·subst i2;rw[if_neg i1,if_pos rfl,if_neg (by omega),if_neg (by omega)];exact x1 az (by omega)
  by_cases i3:k+1=q-1
  ·omega
  rw[if_neg i1,if_neg i2,if_neg i3,if_neg (by omega)];exact s1 k u R (by omega)
 ·rw[gs,gs];rw[if_neg (by omega),if_neg (by omega),if_neg (by omega),if_pos (by omega)]
  have:=s1 (q-1-1) (by omega) (by omega) (by omega)
  rw[show q-1-1+1=q-1 by omega]at this;exact this
 ·rw[av];simp only[intOf];omega
theorem V8 {a b:Nat}(hd:SD w g n c xs)(al:a<b)(hb:b≤n)(J:Low a b xs)(hn:xs.Nodup)(h:∀w' ys f,SD w' g n c ys→Oth g w w'→Rng a b xs ys→(f=true→Srt ys a b)→K (.bool f) w'):call Tryz.prog 121 #[.slice (some ⟨g,0,none⟩) n c,.int .i64 (a:Nat),.int .i64 (b:Nat)] K w:=by
 have hm:n≤4611686018427387904:=by obtain⟨_,_,_,_,hm⟩:=hd;exact hm
 refine aB (goK func121) (pc ?_);refine aR (by omega) (by omega) ?_;rw[tu];refine oo (Inv:=fun i j _ _ _ _ _ _ _ _ _ _ _ wr=>∃(p s:Nat) (z:List Int),i=.int .i64 (p:Nat)∧j=.int .i64 (s:Nat)∧a+1≤p∧p≤b∧SD wr g n c z∧Oth g w wr∧Rng a b xs z∧Srt z a p)
  (μ:=fun i j _ _ _ _ _ _ _ _ _ _ _ _=>5-(intOf j).toNat) ⟨a+1,0,xs,rfl,rfl,Nat.le_refl _,by omega,hd,kA _ _,Rng.refl _ _ _,fun k R h2=>by omega⟩ ?_
 rintro _ _ _ _ _ _ _ _ _ _ _ _ _ _ w1 m ⟨p,s,z,rfl,rfl,M,C,d,o1,r1,s1⟩ V;have lz:=d.len;refine aV ?_;by_cases ag:s<5
 rotate_left
 ·refine au (by omega) <|ot ?_;exact h _ z false d o1 r1 (fun e=>by cases e)
 refine ay (by omega) <|oq ?_;refine ou (Inv:=fun i _ _ _ _ _ _ _ _ _ _ _ wr=>∃(p:Nat),i=.int .i64 (p:Nat)∧a+1≤p∧p≤b∧SD wr g n c z∧Oth g w wr∧Srt z a p)
  (μ:=fun i _ _ _ _ _ _ _ _ _ _ _ _=>b-(intOf i).toNat) ⟨p,rfl,M,C,d,o1,s1⟩ ?_
 rintro _ _ _ _ _ _ _ _ _ _ _ _ _ w2 m2 ⟨p,rfl,M,C,u,U,s2⟩ Z;refine aa (fun _=>aV) ?_;by_cases ad:p<b
 rotate_left
 ·refine eF (by omega) <|aa (fun _=>bE (by omega)) <|bw <|kq <|bm <|ay (by omega) ?_;refine h _ z true u.drew (bZ U) r1 (fun _=>?_)
  have:p=b:=by omega
  rw[←this];exact s2
 refine dE (by omega) <|aa (fun _=>gZ (by omega)) <|aa (fun _=>ldS u.drew (by omega)) <|aa (fun _=>bg (by omega) (by omega)) ?_;rw[qL (by omega)];refine aa (fun _=>gZ (by omega)) <|aa (fun _=>ldS u.drew (by omega)) <|aa (fun _=>qt) <|aa (fun _=>rT) <|aa (fun _=>bR (by omega)) ?_;by_cases X:G z p<G z (p-1)
 rotate_left
 ·refine ay X <|aR (by omega) (by omega) ?_;refine⟨⟨p+1,rfl,by omega,by omega,u.drew,bZ U,fun k R h2=>?_⟩,by rw[Z,tu];simp only[intOf];omega⟩;by_cases e:k+1=p
  ·rw[e,show k=p-1 by omega];omega
  ·exact s2 k R (by omega)
 refine au (by omega) <|kq <|bm <|au (by omega) <|bg (by omega) (by omega) <|aV ?_;by_cases I:(b:Int)-a<50
 ·refine ay I ?_;exact h _ z false u.drew (bZ U) r1 (fun e=>by cases e)
 refine au I <|aE (fun x=>SD x g n c z) u.drew.drew <|ab (fun x hx _=>bg (by omega) (by omega)) <|ab (fun x hx _=>bg (by omega) (by omega)) ?_;rw[qL (by omega)];refine AM u.drew.drew (i:=p) (j:=p-1) (by omega) (by omega) ?_;intro w4 d4 o4;have gs:=fun k=>xv (xs:=z) (i:=p) (j:=p-1) (k:=k) (by omega) (by omega)
 refine U1 (s:=s) rfl rfl rfl rfl rfl d4 (ct (bZ (bZ U)) o4) (r1.trans (Rng.swp (by omega) (by omega) (by omega) (by omega))) (fun k R h2=>?_) (by omega) ad hb ag J hn ?_
 ·rw[gs,gs,if_neg (by omega),if_neg (by omega),if_neg (by omega),if_neg (by omega)];exact s2 k R (by omega)
 intro e w5 z5 e7 e8 d5 o5 r5 s5;refine⟨⟨p,s+1,z5,e7,by rw[e8,tu],by omega,by omega,d5,o5,r5,s5⟩,?_⟩;show 5-(intOf (gd e 8)).toNat<_;rw[e8,V,tu];simp only[intOf];omega
end
end
section
open Go.RowKit
structure Ots (g:Nat) (w w':World):Prop where
 os:w'.os=w.os
 tape:w'.tape=w.tape
 output:w'.output=w.output
 size:w.heap.size≤w'.heap.size
 other:∀k,k<w.heap.size→k≠g→w'.heap[k]? = w.heap[k]?
theorem Ots.refl (w:World)(g:Nat):Ots g w w:=⟨rfl,rfl,rfl,Nat.le_refl _,fun _ _ _=>rfl⟩
theorem Ots.of_oth {g:Nat}{w w':World}(h:Oth g w w'):Ots g w w':=⟨h.os,h.tape,h.output,by have:=h.size;omega,fun k _ d=>h.other k d⟩
theorem Ots.of_below {g:Nat}{w w':World}(h:Below w.heap.size w w'):Ots g w w':=⟨h.os,h.tape,h.output,h.size,fun k d _=>h.block k d⟩
theorem Ots.trans {g:Nat}{a b c:World}(h:Ots g a b)(k:Ots g b c):Ots g a c :=
 ⟨k.os.trans h.os,k.tape.trans h.tape,k.output.trans h.output,Nat.le_trans h.size k.size,fun i hi d=>(k.other i (by have:=h.size;omega) d).trans (h.other i hi d)⟩
theorem Ots.drew {g:Nat}{w w':World}(h:Ots g w w'):Ots g w w'.drew:=⟨h.os,h.tape,h.output,h.size,h.other⟩
theorem Ots.new {g p:Nat}{a b c:World}(h:Ots g a b)(k:Oth p b c)(j:a.heap.size≤p):Ots g a c :=
 ⟨k.os.trans h.os,k.tape.trans h.tape,k.output.trans h.output,by have:=h.size;have:=k.size;omega,fun i hi d=>(k.other i (by omega)).trans (h.other i hi d)⟩
theorem Ots.below {g B:Nat}{w w':World}(h:Ots g w w')(u:B≤g)(j:B≤w.heap.size):Below B w w':=⟨h.os,h.tape,h.output,h.size,fun k d=>h.other k (by omega) (by omega)⟩
theorem SD.oth {w w':World}{g n c p:Nat}{xs:List Int}(h:SD w g n c xs)(o:Oth p w w')(d:p≠g):SD w' g n c xs:=by
 obtain⟨rest,j,u⟩:=h;exact⟨rest,o.blk j (fun e=>d e.symm),u⟩
theorem SD.below {w w':World}{g n c:Nat}{xs:List Int}(h:SD w g n c xs)(o:Below w.heap.size w w'):SD w' g n c xs:=by
 obtain⟨rest,d,j⟩:=h;exact⟨rest,af o d d.lt,j⟩
theorem SD.lt {w:World}{g n c:Nat}{xs:List Int}(h:SD w g n c xs):g<w.heap.size:=by
 obtain⟨rest,d,j⟩:=h;exact d.lt
/-! ## The length in bits -/
def V9 (l:List UInt8):Bool:=(List.range 256).all fun i=>i==0 || decide (2 ^ (l.getD i 0).toNat≤2*i)
section
variable {P:Program}{w:World}{K:KV}{t:TypeId}
theorem Su (j:P.underlying t=some .string){l:List UInt8}(I:l.length=256)(d:V9 l=true){k:IntKind}{i:Nat}(M:1≤i)(hi:i<256)(h:∀r:Nat,r<64→2 ^ r≤2*i→K (.int .u8 (r:Int)) w):idx P t (.string (re l)) (.int k (i:Nat)) K w:=by
 have u:2 ^ (l.getD i 0).toNat≤2*i:=by
  have:=(List.all_eq_true.1 d) i (List.mem_range.2 hi)
  simp only[Bool.or_eq_true,beq_iff_eq,decide_eq_true_eq]at this;rcases this with h|h
  ·omega
  ·exact h
 have C:(l.getD i 0).toNat<64:=by
  rcases Nat.lt_or_ge (l.getD i 0).toNat 64 with h|h
  ·exact h
  ·have:2 ^ 64≤2 ^ (l.getD i 0).toNat:=Nat.pow_le_pow_right (by omega) h
   omega
 refine Pg (w':=w) (v:=.int .u8 ((l.getD i 0).toNat:Int)) ?_ (h _ C u);have J:(re l).size=256:=by simp[re,ByteArray.size,I]
 have e:(re l)[i]? = some (l.getD i 0):=by
  rw[getElem?_pos (re l) i (by omega)]
  congr 1
  simp[re,ByteArray.getElem_eq_getElem_data,List.getD,show i<l.length by omega]
 simp[Instr.index,asIntOf,run_underlying j,e]
end
theorem U2 {x:Int}{m:Nat}(d:m<18446744073709551616):∃r:Nat,sH .and .u64 x (m:Nat)=(r:Int)∧r≤m:=by
 refine⟨(BitVec.ofInt 64 x &&& BitVec.ofInt 64 (m:Int)).toNat,?_,?_⟩
 ·unfold sH;have h:IntKind.u64.bits=64:=rfl;show IntKind.u64.wrap ((BitVec.ofInt 64 x &&& BitVec.ofInt 64 (m:Int)).toNat:Int)=_;rw[hZ]
  have:=(BitVec.ofInt 64 x &&& BitVec.ofInt 64 (m:Int)).isLt
  omega
 ·rw[BitVec.toNat_and,BitVec.ofInt_natCast,BitVec.toNat_ofNat,Nat.mod_eq_of_lt (a:=m) (by omega)];exact Nat.and_le_right
section
variable {w w0 w':World}{K:KV}{g n c:Nat}{xs:List Int}
theorem U3 (j:1≤n)(u:n<256)(h:∀r:Nat,r<64→2 ^ r≤2*n→K (.int .i64 (r:Int)) w):call Tryz.prog 44 #[.int .u64 (n:Nat)] K w:=by
 refine aB (goK func44) (yp ?_)
 (repeat (first|refine bw ?_))
 refine aB (goK func73) (vY ?_)
 (repeat (first|refine uF ?_|refine uE ?_|refine uH ?_|refine uG ?_|refine uJ ?_|refine uI ?_|refine cH ?_|refine au (by omega) ?_))
 refine eK underlying24 underlying5 ?_;rw[Me,show ((n:Nat):Int)%256=(n:Nat)by omega];refine Su underlying9 rfl (by decide +kernel) j u ?_;intro b C d;refine eK underlying5 underlying3 ?_;rw[dP (by omega) (by omega)]
 (repeat (first|refine aR (by omega) (by omega) ?_))
 have:=h b C d
 rwa[Int.zero_add]
theorem U4 (u:1≤n)(C:n<256)(h:∀m:Nat,1≤m→m≤2*n→K (.int .u64 (m:Int)) w):call Tryz.prog 97 #[.int .i64 (n:Nat)] K w:=by
 refine aB (goK func97) (yb ?_);refine eK underlying3 underlying128 ?_;rw[hZ,show ((n:Nat):Int)%18446744073709551616=(n:Nat)by omega];refine U3 u C ?_;intro r J d;refine AA (by omega) ?_;have j:0<2 ^ r:=Nat.two_pow_pos r;have e:IntKind.u64.wrap (1*2 ^ (min ((r:Int).toNat) IntKind.u64.bits))=((2 ^ r:Nat):Int):=by
  have I:IntKind.u64.bits=64:=rfl;rw[I,show min ((r:Int).toNat) 64=r by omega,Int.one_mul,hZ];have e2:(2:Int) ^ r=((2 ^ r:Nat):Int):=by simp
  rw[e2];omega
 rw[e];exact h _ j d
theorem Sv {p:Nat}{x:Int}(j:blk w p 171 [.int .u64 x])(h:∀w' y,blk w' p 171 [.int .u64 y]→Oth p w w'→K (.int .u64 y) w'):call Tryz.prog 98 #[.pointer (some ⟨p,0,none⟩)] K w:=by
 have I:∀w,(sizeOf 171).run Tryz.prog w=.ok 1 w:=fun _=>by kernel_rfl
 have d:∀w,(isAgg 171).run Tryz.prog w=.ok false w:=fun _=>by kernel_rfl
 refine aB (goK func98) (zw ?_);refine aa (fun _=>aw) <|aa (fun _=>ld1 d j rfl) <|aa (fun _=>aw) <|aa (fun _=>ld1 d j rfl) <|aa (fun _=>AA (by omega)) <|aa (fun _=>HE) <|aa (fun _=>aw) <|dY I j.drew (by simp) rfl ?_;intro Z C M
 refine aa (fun _=>aw) <|aa (fun _=>ld1 d C rfl) <|aa (fun _=>aw) <|aa (fun _=>ld1 d C rfl) <|aa (fun _=>Mh (by omega)) <|aa (fun _=>HE) <|aa (fun _=>aw) <|dY I C.drew (by simp) rfl ?_;intro X u V;refine aa (fun _=>aw) <|aa (fun _=>ld1 d u rfl) <|aa (fun _=>aw) <|aa (fun _=>ld1 d u rfl) <|aa (fun _=>AA (by omega)) <|aa (fun _=>HE) <|aa (fun _=>aw) <|dY I u.drew (by simp) rfl ?_
 intro U J R;refine aw <|ld1 d J rfl ?_;exact h U _ J (ct (ct (bZ (kA _ _)) (ct M (bZ (kA _ _)))) (ct V (ct (bZ (kA _ _)) R)))
theorem U5 {a b:Nat}(Z:SD w g n c xs)(X:a≤b)(hb:b≤n)(hn:n<256)(h:∀w' ys,SD w' g n c ys→Ots g w w'→Rng a b xs ys→K (.tuple #[]) w'):call Tryz.prog 118 #[.slice (some ⟨g,0,none⟩) n c,.int .i64 (a:Nat),.int .i64 (b:Nat)] K w:=by
 refine aB (goK func118) (qN ?_);refine bg (by omega) (by omega) ?_;rw[KT X];refine cH ?_;by_cases h8:8≤b-a
 rotate_left
 ·refine au (by omega) ?_;exact h _ xs Z (Ots.refl _ _) (Rng.refl _ _ _)
 refine ay (by omega) <|eK underlying3 underlying171 <|dH (z:=.int .u64 0) (by kernel_rfl) ?_;intro w1 ar b1 s1;have ap:=Z.below b1;have az:=Z.lt;refine dY (fun _=>by kernel_rfl) ar (by simp[Value.cells]) rfl ?_;intro w2 d o2;have R:=ap.oth o2 (by omega);have d:blk w2 w.heap.size 171 [.int .u64 (IntKind.u64.wrap ((b-a:Nat):Int))]:=d;refine U4 (by omega) (by omega) ?_;intro m aS a2
 refine Gu (by omega) (by omega) (by omega) <|Eb (by omega) (by omega) <|aR (by omega) (by omega) <|bg (by omega) (by omega) ?_;have t2:Ots g w w2:=(Ots.of_below b1).new o2 (Nat.le_refl _);refine qo (Inv:=fun i wr=>∃(q:Nat) (x:Int) (z:List Int),i=.int .i64 (q:Nat)∧(a≤q)∧SD wr g n c z∧blk wr w.heap.size 171 [.int .u64 x]∧Ots g w wr∧Rng a b xs z) (μ:=fun i _=>b-(intOf i).toNat)
  ⟨a+(b-a) / 4*2-1,_,xs,by congr 1;omega,by omega,R,d,t2,Rng.refl _ _ _⟩ ?_
 rintro _ _ w3 m3 ⟨q,x,z,rfl,hq,u,ag,t3,r3⟩ av;have lz:=u.len;refine Gu (by omega) (by omega) (by omega) <|Eb (by omega) (by omega) <|aR (by omega) (by omega) <|aR (by omega) (by omega) <|ir ?_;by_cases C:(q:Int)≤(a:Int)+((b-a:Nat):Int) / 4*2+1
 rotate_left
 ·refine au C ?_;exact h _ z u t3 r3
 refine ay C <|Sv ag ?_;intro w4 y ad o4;have I:=u.oth o4 (by omega);have t4:=t3.new o4 (Nat.le_refl _);refine kg ?_;rw[hZ,show ((m:Int)-1)%18446744073709551616=((m-1:Nat):Int)by omega];refine SU ?_;obtain⟨r,V,a0⟩:=U2 (x:=y) (m:=m-1) (by omega);rw[V];refine eK underlying128 underlying3 ?_;rw[dP (by omega) (by omega)];refine cH <|qp ?_
 have go:∀(o:Nat) {B1:List Value→World→Prop} {ac a1 b2 ko lE li qj kK am:Value} {zf:Nat→Value},o<b-a→ac=.slice (some ⟨g,0,none⟩) n c→a1=.int .i64 (a:Nat)→qj=.int .i64 (q:Nat)→kK=.int .i64 (o:Nat) →
   (∀e w',gd e 9=.int .i64 ((q+1:Nat):Int)→SD w' g n c (swp z q (a+o))→Oth g w4 w'→B1 e w')→bX K B1 ((bC ac a1 b2 ko lE li qj kK am zf)) w4:=by
  intro o
  intros
  rename_i ho e0 e1 M al hB;subst e0 e1 M al;refine qq <|aE (fun x=>SD x g n c z) I.drew <|ab (fun x hx _=>aR (by omega) (by omega)) <|ab (fun x hx _=>aR (by omega) (by omega)) ?_;rw[wL];refine AM I.drew (i:=q) (j:=a+o) (by omega) (by omega) ?_;intro w5 U o5;refine qr <|aR (by omega) (by omega) ?_;rw[tu];exact hB _ _ rfl U (ct (bZ (kA _ _)) o5)
 have J:∀(o:Nat),o<b-a→∀e w',gd e 9=.int .i64 ((q+1:Nat):Int)→SD w' g n c (swp z q (a+o))→Oth g w4 w'→(∃(q:Nat) (x:Int) (z:List Int),gd e 9=.int .i64 (q:Nat)∧(a≤q)∧SD w' g n c z∧blk w' w.heap.size 171 [.int .u64 x]∧Ots g w w'∧Rng a b xs z)∧b-(intOf (gd e 9)).toNat<m3:=by
  intro o ho e w5 M U o5;refine⟨⟨q+1,y,_,M,by omega,U,o5.blk ad (by omega),t4.trans (Ots.of_oth o5),r3.trans (Rng.swp (by omega) (by omega) (by omega) (by omega))⟩,?_⟩;rw[M,av];simp only[intOf];omega
 by_cases an:b-a≤r
 ·refine ay (by omega) <|bg (by omega) (by omega) ?_;rw[KT an];exact go (r-(b-a)) (by omega) rfl rfl rfl rfl (J _ (by omega))
 ·refine au (by omega) ?_;exact go r (by omega) rfl rfl rfl rfl (J _ (by omega))
/-! ## The pivot -/
abbrev I64 :TypeId:=3
theorem Fa {p i j:Nat}{s:Int}(I:SD w g n c xs)(R:blk w p I64 [.int .i64 s])(M:p≠g)(hi:i<n)(U:j<n)(h:∀w' x y s',(x=i∨x=j)→(y=i∨y=j)→SD w' g n c xs→blk w' p I64 [.int .i64 s']→Oth p w w'→K (.tuple #[.int .i64 (x:Nat),.int .i64 (y:Nat)]) w'):call Tryz.prog 134 #[.slice (some ⟨g,0,none⟩) n c,.int .i64 (i:Nat),.int .i64 (j:Nat),.pointer (some ⟨p,0,none⟩)] K w:=by
 refine aB (goK func134) (uh ?_);refine aE (fun x=>SD x g n c xs) I.drew <|ab (fun x C _=>gZ U) <|ab (fun x C _=>ldS C U) <|ab (fun x C _=>gZ hi) <|ab (fun x C _=>ldS C hi) <|qt ?_;by_cases u:G xs j<G xs i
 ·refine ay u <|aw <|lK (v:=.int .i64 s) R.drew rfl <|kf <|aw <|dY (fun _=>by kernel_rfl) R.drew (by simp) rfl ?_;intro X J V;have d:=ct (bZ (kA w p)) V;exact h _ j i _ (.inr rfl) (.inl rfl) (I.oth d M) J d
 ·refine au u ?_;exact h _ i j s (.inl rfl) (.inr rfl) I.drew R.drew (bZ (kA _ _))
theorem K9 {p i j k:Nat}{s:Int}(hd:SD w g n c xs)(V:blk w p I64 [.int .i64 s])(d:p≠g)(hi:i<n)(hj:j<n)(M:k<n)(h:∀w' x s',(x=i∨x=j∨x=k)→SD w' g n c xs→blk w' p I64 [.int .i64 s']→Oth p w w'→K (.int .i64 (x:Nat)) w'):call Tryz.prog 133 #[.slice (some ⟨g,0,none⟩) n c,.int .i64 (i:Nat),.int .i64 (j:Nat),.int .i64 (k:Nat),.pointer (some ⟨p,0,none⟩)] K w:=by
 refine aB (goK func133) (ug ?_);refine Fa hd V d hi hj ?_;intro w1 x1 y1 s1 ad Z X R o1;refine eB <|eC <|Fa X R d (by omega) M ?_;intro w2 x2 y2 s2 u I d2 p2 o2;refine eB <|eC <|Fa d2 p2 d (by omega) (by omega) ?_;intro w3 x3 J s3 ag U d3 C o3;refine eB <|eC ?_;exact h _ J s3 (by omega) d3 C (ct (ct o1 o2) o3)
theorem Ka {p i:Nat}{s:Int}(j:SD w g n c xs)(I:blk w p I64 [.int .i64 s])(d:p≠g)(V:1≤i)(hi:i+1<n)(M:n<256)(h:∀w' x s',i-1≤x→x≤i+1→SD w' g n c xs→blk w' p I64 [.int .i64 s']→Oth p w w'→K (.int .i64 (x:Nat)) w'):call Tryz.prog 132 #[.slice (some ⟨g,0,none⟩) n c,.int .i64 (i:Nat),.pointer (some ⟨p,0,none⟩)] K w:=by
 refine aB (goK func132) (qG ?_);refine bg (by omega) (by omega) ?_;rw[qL (by omega)];refine aR (by omega) (by omega) ?_;rw[tu];refine K9 j I d (by omega) (by omega) (by omega) ?_;intro R x s1 U J C u;exact h _ x s1 (by omega) (by omega) J C u
theorem U6 {a b:Nat}(hd:SD w g n c xs)(ap:a+8≤b)(hb:b≤n)(J:n<256)(h:∀w' (p:Nat) (u:Int),a≤p→p<b→SD w' g n c xs→Ots g w w'→K (.tuple #[.int .i64 (p:Nat),.int .i64 u]) w'):call Tryz.prog 119 #[.slice (some ⟨g,0,none⟩) n c,.int .i64 (a:Nat),.int .i64 (b:Nat)] K w:=by
 refine aB (goK func119) (rH ?_);refine bg (by omega) (by omega) ?_;rw[KT (by omega)];refine dH (z:=.int .i64 0) (by kernel_rfl) ?_;intro w1 d b1 s1;have j:=hd.below b1;have an:=hd.lt;have d:blk w1 w.heap.size I64 [.int .i64 0]:=d;obtain⟨l,hl⟩:∃l,b-a=l:=⟨_,rfl⟩
 rw[hl];obtain⟨q,hq⟩:∃q,l / 4=q:=⟨_,rfl⟩
 have Z:((l:Nat):Int) / 4=(q:Nat):=by omega
 have U:∀{K':KV} {t:TypeId} {cx cy:Bool},K' (.int .i64 (q:Nat)) w1→bin Tryz.prog .quo t cx cy (.int .i64 (l:Nat)) (.int .i64 4) K' w1:=by
  intro K' t cx cy hK;refine Gu (by omega) (by omega) (by omega) ?_;rw[Z];exact hK
 refine U <|Eb (by omega) (by omega) ?_;rw[show ((q:Nat):Int)*1=((q*1:Nat):Int)by omega];refine aR (by omega) (by omega) ?_;rw[wL];refine U <|Eb (by omega) (by omega) ?_;rw[show ((q:Nat):Int)*2=((q*2:Nat):Int)by omega];refine aR (by omega) (by omega) ?_;rw[wL];refine U <|Eb (by omega) (by omega) ?_;rw[show ((q:Nat):Int)*3=((q*3:Nat):Int)by omega];refine aR (by omega) (by omega) ?_;rw[wL]
 refine qP <|cH <|qR <|ay (by omega) <|cH <|qT ?_;have go:∀{w2:World} {s2:Int} (x y z:Nat) {ac a1 b2 l8 dt i10 j11 im ag ad:Value} {zf:Nat→Value},a≤x∧x<b→a≤y∧y<b→a≤z∧z<b→SD w2 g n c xs→blk w2 w.heap.size I64 [.int .i64 s2]→Ots g w w2 →
   ac=.slice (some ⟨g,0,none⟩) n c→i10=.int .i64 (x:Nat)→j11=.int .i64 (y:Nat)→im=.int .i64 (z:Nat)→dt=.pointer (some ⟨w.heap.size,0,none⟩)→cv K ((aA ac a1 b2 l8 dt i10 j11 im ag ad zf)) w2:=by
  intro w2 s2 x y z
  intros
  rename_i hx hy hz d2 p2 t2 e0 R e11 M e9;subst e0 R e11 M e9;refine qX <|K9 d2 p2 (by omega) (by omega) (by omega) (by omega) ?_;intro w3 v s3 hv C X I;have V:=t2.new I (Nat.le_refl _);refine qV <|lK (v:=.int .i64 s3) X rfl <|bm ?_;refine CR (fun _=>h _ v _ (by omega) (by omega) C V) (fun _=>?_);refine bm ?_
  exact CR (fun _=>h _ v _ (by omega) (by omega) C V) (fun _=>h _ v _ (by omega) (by omega) C V)
 by_cases am:50≤l
 ·refine ay (by omega) <|Ka j d (by omega) (by omega) (by omega) J ?_;intro w2 x s2 ar av d2 p2 o2;refine Ka d2 p2 (by omega) (by omega) (by omega) J ?_;intro w3 y s3 aS al C X I;refine Ka C X (by omega) (by omega) (by omega) J ?_;intro w4 z s4 az a0 d4 p4 o4
  exact go x y z (by omega) (by omega) (by omega) d4 p4 ((((Ots.of_below b1).new o2 (Nat.le_refl _)).new I (Nat.le_refl _)).new o4 (Nat.le_refl _)) rfl rfl rfl rfl rfl
 ·refine au (by omega) ?_;exact go _ _ _ (by omega) (by omega) (by omega) j d (Ots.of_below b1) rfl rfl rfl rfl rfl
end
end
section
open Go.RowKit Go.ChangeMaps
section
variable {P:Program}{w:World}{K:KV}{t:TypeId}
theorem Sw (d:P.underlying t=some .string){s:ByteArray}{k:IntKind}{i:Nat}(hi:i<s.size)(h:∀b:Nat,b<256→K (.int .u8 (b:Int)) w):idx P t (.string s) (.int k (i:Nat)) K w:=by
 refine Pg (w':=w) (v:=.int .u8 (s[i].toNat:Int)) ?_ (h _ (UInt8.toNat_lt _));have e:s[i]? = some s[i]:=getElem?_pos s i hi;simp[Instr.index,asIntOf,run_underlying d,e]
end
section
variable {w:World}{K:KV}{g n c:Nat}{xs:List Int}
theorem Oo (d:n<256)(h:∀r:Nat,r<256→K (.int .i64 (r:Int)) w):call Tryz.prog 44 #[.int .u64 (n:Nat)] K w:=by
 refine aB (goK func44) (yp ?_)
 (repeat (first|refine bw ?_))
 refine aB (goK func73) (vY ?_)
 (repeat (first|refine uF ?_|refine uE ?_|refine uH ?_|refine uG ?_|refine uJ ?_|refine uI ?_|refine cH ?_|refine au (by omega) ?_))
 refine eK underlying24 underlying5 ?_;rw[Me,show ((n:Nat):Int)%256=(n:Nat)by omega];refine Sw underlying9 (by exact d) ?_;intro b j;refine eK underlying5 underlying3 ?_;rw[dP (by omega) (by omega)]
 (repeat (first|refine aR (by omega) (by omega) ?_))
 have:=h b j
 rwa[Int.zero_add]
end
end
section
open Go.RowKit
theorem Vy {xs:List Int}(C:xs.Nodup){i k:Nat}(hi:i<xs.length)(d:k<xs.length)(h:i≠k):G xs i≠G xs k:=by
 have e1:G xs i=xs[i]:=by simp[G,List.getD,hi]
 have e2:G xs k=xs[k]:=by simp[G,List.getD,d]
 rw[e1,e2];have j:=List.pairwise_iff_getElem.1 C;rcases Nat.lt_or_ge i k with u|u
 ·exact j i k hi d u
 ·exact fun e=>j k i d hi (by omega) e.symm
theorem Srt.join {ys:List Int}{a b m:Nat}(h:Srt ys a m)(d:Srt ys (m+1) b)(lo:∀k,a≤k→k<m→G ys k≤G ys m)(j:∀k,m<k→k<b→G ys m≤G ys k):Srt ys a b:=by
 intro i hi u;by_cases e1:i+1<m
 ·exact h i hi e1
 by_cases e2:i+1=m
 ·rw[e2];exact lo i hi (by omega)
 by_cases e3:i=m
 ·rw[e3];exact j (m+1) (by omega) (by omega)
 ·exact d i (by omega) u
structure NX (a b:Nat) (z:List Int) (a2 b2:Nat) (z2:List Int):Prop where
 le:a2≤b2
 ha:a≤a2
 hb:b2≤b
 lt:b2-a2<b-a
 rng:Rng a b z z2
 low:Low a2 b2 z2
 fin:∀ys,Rng a2 b2 z2 ys→Srt ys a2 b2→Rng a b z ys∧Srt ys a b
section
variable {a b m:Nat}{z z2 z3:List Int}
theorem PR.lowL (q:PR z2 a b m)(j:Low a b z2):Low a m z2:=fun i k h d u=>j i k h d (by have:=q.hm;omega)
theorem PR.lowR (q:PR z2 a b m)(j:Low a b z2)(h:z2.Nodup)(M:b≤z2.length):Low (m+1) b z2:=by
 intro i k I C d;have J:=q.hm;by_cases e1:i<a
 ·exact j i k e1 (by omega) d
 have u:=q.up k (by omega) d;by_cases e2:i=m
 ·subst e2
  have:=Vy h (i:=i) (k:=k) (by omega) (by omega) (by omega)
  omega
 ·have:=q.lo i (by omega) (by omega)
  omega
theorem Sx (r : Rng a b z z2) (q : PR z2 a b m) (hl : Low a b z) (hn : z.Nodup) (hb : b ≤ z.length) (r3 : Rng a m z2 z3) (s3 : Srt z3 a m) : NX a b z (m + 1) b z3 := by
  have hm := q.hm
  have hn2 : z2.Nodup := r.perm.nodup_iff.2 hn
  have hl2 := r.len
  have hl3 := r3.len
  have hn3 : z3.Nodup := r3.perm.nodup_iff.2 hn2
  have lo3 : ∀ k, a ≤ k → k < m → G z3 k < G z2 m := by
    intro k h1 h2
    obtain ⟨j, j1, j2, j3⟩ := r3.from (by omega) hn2 k h1 h2
    rw [j3]; exact q.lo j j1 j2
  have em : G z3 m = G z2 m := r3.out m (by omega)
  have low2 := hl.rng r hb hn
  have low3 := low2.rng (r3.mono (c := a) (d := b) (by omega) (by omega)) (by omega) hn2
  refine ⟨by omega, by omega, by omega, by omega, r.trans (r3.mono (by omega) (by omega)), ?_, fun ys ry sy => ⟨(r.trans (r3.mono (by omega) (by omega))).trans (ry.mono (by omega) (by omega)), Srt.join (m := m) ?_ sy ?_ ?_⟩⟩
  · refine PR.lowR ⟨hm, fun k h1 h2 => by rw [em]; exact lo3 k h1 h2, fun k h1 h2 => ?_⟩ low3 hn3 (by omega)
    rw [em, r3.out k (by omega)]; exact q.up k h1 h2
  · intro i h1 h2
    rw [ry.out i (by omega), ry.out (i + 1) (by omega)]; exact s3 i h1 h2
  · intro k h1 h2
    rw [ry.out k (by omega), ry.out m (by omega), em]
    have := lo3 k h1 h2; omega
  · intro k h1 h2
    obtain ⟨j, j1, j2, j3⟩ := ry.from (by omega) hn3 k (by omega) h2
    rw [ry.out m (by omega), em, j3, r3.out j (by omega)]
    exact q.up j (by omega) j2
theorem Qu (r : Rng a b z z2) (q : PR z2 a b m) (hl : Low a b z) (hn : z.Nodup) (hb : b ≤ z.length) (r3 : Rng (m + 1) b z2 z3) (s3 : Srt z3 (m + 1) b) : NX a b z a m z3 := by
  have hm := q.hm
  have hn2 : z2.Nodup := r.perm.nodup_iff.2 hn
  have hl2 := r.len
  have hl3 := r3.len
  have hn3 : z3.Nodup := r3.perm.nodup_iff.2 hn2
  have em : G z3 m = G z2 m := r3.out m (by omega)
  have low2 := hl.rng r hb hn
  have low3 := low2.rng (r3.mono (c := a) (d := b) (by omega) (by omega)) (by omega) hn2
  refine ⟨by omega, by omega, by omega, by omega, r.trans (r3.mono (by omega) (by omega)), fun i k h1 h2 h3 => low3 i k h1 h2 (by omega), fun ys ry sy => ⟨(r.trans (r3.mono (by omega) (by omega))).trans (ry.mono (by omega) (by omega)), Srt.join (m := m) sy ?_ ?_ ?_⟩⟩
  · intro i h1 h2
    rw [ry.out i (by omega), ry.out (i + 1) (by omega)]; exact s3 i h1 h2
  · intro k h1 h2
    obtain ⟨j, j1, j2, j3⟩ := ry.from (by omega) hn3 k h1 h2
    rw [ry.out m (by omega), em, j3, r3.out j (by omega)]
    have := q.lo j j1 j2; omega
  · intro k h1 h2
    rw [ry.out k (by omega), ry.out m (by omega), em]
    obtain ⟨j, j1, j2, j3⟩ := r3.from (by omega) hn2 k (by omega) h2
    rw [j3]
    exact q.up j (by omega) j2
end
def Kb (d g n c:Nat):Prop:=∀{a b:Nat} {lm:Int} {z:List Int} {w:World} {K:KV},b-a<d→SD w g n c z→a≤b→b≤n→z.Nodup→Low a b z→(∀w' ys,SD w' g n c ys→Ots g w w'→Rng a b z ys→Srt ys a b→K (.tuple #[]) w') →
 call Tryz.prog 95 #[.slice (some ⟨g,0,none⟩) n c,.int .i64 (a:Nat),.int .i64 (b:Nat),.int .i64 lm] K w
def Nj (g n c:Nat)(w0:World)(a b:Nat)(z:List Int)(B1:List Value→World→Prop):Prop:=∀(e:List Value) (w':World) (a2 b2:Nat) (lm:Int) (wb wp:Bool) (z2:List Int),
 gd e 1=.int .i64 (a2:Nat)→gd e 2=.int .i64 (b2:Nat)→gd e 3=.int .i64 lm→gd e 8=.bool wb→gd e 9=.bool wp→SD w' g n c z2→Ots g w0 w'→NX a b z a2 b2 z2→B1 e w'
section
variable {w w0 w':World}{K:KV}{g n c:Nat}{xs z:List Int}
theorem Oq {a b p:Nat}{lm:Int}{wb wp:Bool}{B1:List Value→World→Prop}{ac a1 b2 bh a5 aG aC aX ba bO br aj X a0 az M U aS R av al am ar V an a2 ap J Z:Value}{zf:Nat→Value}(e0:ac=.slice (some ⟨g,0,none⟩) n c)(e1:a1=.int .i64 (a:Nat))(e2:b2=.int .i64 (b:Nat))(e3:bh=.int .i64 lm)(e8:aG=.bool wb)(e9:aC=.bool wp)(ad:aX=.int .i64 ((b-a:Nat):Int))(e11:ba=.int .i64 (p:Nat))(hd:SD w g n c z)(ho:Ots g w0 w)(hr:Rng a b xs z)(a4:a≤p)(a6:p<b)(hb:b≤n)(d:Low a b xs)(hn:xs.Nodup)(C:Kb (b-a) g n c)(hB:Nj g n c w0 a b xs B1):dx K B1 ((ah ac a1 b2 bh a5 aG aC aX ba bO br aj X a0 az M U aS R av al am ar V an a2 ap J Z zf)) w:=by
 subst e0 e1 e2 e3 e8 e9 ad e11;have hm:n≤4611686018427387904:=by obtain⟨_,_,_,_,hm⟩:=hd;exact hm
 have lz:=hd.len;have bb:=hr.len;have a3:=d.rng hr (by omega) hn;refine tf <|aa (fun _=>cB) ?_;have rest:∀{w2:World} {K2:KV},SD w2 g n c z→(∀w' ys m f,SD w' g n c ys→Oth g w2 w'→Rng a b xs ys→PR ys a b m→K2 (.tuple #[.int .i64 (m:Nat),.bool f]) w') →
   call Tryz.prog 124 #[.slice (some ⟨g,0,none⟩) n c,.int .i64 (a:Nat),.int .i64 (b:Nat),.int .i64 (p:Nat)] K2 w2:=by
  intro w2 K2 d2 h2;exact Uw d2 a4 a6 hb (fun w' ys m f h3 h4 h5 h6=>h2 w' ys m f h3 h4 (hr.trans h5) h6)
 have u:∀{m:Nat} {f:Bool} {ys:List Int} {w3:World} {ac a1 b2 bh a5 aG aC aX ba bO br aj X a0 az M U aS R av al am ar V an a2 ap J Z:Value} {zf:Nat→Value},ac=.slice (some ⟨g,0,none⟩) n c→a1=.int .i64 (a:Nat)→b2=.int .i64 (b:Nat)→bh=.int .i64 lm→aj=.bool f →
   aX=.int .i64 ((b-a:Nat):Int)→br=.int .i64 (m:Nat)→SD w3 g n c ys→Ots g w0 w3→Rng a b xs ys→PR ys a b m→gM K B1 ((ah ac a1 b2 bh a5 aG aC aX ba bO br aj X a0 az M U aS R av al am ar V an a2 ap J Z zf)) w3:=by
  intro m f ys w3
  intros
  rename_i e0 e1 e2 e3 e9 ad a7 d3 o3 j h;subst e0 e1 e2 e3 e9 ad a7;have a8:=h.hm;have ag:ys.Nodup:=j.perm.nodup_iff.2 hn;have I:=d.rng j (by omega) hn;have ly:=d3.len;refine ti <|bg (by omega) (by omega) <|bg (by omega) (by omega) <|Gu (by omega) (by omega) (by omega) <|aV ?_;refine CR (fun _=>?_) (fun _=>?_)
  ·refine cH <|C (by omega) d3 a8.1 (by omega) ag (h.lowL I) ?_;intro w4 y4 d4 o4 r4 s4;refine aR (by omega) (by omega) ?_;exact hB _ _ (m+1) b lm _ f y4 rfl rfl rfl rfl rfl d4 (o3.trans o4) (Sx j h d hn (by omega) r4 s4)
  ·refine cH <|aR (by omega) (by omega) ?_;rw[tu];refine C (by omega) d3 (by omega) (by omega) ag (h.lowR I ag (by omega)) ?_;intro w4 y4 d4 o4 r4 s4;exact hB _ _ a m lm _ f y4 rfl rfl rfl rfl rfl d4 (o3.trans o4) (Qu j h d hn (by omega) r4 s4)
 by_cases ha:0<a
 ·refine dE (by omega) <|aa (fun _=>bg (by omega) (by omega)) ?_;rw[qL ha];refine aa (fun _=>gZ (by omega)) <|aa (fun _=>ldS hd.drew (by omega)) <|aa (fun _=>gZ (by omega)) <|aa (fun _=>ldS hd.drew (by omega)) <|aa (fun _=>qt) <|aa (fun _=>rT) <|aa (fun _=>bR (by omega)) ?_;have a9:=a3 (a-1) p (by omega) a4 a6;refine au (by omega) <|rest hd.drew ?_;intro w3 ys m f d3 o3 j h
  refine eB <|eC ?_;exact u rfl rfl rfl rfl rfl rfl rfl d3 (ho.drew.trans (Ots.of_oth o3)) j h
 ·refine eF (by omega) <|aa (fun _=>bE (by omega)) <|bw <|rest hd.drew ?_;intro w3 ys m f d3 o3 j h;refine eB <|eC ?_;exact u rfl rfl rfl rfl rfl rfl rfl d3 (ho.drew.trans (Ots.of_oth o3)) j h
theorem Ot {a b p:Nat}{lm a6:Int}{wb wp:Bool}{B1:List Value→World→Prop}{ac a1 b2 bh a5 aG aC aX ba bO br aj R am al C J h I ap X Z ag M ar an ad u U:Value}{zf:Nat→Value}(e0:ac=.slice (some ⟨g,0,none⟩) n c)(e1:a1=.int .i64 (a:Nat))(e2:b2=.int .i64 (b:Nat))(e3:bh=.int .i64 lm)(e8:aG=.bool wb)(e9:aC=.bool wp)(V:aX=.int .i64 ((b-a:Nat):Int))(e11:ba=.int .i64 (p:Nat))(a4:bO=.int .i64 a6)(hd:SD w g n c z)(ho:Ots g w0 w)(hr:Rng a b xs z)(az:a≤p)(aS:p<b)(hb:b≤n)(d:Low a b xs)(hn:xs.Nodup)(j:Kb (b-a) g n c)(hB:Nj g n c w0 a b xs B1)(hF:∀w' ys,SD w' g n c ys→Ots g w0 w'→Rng a b xs ys→Srt ys a b→K (.tuple #[]) w'):dw K B1 ((ah ac a1 b2 bh a5 aG aC aX ba bO br aj R am al C J h I ap X Z ag M ar an ad u U zf)) w:=by
 subst e0 e1 e2 e3 e8 e9 V e11 a4;have lz:=hd.len;have a7:=hr.len;have av:=d.rng hr (by omega) hn;have a2:z.Nodup:=hr.perm.nodup_iff.2 hn
 have a3:∀{t:Bool} {ac a1 b2 bh a5 aG aC aX ba bO br aj R am al C J h I ap X Z ag M ar an ad u U:Value} {zf:Nat→Value},ac=.slice (some ⟨g,0,none⟩) n c→a1=.int .i64 (a:Nat)→b2=.int .i64 (b:Nat)→bh=.int .i64 lm→aG=.bool wb→aC=.bool wp →
   aX=.int .i64 ((b-a:Nat):Int)→ba=.int .i64 (p:Nat)→h=.bool t→gK K B1 ((ah ac a1 b2 bh a5 aG aC aX ba bO br aj R am al C J h I ap X Z ag M ar an ad u U zf)) w:=by
  intro t
  intros
  rename_i e0 e1 e2 e3 e8 e9 V e11 a0;subst e0 e1 e2 e3 e8 e9 V e11 a0;refine td ?_;cases t
  ·refine bw ?_;exact Oq rfl rfl rfl rfl rfl rfl rfl rfl hd ho hr az aS hb d hn j hB
  ·refine bu <|V8 hd (by omega) hb av a2 ?_;intro w2 ys f d2 o2 r2 s2;cases f
   ·refine bw ?_;exact Oq rfl rfl rfl rfl rfl rfl rfl rfl d2 (ho.trans (Ots.of_oth o2)) (hr.trans r2) az aS hb d hn j hB
   ·refine bu ?_;exact hF _ ys d2 (ho.trans (Ots.of_oth o2)) (hr.trans r2) (s2 rfl)
 refine t7 ?_;cases wb
 ·refine mK <|fm <|mK <|fm ?_;exact a3 rfl rfl rfl rfl rfl rfl rfl rfl rfl
 ·refine nH <|db ?_;cases wp
  ·refine mK <|fm ?_;exact a3 rfl rfl rfl rfl rfl rfl rfl rfl rfl
  ·refine nH <|bm <|db ?_;exact a3 rfl rfl rfl rfl rfl rfl rfl rfl rfl
theorem Mb {a b:Nat}{lm:Int}{wb wp:Bool}{B1:List Value→World→Prop}{ac a1 b2 bh a5 aG aC aX ba bO br aj Z av am J M an R a0 aS U ag V a2 az X I al:Value}{zf:Nat→Value}(e0:ac=.slice (some ⟨g,0,none⟩) n c)(e1:a1=.int .i64 (a:Nat))(e2:b2=.int .i64 (b:Nat))(e3:bh=.int .i64 lm)(e8:aG=.bool wb)(e9:aC=.bool wp)(ap:aX=.int .i64 ((b-a:Nat):Int))(hd:SD w g n c z)(ho:Ots g w0 w)(hr:Rng a b xs z)(a3:a+12<b)(j:b≤n)(ar:n<256)(d:Low a b xs)(hn:xs.Nodup)(h:Kb (b-a) g n c)(hB:Nj g n c w0 a b xs B1)(hF:∀w' ys,SD w' g n c ys→Ots g w0 w'→Rng a b xs ys→Srt ys a b→K (.tuple #[]) w'):dv K B1 ((ah ac a1 b2 bh a5 aG aC aX ba bO br aj Z av am J M an R a0 aS U ag V a2 az X I al zf)) w:=by
 subst e0 e1 e2 e3 e8 e9 ap;refine sT <|U6 hd (by omega) j ar ?_;intro w2 p u ad C d2 o2;refine eB <|eC <|bm <|sY ?_;refine CR (fun _=>?_) (fun _=>?_)
 ·refine Vk d2 j ?_;intro w3 ys d3 o3 r3;refine bg (by omega) (by omega) <|bg (by omega) (by omega) <|bg (by omega) (by omega) ?_;rw[show ((b:Int)-1-((p:Int)-(a:Int)))=((b-1-(p-a):Nat):Int)by omega];exact Ot rfl rfl rfl rfl rfl rfl rfl rfl rfl d3 ((ho.trans o2).trans (Ots.of_oth o3)) (hr.trans r3) (by omega) (by omega) j d hn h hB hF
 ·exact Ot rfl rfl rfl rfl rfl rfl rfl rfl rfl d2 (ho.trans o2) hr ad C j d hn h hB hF
theorem U7 (ad:n<256):∀d,Kb d g n c:=by
 intro d
 induction d with
 | zero=>intro a b lm z w K h;omega
 | succ d ih =>
  intro a b lm xs w K az hd am hb hn al h;have lx:=hd.len;refine aB (goK func95) (om ?_);refine nP (Inv:=fun x y l b1 b2 _ _ _ _ _ _ _ _ _ _ _ _ _ _ wr=>∃(u j:Nat) (lm:Int) (wb wp:Bool) (z:List Int),x=.int .i64 (u:Nat)∧y=.int .i64 (j:Nat)∧l=.int .i64 lm∧b1=.bool wb∧b2=.bool wp ∧
    a≤u∧u≤j∧j≤b∧SD wr g n c z∧Ots g w wr∧z.Nodup∧Low u j z∧∀ys,Rng u j z ys→Srt ys u j→Rng a b xs ys∧Srt ys a b)
   (μ:=fun x y l b1 b2 _ _ _ _ _ _ _ _ _ _ _ _ _ _ _=>(intOf y).toNat-(intOf x).toNat) ⟨a,b,lm,true,true,xs,rfl,rfl,rfl,rfl,rfl,Nat.le_refl _,am,Nat.le_refl _,hd,Ots.refl _ _,hn,al,fun ys h1 h2=>⟨h1,h2⟩⟩ ?_
  rintro _ _ _ _ _ _ _ _ _ _ _ _ _ _ _ _ _ _ _ _ w1 m ⟨u,j,lm,wb,wp,z,rfl,rfl,rfl,rfl,rfl,h1,h2,h3,I,o1,J,U,C⟩ ap;have lz:=I.len;refine bg (by omega) (by omega) ?_;rw[KT h2];refine ir ?_;by_cases av:j-u≤12
  ·refine ay (by omega) <|Rb I h2 (by omega) ?_;intro V ys M R r2 s2;obtain⟨f1,f2⟩:=C ys r2 s2;exact h _ ys M (o1.trans (Ots.of_oth R)) f1 f2
  refine au (by omega) <|bm ?_;refine CR (fun _=>?_) (fun _=>?_)
  ·refine Ux I (by omega) (by omega) J ?_;intro V ys M R r2 s2;obtain⟨f1,f2⟩:=C ys r2 s2;exact h _ ys M (o1.trans (Ots.of_oth R)) f1 f2
  have hF:∀w' ys,SD w' g n c ys→Ots g w w'→Rng u j z ys→Srt ys u j→K (.tuple #[]) w':=by
   intro V ys M R r2 s2;obtain⟨f1,f2⟩:=C ys r2 s2;exact h _ ys M R f1 f2
  have X:Kb (j-u) g n c:=by
   intro a2 b2 ag z2 V K2 q1 q2 q3 q4 q5 q6 q7;exact ih (by omega) q2 q3 q4 q5 q6 q7
  have hB:Nj g n c w u j z (fun e2 V=>(∃(u j:Nat) (lm:Int) (wb wp:Bool) (z:List Int),gd e2 1=.int .i64 (u:Nat)∧gd e2 2=.int .i64 (j:Nat)∧gd e2 3=.int .i64 lm∧gd e2 8=.bool wb∧gd e2 9=.bool wp ∧
    a≤u∧u≤j∧j≤b∧SD V g n c z∧Ots g w V∧z.Nodup∧Low u j z∧∀ys,Rng u j z ys→Srt ys u j→Rng a b xs ys∧Srt ys a b)∧(intOf (gd e2 2)).toNat-(intOf (gd e2 1)).toNat<m):=by
   intro e V a2 b2 ag an ar z2 e1 e2 e3 e8 e9 M R Z
   have:=Z.ha
   have:=Z.hb
   have:=Z.lt
   refine⟨⟨a2,b2,ag,an,ar,z2,e1,e2,e3,e8,e9,by omega,Z.le,by omega,M,R,Z.rng.perm.nodup_iff.2 J,Z.low,fun ys r s=>?_⟩,?_⟩
   ·obtain⟨f1,f2⟩:=Z.fin ys r s;exact C ys f1 f2
   ·rw[e1,e2,ap];simp only[intOf];omega
  refine eh <|sR ?_;cases wb
  ·refine bu <|U5 I h2 (by omega) ad ?_;intro V ys M R r2;refine kg ?_;exact Mb rfl rfl rfl rfl rfl rfl rfl M (o1.trans R) r2 (by omega) (by omega) ad U J X hB hF
  ·refine bw ?_;exact Mb rfl rfl rfl rfl rfl rfl rfl I o1 (Rng.refl _ _ _) (by omega) (by omega) ad U J X hB hF
theorem Sy (j:SD w g n c xs)(d:n<256)(J:xs.Nodup)(h:∀w' ys,SD w' g n c ys→Ots g w w'→ys.Perm xs→Srt ys 0 n→K (.tuple #[]) w'):call Tryz.prog 63 #[.slice (some ⟨g,0,none⟩) n c] K w:=by
 refine aB (goK func63) (pI ?_);refine Uv <|eK underlying3 underlying128 ?_;rw[hZ,show ((n:Nat):Int)%18446744073709551616=(n:Nat)by omega];refine Oo d ?_;intro r M;refine U7 d (n+1) (a:=0) (by omega) j (by omega) (Nat.le_refl _) J (fun i k h=>by omega) ?_;intro I ys u C r2 s2;exact h I ys u C r2.perm s2
end
end
section
open Go.RowKit
theorem U8 {ys:List Int}(C:Srt ys 0 ys.length)(R:ys.Nodup):ys.Pairwise (· < ·):=by
 rw[List.pairwise_iff_getElem];have u:∀d i (h:i+d+1<ys.length),ys[i]'(by omega)<ys[i+d+1]:=by
  intro d
  induction d with
  | zero =>
   intro i h;have I:=C i (by omega) (by omega);have e1:G ys i=ys[i]'(by omega):=by simp[G,List.getD,show i<ys.length by omega]
   have e2:G ys (i+1)=ys[i+1]'(by omega):=by simp[G,List.getD,show i+1<ys.length by omega]
   rw[e1,e2]at I;have U:ys[i]'(by omega)≠ys[i+1]'(by omega):=(List.pairwise_iff_getElem.1 R) i (i+1) (by omega) (by omega) (by omega);show ys[i]'(by omega)<ys[i+1]'(by omega);omega
  | succ d ih =>
   intro i h;have I:=ih i (by omega);have J:=C (i+d+1) (by omega) (by omega);have e1:G ys (i+d+1)=ys[i+d+1]'(by omega):=by simp[G,List.getD,show i+d+1<ys.length by omega]
   have e2:G ys (i+d+1+1)=ys[i+d+1+1]'(by omega):=by simp[G,List.getD,show i+d+1+1<ys.length by omega]
   rw[e1,e2]at J;show ys[i]'(by omega)<ys[i+d+1+1]'(by omega);omega
 intro i j hi V M
 have:=u (j-i-1) i (by omega)
 have e:i+(j-i-1)+1=j:=by omega
 simpa[e]using this
section
variable {w:World}{K:KV}{t tp:Nat}{T:List (Int×Int)}
theorem Qv {d:Value}(h:K (.tuple #[]) w):call Tryz.prog 116 #[d,.int .i64 0,.int .i64 0] K w:=by
 refine aB (goK func116) (mS ?_)
 (repeat (first|refine aR (by omega) (by omega) ?_))
 refine ms (Inv:=fun i _ _ _ _ _ _ _ _ _ _ wr=>i=.int .i64 1∧wr=w) (μ:=fun i _ _ _ _ _ _ _ _ _ _ _=>0) ⟨rfl,rfl⟩ ?_;rintro _ _ _ _ _ _ _ _ _ _ _ _ u m ⟨rfl,rfl⟩ j
 (repeat (first|refine aV ?_|refine bw ?_))
 exact h
theorem Sz (h:K (.tuple #[]) w):call Tryz.prog 63 #[.slice none 0 0] K w:=by
 refine aB (goK func63) (pI ?_);refine Uv <|eK underlying3 underlying128 ?_;rw[hZ,show ((0:Nat):Int)%18446744073709551616=(0:Nat)by omega];refine Oo (n:=0) (by omega) ?_;intro r u;refine aB (goK func95) (om ?_);refine nP (Inv:=fun a b _ _ _ _ _ _ _ _ _ _ _ _ _ _ _ _ _ wr=>a=.int .i64 0∧b=.int .i64 0∧wr=w) (μ:=fun a b _ _ _ _ _ _ _ _ _ _ _ _ _ _ _ _ _ _=>0) ⟨rfl,rfl,rfl⟩ ?_
 rintro _ _ _ _ _ _ _ _ _ _ _ _ _ _ _ _ _ _ _ _ j m ⟨rfl,rfl,rfl⟩ d
 (repeat (first|refine ir ?_|refine bg (by omega) (by omega) ?_|refine bu ?_))
 refine Qv ?_;exact h
theorem Qw {v:Value}(h:K (.bool true) w):call Tryz.prog 42 #[v] K w :=
 aB (goK func42) (CC h)
def IdR (w:World)(B:Nat)(a:Option Addr)(c:Nat)(ids:List Int):Prop:=(ids=[]∧a=none∧c=0)∨∃g rest,a=some ⟨g,0,none⟩∧B≤g∧ids.length≤c∧blk w g 24 (ids.map u6++rest)
theorem Mc (ht:TreeM w t tp T)(hn:T.length<256)(h:∀w' a c (ids:List Int),ids.Perm (T.map (·.1))→ids.Pairwise (· < ·)→IdR w' w.heap.size a c ids→Below w.heap.size w w'→K (.slice a ids.length c) w'):call Tryz.prog 25 #[pB t] K w:=by
 obtain⟨M,hM,hp⟩:=ht.mp;have b0:=ht.lt;refine aB (goK func25) (Ew (aB (goK func41) (CZ (HC (bw (aw (vj (lK (v:=.map (some tp)) ht.bt rfl (Kh underlying86 hM ?_)))))))));intro Z a0 b4 s4;have a3:w.heap.size≠tp:=by omega
 have bv:M.length=T.length:=hp.length_eq;refine Bu (Inv:=fun l wr=>∃(done:List Int) (a:Option Addr) (c:Nat),l=.slice a done.length c∧IT u6 u6 wr w.heap.size tp M done∧Below w.heap.size w wr∧Z.heap.size≤wr.heap.size ∧
   OV wr Z.heap.size 24 a done.length c (done.map u6))
  (μ:=fun l wr=>lX wr tp w.heap.size) ⟨[],none,0,rfl,a0,b4,Nat.le_refl _,OV.nil _ _ _⟩ ?_
 rintro l _ w5 m ⟨done,a,c,rfl,ad,b5,ce,R⟩ hm;obtain⟨n1,n2,n3⟩:=ad.nodup;have b3:done.length≤M.length:=by
  have:=vR n1 n3;simpa using this
 refine Ki ad a3 ?_ ?_
 ·intro al;have u:done.Perm (T.map (·.1)):=((List.perm_ext_iff_of_nodup n1 n2).2 fun x=>⟨n3 x,al x⟩).trans (hp.map _);refine vP rfl (bw (Bv ?_));rcases R.2 with⟨hv,hz⟩|⟨g,cap,a7,hv,hg,hh,bi,b9,am,ap⟩
  ·simp only[Value.slice.injEq]at hv;obtain⟨rfl,ca,rfl⟩:=hv;have bb:done=[]:=List.eq_nil_of_length_eq_zero hz;subst bb;refine Sz ?_;exact h w5 none 0 [] u List.Pairwise.nil (.inl ⟨rfl,rfl,rfl⟩) b5
  simp only[Value.slice.injEq]at hv;obtain⟨rfl,_,rfl⟩:=hv;have bd:SD w5 g done.length c done:=by
   refine⟨a7.toList.drop done.length,?_,rfl,bi,by omega⟩;rw[Nat.mul_one]at ap;rw[show done.map uv=done.map u6 from rfl, ←ap,List.take_append_drop];exact hh
  refine Sy bd (by omega) n1 ?_;intro w6 ys a9 o6 U an;have C:Below w.heap.size w w6:=b5.trans (o6.below (by omega) (by omega));have a8:ys.length=done.length:=U.length_eq;have az:IdR w6 w.heap.size (some ⟨g,0,none⟩) c ys:=by
   obtain⟨rest,k1,k2,k3,k4⟩:=a9;exact .inr ⟨g,rest,rfl,by omega,by omega,k1⟩
  rw[←a8]at an ⊢;exact h w6 _ c ys (U.trans u) (U8 an (U.nodup_iff.2 n1)) az C
 ·intro x v w6 cc bW av a2 o6 be;have C:Below w.heap.size w w6:=oO b5 o6 (Nat.le_refl _);have s6:=o6.size;have ar:OV w6 Z.heap.size 24 a done.length c (done.map u6):=di R fun k V=>o6.other k (by have:=(OV.block R k V).1;omega);refine vP rfl (bu (Kg a2 (eB (ia rfl (Qw (bu ?_))))))
  refine oe (vs:=[u6 x]) underlying76 (s:=1) (by kernel_rfl) (by kernel_rfl) (by omega) rfl (by simp) (by simp) (by simp) (by simp[u6,Value.cells]) fun w7 J X s7=>?_;have J:blk w7 w6.heap.size 24 [u6 x]:=by simpa[Value.cells,u6]using J
  have ag:OV w7 Z.heap.size 24 a done.length c (done.map u6):=di ar fun k V=>X.block k (OV.block ar k V).2;obtain⟨i,hi,hz,am,a4⟩:=info_parts (show (Tryz.prog.info? 24).map (fun i=>(i.zero,i.size,i.bytes))=some (some (u6 0),1,8)by kernel_rfl)
  refine SV (base:=Z.heap.size) (s:=1) (ys:=[u6 x]) underlying76 hi hz am a4 rfl (by omega) ag J rfl rfl (by simp[u6,Value.oneCell']) (by omega) (by omega) (by omega) ?_;intro a' c' w8 aS j;have d:∀k,k<w6.heap.size→(∀q,(Value.slice a done.length c).ownBlock=some q→q≠k)→w8.heap[k]? = w6.heap[k]? := by
   intro k V I;rw[j.block k (by omega) (fun e=>I k e.symm rfl),X.block k V]
  have I:∀q,(Value.slice a done.length c).ownBlock=some q→Z.heap.size≤q:=fun q e=>(OV.block ag q e).1;have bk:=av.lt;have a6:IT u6 u6 w8 w.heap.size tp M (done++[x]):=av.kept (d _ (by omega) fun q e=>by have:=I q e;omega) (d _ (by omega) fun q e=>by have:=I q e;omega)
  have b8:Below w.heap.size w w8:=⟨j.os.trans (X.os.trans C.os),j.tape.trans (X.tape.trans C.tape),j.output.trans (X.output.trans C.output),by have:=j.size;have:=X.size;have:=C.size;omega,fun k V=>by
   have:=C.size
   rw[d k (by omega) fun q e=>by have:=I q e;omega,C.block k V]⟩
  refine⟨⟨done++[x],a',c',by simp,a6,b8,by have:=j.size;have:=X.size;omega,?_⟩,?_⟩
  ·rw[List.map_append,List.length_append];exact aS
  ·rw[hm]
   have:lX w8 tp w.heap.size=lX w6 tp w.heap.size:=ul (d _ (by omega) fun q e=>by have:=I q e;omega) (d _ (by omega) fun q e=>by have:=I q e;omega)
   omega
end
end
section
open Go.RowKit
section
variable {w:World}{K:KV}{B c:Nat}{a:Option Addr}{ids:List Int}{x:Int}
theorem IdR.at (h:IdR w B a c ids){i:Nat}(hi:i<ids.length)(d:K (u6 ids[i]) w):aU Tryz.prog 76 (.slice a ids.length c) (.int .i64 (i:Nat)) (fun p=>ld Tryz.prog 24 p K) w:=by
 rcases h with⟨rfl,_⟩|⟨g,rest,rfl,u,C,j⟩
 ·simp at hi
 refine eu underlying76 (s:=1) (fun _=>by kernel_rfl) (by omega) (by omega) ?_;rw[Int.toNat_natCast,Nat.mul_one,Nat.zero_add];refine lK (v:=u6 ids[i]) j ?_ d;rw[List.getElem?_append_left (by simpa using hi),List.getElem?_map,List.getElem?_eq_getElem hi];rfl
theorem IdR.kept {w':World}(h:IdR w B a c ids)(j:∀k o,B≤k→w.heap[k]? = some o→w'.heap[k]? = w.heap[k]?):IdR w' B a c ids:=by
 rcases h with h|⟨g,rest,e1,e2,e3,d⟩
 ·exact .inl h
 ·exact .inr ⟨g,rest,e1,e2,e3,by have:=j g _ e2 d;unfold blk at *; rw[this];exact d⟩
theorem IdR.below {w':World}(h:IdR w B a c ids)(j:Below w.heap.size w w'):IdR w' B a c ids :=
 h.kept fun k o _ d=>j.block k (Array.getElem?_eq_some_iff.1 d).1
theorem IdR.own {n:Nat}(h:w.ownsRow B 24 1 (.slice a n c) n (ids.map u6))(U:ids.length=n):IdR w B a c ids:=by
 rcases h.2 with⟨d,R⟩|⟨g,cap,u,d,I,hh,M,J,C,j⟩
 ·simp only[Value.slice.injEq]at d;exact .inl ⟨List.eq_nil_of_length_eq_zero (by omega),d.1,d.2.2⟩
 ·simp only[Value.slice.injEq]at d;obtain⟨e1,_,e2⟩:=d;refine .inr ⟨g,u.toList.drop n,e1,I,by omega,?_⟩;rw[Nat.mul_one]at j;rw[←j,List.take_append_drop];exact hh
theorem Qx (h:IdR w B a c ids)(Z:ids.length<1000000)(J:∀i:Int,(0≤i↔x∈ids)→K (.int .i64 i) w):call Tryz.prog 191 #[.slice a ids.length c,u6 x] K w:=by
 refine aB (goK func191) (vc (bx underlying76 ?_));refine ub (Inv:=fun i wr=>∃k:Nat,i=iv (k:Nat)∧wr=w∧k≤ids.length∧∀j (C:j<ids.length),j<k→ids[j]≠x) (μ:=fun i _=>ids.length-(intOf i).toNat) ⟨0,rfl,rfl,Nat.zero_le _,fun j _ C=>by omega⟩ ?_;rintro _ X _ m ⟨k,rfl,rfl,M,d⟩ V;refine aV ?_;by_cases u:k<ids.length
 ·refine ay (by omega) (h.at u (bm ?_));by_cases I:x=ids[k]
  ·exact ay I (J _ ⟨fun _=>I ▸ List.getElem_mem u,fun _=>by omega⟩)
  ·refine au I (aR (by omega) (by omega) ?_);refine⟨⟨k+1,ivS,rfl,u,fun j C U=>?_⟩,by rw[V];show ids.length-((k:Int)+1).toNat<ids.length-(k:Int).toNat;omega⟩;by_cases e:j=k
   ·subst e;exact fun e=>I e.symm
   ·exact d j C (by omega)
 ·refine au (by omega) (uc (J _ ⟨fun h0=>by omega,fun R=>?_⟩));obtain⟨j,C,e⟩:=List.getElem_of_mem R;exact absurd e (d j C (by omega))
theorem Ly (h:IdR w B a c ids)(j:ids.length<1000000)(d:K (.bool (decide (x∈ids))) w):call Tryz.prog 179 #[.slice a ids.length c,u6 x] K w:=by
 refine aB (goK func179) (tR (Qx h j fun i hi=>cH ?_));rw[show decide (i≥0)=decide (x∈ids)from decide_eq_decide.2 hi];exact d
theorem SA (h:∀w',blk w' w.heap.size 76 [.slice a ids.length c]→Below w.heap.size w w'→w'.heap.size=w.heap.size+1→K (.func (.func 190) #[] #[pB w.heap.size]) w'):call Tryz.prog 178 #[.slice a ids.length c] K w:=by
 refine aB (goK func178) (tQ (dc fun j d b1 s1=>?_));exact h j (by simpa[Value.cells]using d) b1 s1
theorem SB {Y:YB}{l b1:Nat}(hY:vG Y)(hl:ids.length<1000000)(Inv:Nat→World→Prop)(d:World→Prop)(h0:Inv 0 w)(R:∀j w,Inv j w→blk w b1 76 [.slice a ids.length c]∧IdR w B a c ids)(V:∀j k x w K,k+j+1=ids.length→ids[k]? = some x→Inv j w→(∀w',Inv (j+1) w'→K (.bool true) w')→(∀w',d w'→K (.bool false) w')→Y [iv (k:Nat),u6 x] K w)(he:∀w',Inv ids.length w'→K (.tuple #[]) w')(U:∀w',d w'→K (.tuple #[]) w'):vS Tryz.prog Y l 190 [.func (.yield l) #[] #[],pB b1] w K:=by
 refine sw (lK (v:=.slice a ids.length c) (R 0 w h0).1 rfl (bx underlying76 (bg (by omega) (by omega) ?_)));refine rA hY (Inv:=fun i wr=>∃j:Nat,i=.int .i64 ((ids.length:Int)-1-(j:Nat))∧j≤ids.length∧Inv j wr) (μ:=fun i _=>(intOf i+1).toNat) ⟨0,by simp,Nat.zero_le _,h0⟩ ?_;rintro _ dd C m ⟨j,rfl,hj,hI⟩ h;refine cH ?_;by_cases J:j<ids.length
 ·obtain⟨k,Z⟩:∃k:Nat,k+j+1=ids.length:=⟨ids.length-j-1,by omega⟩
  have X:(ids.length:Int)-1-(j:Nat)=(k:Nat):=by omega
  rw[X]at h ⊢;have u:k<ids.length:=by omega
  refine ay (by omega) (lK (v:=.slice a ids.length c) (R j C hI).1 rfl ((R j C hI).2.at u ?_));refine .inl ⟨rfl,V j k ids[k] C _ Z (List.getElem?_eq_getElem u) hI (fun w' M => eh (bw (bg (by omega) (by omega) ?_))) (fun w' I => eh (bu (U w' I)))⟩;refine⟨⟨j+1,congrArg (Value.int .i64) (by push_cast;omega),J,M⟩,by rw[h];show ((k:Int)-1+1).toNat<((k:Int)+1).toNat;omega⟩
 ·have e:j=ids.length:=by omega
  subst e;exact au (by omega) (he C hI)
end
end
section
open Go.RowKit
theorem Md {V:List Int}(d:V.length=6):kD Tryz.prog 3 26 (vCs V)=true:=by
 obtain⟨_,_,_,_,_,_,rfl⟩:=KP d
 kernel_rfl
section
variable {w:World}{K:KV}
theorem SC {b:Nat}{A B:List Int}(hA:A.length=6)(hB:B.length=6)(hb:blk w b 26 (vCs A++vCs B))(h:∀w',Below w.heap.size w w'→K (.agg (vCs (jV A B)).toArray) w'):call Tryz.prog 114 #[.slice (some ⟨b,0,none⟩) 2 2,.func (.func 115) #[] #[]] K w:=by
 have lA:=kI (V:=A);have lB:=kI (V:=B);refine aB (goK func114) (Io ?_);refine dc fun w1 hc b1 s1=>?_;have hc:blk w1 w.heap.size 188 [.func (.func 115) #[] #[]]:=by simpa[Value.cells]using hc
 have ad:=af b1 hb hb.lt;refine Dm fun w2 ht b2 s2=>?_;have j:=af b2 ad ad.lt;have C:=af b2 hc hc.lt;refine bx underlying186 (bm (au (by decide) ?_))
 refine eu underlying186 (s:=6) (fun _=>by kernel_rfl) (by decide) (by decide) <|ldA (n:=6) (vs:=vCs A) underlying26 rfl (by kernel_rfl) j (by show ((vCs A++vCs B).drop 0).take 6=_;rw[List.drop_zero,List.take_append_of_le_length (by omega),List.take_of_length_le (by omega)]) (by omega) ?_;refine Dm fun w3 ho b3 s3=>?_;have az:=af b3 ht ht.lt;refine AK rfl hA ho fun w4 J X=>?_
 have g4:Below w.heap.size w w4:=oO ((b1.trans (b2.mono (by omega))).trans (b3.mono (by omega))) X (by omega);have an:=X.blk (af b3 j j.lt) (by have:=hb.lt;omega);have u:=X.blk (af b3 C C.lt) (by omega);have M:=X.blk az (by omega);have s4:=X.size
 refine Vi (q:=1) (s:=6) underlying186 (fun _=>by kernel_rfl) (by omega) (by omega) <|bx underlying186 <|FJ (Inv:=fun i wr=>(i=ci 0∧wr=w4)∨(i=ci 1∧Below w.heap.size w wr∧blk wr w2.heap.size 26 (vCs (jV A B))∧blk wr w1.heap.size 26 (vCs [0,0,0,0,0,0]))) (μ:=fun i _=>6-(intOf i).toNat) (.inl ⟨rfl,rfl⟩) ?_;rintro _ dd w5 m hI hm;rcases hI with⟨rfl,rfl⟩|⟨rfl,g5,av,am⟩
 ·refine aV (ay (by decide) ?_);refine eu underlying186 (s:=6) (fun _=>by kernel_rfl) (by decide) (by decide) <|ldA (n:=6) (vs:=vCs B) underlying26 rfl (by kernel_rfl) an (by show ((vCs A++vCs B).drop 6).take 6=_;rw[List.drop_append_of_le_length (by omega),List.drop_of_length_le (by omega),List.nil_append,List.take_of_length_le (by omega)]) (by omega) ?_;refine Dm fun w6 hv b6 s6=>?_
  refine AK rfl hB hv fun w7 R Z=>?_;have d:=Z.blk (af b6 J J.lt) (by omega);have U:=Z.blk (af b6 u u.lt) (by omega);have ag:=Z.blk (af b6 M M.lt) (by omega);have g7:Below w.heap.size w w7:=oO (g4.trans (b6.mono (by omega))) Z (by omega);have s7:=Z.size
  refine Tg (G:=jV A B) qs (fun k hk w8 b8 K' ar => ia rfl (Ti hA hB hk (af b8 U U.lt) (af b8 d d.lt) (af b8 R R.lt) (ar _ ⟨rfl,rfl,rfl,Nat.le_refl _,fun _ _=>rfl⟩))) fun w9 b9=>?_;refine AK hA qs (af b9 d d.lt) fun aS I al=>aR (by decide) (by decide) ?_
  have:=b9.size
  refine⟨.inr ⟨rfl,oO (g7.trans (b9.mono (by omega))) al (by omega),I,al.blk (af b9 ag ag.lt) (by omega)⟩,by rw[hm];decide⟩
 ·refine aV (au (by decide) (FK ?_));refine xu qs av (AK rfl qs am fun w6 ap o6=>?_);exact CO (v:=.agg (vCs (jV A B)).toArray) (fun _=>xu qs ap) (h _ (oO g5 o6 (by omega)))
theorem SE {b:Nat}{A B:List Int}(I:A.length=6)(C:B.length=6)(j:blk w b 26 (vCs A++vCs B))(h:∀w',Below w.heap.size w w'→K (.agg (vCs (jV A B)).toArray) w'):call Tryz.prog 94 #[.slice (some ⟨b,0,none⟩) 2 2] K w:=by
 refine aB (goK func94) (Ip ?_);refine Dm fun R u b1 s1=>?_;refine SC I C (af b1 j j.lt) fun M b2=>?_;refine AK rfl qs (af b2 u u.lt) fun U d J=>?_;exact CO (v:=.agg (vCs (jV A B)).toArray) (fun _=>xu qs d) (h _ (oO (b1.trans (b2.mono (by omega))) J (by omega)))
theorem SF {A B:List Int}(J:A.length=6)(d:B.length=6)(h:∀w',Below w.heap.size w w'→K (.bool (leV A B)) w'):call Tryz.prog 62 #[.agg (vCs A).toArray,.agg (vCs B).toArray] K w:=by
 refine aB (goK func62) (Iq ?_);refine GP J fun w1 h1 b1 s1=>GP d fun w2 R b2 s2=>?_;have C:=af b2 h1 h1.lt;refine aE (fun x=>blk x w.heap.size 26 (vCs A)∧blk x w1.heap.size 26 (vCs B)) ⟨C.drew,R.drew⟩ <|ab (fun x I _=>xu J I.1) <|ab (fun x I _=>xu d I.2) <|ab (fun x I _=>xu d I.2) ?_
 refine oe [.agg (vCs A).toArray,.agg (vCs B).toArray] underlying186 (s:=6) (by kernel_rfl) (by kernel_rfl) (by omega) rfl (by simp) (by decide) rfl (by
  intro v hv;simp only[List.mem_cons,List.not_mem_nil,or_false]at hv;rcases hv with rfl|rfl
  ·have:=congrArg List.length (uz J);rw[kI,J]at this;simpa using this
  ·have:=congrArg List.length (uz d);rw[kI,d]at this;simpa using this) fun w3 M X s3=>?_
 have M:blk w3 w2.drew.heap.size 26 (vCs A++vCs B):=by
  have e:([Value.agg (vCs A).toArray,.agg (vCs B).toArray].flatMap fun v=>v.cells.toList)=vCs A++vCs B:=by
   simp only[List.flatMap_cons,List.flatMap_nil,List.append_nil,uz J,uz d]
  rwa[e]at M
 have u:=af X C C.lt;have j:=af X R R.lt;refine aO ⟨u,j⟩ ?_;refine SE J d M fun w4 U=>?_;refine aO ⟨af U u u.lt,af U j j.lt⟩ ?_;refine ab (v:=.bool (leV A B)) (fun x I K hK=>xW 3 (by omega) (by kernel_rfl) (by kernel_rfl) (Md qs) (Md d) fun r hr=>by
  have:r=leV A B:=by rw[Te,Vj d]at hr;exact Bool.eq_iff_iff.2 hr
  rw[this];exact hK) ?_
 have Z:Below w.heap.size w w2.drew:=(b1.trans (b2.mono (by omega))).drew;have V:=Z.size;have g3:=Z.trans (X.mono V);exact h _ (g3.trans (U.mono g3.size))
theorem EV.V_len {e:EV}:e.V.length=6:=rfl
theorem SG {e:EV}{b:Nat}(d:blk w b 54 (evC e))(h:K (.agg (vCs e.V).toArray) w):ld Tryz.prog 26 (.pointer (some ⟨b,2,none⟩)) K w :=
 ldA (n:=6) (vs:=vCs e.V) underlying26 rfl (by kernel_rfl) d rfl rfl h
end
end
section
open Go.RowKit
section
variable {w:World}{K:KV}
theorem Gn {e:EV}(h:∀w',blk w' w.heap.size 54 (evC e)→Below w.heap.size w w'→w'.heap.size=w.heap.size+1→K (.pointer (some ⟨w.heap.size,0,none⟩)) w'):box Tryz.prog 54 (.agg (evC e).toArray) K w :=
 dc fun w' d b s=>h w' (by simpa[Value.cells]using d) b s
theorem Bl {e:EV}{b:Nat}(d:blk w b 54 (evC e))(h:K (.agg (evC e).toArray) w):ld Tryz.prog 54 (.pointer (some ⟨b,0,none⟩)) K w :=
 ldA (n:=14) (vs:=evC e) underlying54 rfl (by kernel_rfl) d rfl rfl h
theorem SH {V:List Int}{e:EV}(C:V.length=6)(h:∀w',Below w.heap.size w w'→K (.bool (tt V e)) w'):call Tryz.prog 39 #[.agg (vCs V).toArray,.agg (evC e).toArray] K w:=by
 refine aB (goK func39) (Js ?_);refine GP C fun w1 U b1 s1=>Gn fun w2 u b2 s2=>?_;have j:=af b2 U U.lt;refine Bl u (KO fun w3 R=>?_);have I:=af R j j.lt;have d:=af R u u.lt;have J:=(b1.trans (b2.mono (by omega))).trans (R.mono (by omega));cases M:eE e with
 | false =>
  refine mK (fm ?_)
  have:=h _ J
  unfold tt at this;rwa[M,Bool.false_and]at this
 | true =>
  refine nH (xu C I (bS (lK (v:=iv e.o) d rfl (lh (lK (v:=u6 e.s) d rfl (Uu C fun Z X=>db ?_))))))
  have:=h _ (J.trans (X.mono J.size))
  obtain⟨o1,o6,s1,s2⟩:=gJ M;unfold tt at this;rw[M,Bool.true_and]at this;have hr:bV e.o=true:=by unfold bV;simp;omega
  show K (Value.bool (bV e.o&&(decide (e.s>0)&&decide (V.getD (e.o-1).toNat 0≥e.s)))) Z;rwa[hr,Bool.true_and,show decide (e.s>0)=true from decide_eq_true (by omega),Bool.true_and]
theorem Qy {V:List Int}{e:EV}(I:V.length=6)(hv:∀k,k<6→0≤V.getD k 0)(h:∀w',Below w.heap.size w w'→K (.bool (gY V e)) w'):call Tryz.prog 40 #[.agg (vCs V).toArray,.agg (evC e).toArray] K w:=by
 refine aB (goK func40) (Ir ?_);refine GP I fun w1 j b1 s1=>Gn fun w2 u b2 s2=>?_;have C:=(af b2 j j.lt).drew;have u:=u.drew;have g2:Below w.heap.size w w2.drew:=(b1.trans (b2.mono (by omega))).drew;refine aE (fun x=>blk x w1.heap.size 54 (evC e)) u <|ab (fun x d _=>Bl d) ?_;refine KO fun w3 U=>?_;have R:=af U C C.lt;have M:=af U u u.lt;have J:=g2.trans (U.mono g2.size)
 refine aE (fun x=>blk x w.heap.size 26 (vCs V)∧blk x w1.heap.size 54 (evC e)) ⟨R,M⟩ ?_;have X:asB (.bool false)≠some true:=by simp[asB]
 cases Z:eE e with
 | false =>
  have:=h _ J
  unfold gY at this;rw[Z,Bool.false_and]at this
  iterate 9 refine nY X ?_
  refine ab (fun x d _=>fm) ?_
  iterate 3 refine nY X ?_
  refine xGn X ?_;exact aE (fun _=>True) trivial (ab (fun x d _=>fm) this)
 | true =>
  obtain⟨o1,o6,ag,ad⟩:=gJ Z;obtain⟨k,hk⟩:∃k:Nat,k=(e.o-1).toNat:=⟨_,rfl⟩
  have e2:gY V e=(decide (V.getD k 0=e.s-1)&&leV e.V V):=by
   unfold gY leV;rw[Z,Bool.true_and, ←hk]
   congr 1
   exact decide_eq_decide.2 (by omega)
  refine fD rfl (fun x d _=>bS) <|fD rfl (fun x d _=>lK (v:=iv e.o) d.2 rfl) <|fD (x:=iv (k:Nat)) rfl (fun x d K hK=>kg (by rw[dP (by omega) (by omega),show (e.o-1)=(k:Nat)by omega];exact hK)) <|fD rfl (fun x d _=>ixV rfl (by omega)) <|fD (x:=u6 (V.getD k 0)) rfl (fun x d _=>lK d.1 (by rw[Nat.zero_add];exact xV I (by omega))) <|fD rfl (fun x d _=>lh) <|fD rfl (fun x d _=>lK (v:=u6 e.s) d.2 rfl) <|fD (x:=u6 (e.s-1)) rfl (fun x d K hK=>kg (by rw[hZ,show (e.s-1)%18446744073709551616=e.s-1 by omega];exact hK)) <|fD rfl (fun x d _=>bm) <|ab (fun x d _=>db) ?_
  by_cases j:V.getD k 0=e.s-1
  ·refine fD (Ec j) (fun x d _=>rr) <|fD (Ec j) (fun x d _=>SG d.2) <|fD (Ec j) (fun x d _=>xu I d.1) ?_;refine Fe (Ec j) (SF EV.V_len I fun w4 b4=>?_)
   have:=h _ (J.trans (b4.mono J.size))
   rw[e2,decide_eq_true j,Bool.true_and]at this;exact aE (fun _=>True) trivial (ab (fun x d _=>bR j) this)
  ·have:=h _ J
   rw[e2,decide_eq_false j,Bool.false_and]at this
   iterate 3 refine nY (JG j) ?_
   refine xGn (JG j) ?_;exact aE (fun _=>True) trivial (ab (fun x d _=>bE j) this)
end
end
section
open Go.RowKit Go.ChangeMaps
structure LB where
 p:Nat
 t:Nat
 tp:Nat
 pm:Nat
 rm:Nat
 gm:Nat
 am:Nat
def LB.w (q:LB):List Nat:=[q.p,q.tp,q.pm,q.rm,q.gm,q.am]
def LB.l (q:LB):List Nat:=[q.p,q.t,q.tp,q.pm,q.rm,q.gm,q.am,0]
theorem LB.wl {q:LB}:∀k∈q.w,k∈q.l:=by
 intro k d;simp only[LB.w,LB.l,List.mem_cons,List.not_mem_nil,or_false]at d ⊢;omega
section
variable {q:LB}
theorem LN.pt (h:q.l.Nodup):q.p≠q.t:=fun e=>by simp[LB.l,e]at h
theorem LN.pd (h:q.l.Nodup):q.p≠q.tp:=fun e=>by simp[LB.l,e]at h
theorem LN.pm (h:q.l.Nodup):q.p≠q.pm:=fun e=>by simp[LB.l,e]at h
theorem LN.pr (h:q.l.Nodup):q.p≠q.rm:=fun e=>by simp[LB.l,e]at h
theorem LN.pg (h:q.l.Nodup):q.p≠q.gm:=fun e=>by simp[LB.l,e]at h
theorem LN.pa (h:q.l.Nodup):q.p≠q.am:=fun e=>by simp[LB.l,e]at h
theorem LN.pz (h:q.l.Nodup):q.p≠0:=fun e=>by simp[LB.l,e]at h
theorem LN.tm (h:q.l.Nodup):q.t≠q.pm:=fun e=>by simp[LB.l,e]at h
theorem LN.tr (h:q.l.Nodup):q.t≠q.rm:=fun e=>by simp[LB.l,e]at h
theorem LN.tg (h:q.l.Nodup):q.t≠q.gm:=fun e=>by simp[LB.l,e]at h
theorem LN.ta (h:q.l.Nodup):q.t≠q.am:=fun e=>by simp[LB.l,e]at h
theorem LN.dm (h:q.l.Nodup):q.tp≠q.pm:=fun e=>by simp[LB.l,e]at h
theorem LN.dr (h:q.l.Nodup):q.tp≠q.rm:=fun e=>by simp[LB.l,e]at h
theorem LN.dg (h:q.l.Nodup):q.tp≠q.gm:=fun e=>by simp[LB.l,e]at h
theorem LN.da (h:q.l.Nodup):q.tp≠q.am:=fun e=>by simp[LB.l,e]at h
theorem LN.dz (h:q.l.Nodup):q.tp≠0:=fun e=>by simp[LB.l,e]at h
theorem LN.mr (h:q.l.Nodup):q.pm≠q.rm:=fun e=>by simp[LB.l,e]at h
theorem LN.mg (h:q.l.Nodup):q.pm≠q.gm:=fun e=>by simp[LB.l,e]at h
theorem LN.ma (h:q.l.Nodup):q.pm≠q.am:=fun e=>by simp[LB.l,e]at h
theorem LN.mz (h:q.l.Nodup):q.pm≠0:=fun e=>by simp[LB.l,e]at h
theorem LN.rg (h:q.l.Nodup):q.rm≠q.gm:=fun e=>by simp[LB.l,e]at h
theorem LN.ra (h:q.l.Nodup):q.rm≠q.am:=fun e=>by simp[LB.l,e]at h
theorem LN.rz (h:q.l.Nodup):q.rm≠0:=fun e=>by simp[LB.l,e]at h
theorem LN.ga (h:q.l.Nodup):q.gm≠q.am:=fun e=>by simp[LB.l,e]at h
theorem LN.gz (h:q.l.Nodup):q.gm≠0:=fun e=>by simp[LB.l,e]at h
theorem LN.az (h:q.l.Nodup):q.am≠0:=fun e=>by simp[LB.l,e]at h
theorem LN.tp (h:q.l.Nodup):q.t≠q.p:=(LN.pt h).symm
theorem LN.dp (h:q.l.Nodup):q.tp≠q.p:=(LN.pd h).symm
theorem LN.mp (h:q.l.Nodup):q.pm≠q.p:=(LN.pm h).symm
theorem LN.md (h:q.l.Nodup):q.pm≠q.tp:=(LN.dm h).symm
theorem LN.rp (h:q.l.Nodup):q.rm≠q.p:=(LN.pr h).symm
theorem LN.rd (h:q.l.Nodup):q.rm≠q.tp:=(LN.dr h).symm
theorem LN.rm (h:q.l.Nodup):q.rm≠q.pm:=(LN.mr h).symm
theorem LN.gp (h:q.l.Nodup):q.gm≠q.p:=(LN.pg h).symm
theorem LN.gd (h:q.l.Nodup):q.gm≠q.tp:=(LN.dg h).symm
theorem LN.gm (h:q.l.Nodup):q.gm≠q.pm:=(LN.mg h).symm
theorem LN.gr (h:q.l.Nodup):q.gm≠q.rm:=(LN.rg h).symm
theorem LN.ap (h:q.l.Nodup):q.am≠q.p:=(LN.pa h).symm
theorem LN.ad (h:q.l.Nodup):q.am≠q.tp:=(LN.da h).symm
theorem LN.am (h:q.l.Nodup):q.am≠q.pm:=(LN.ma h).symm
theorem LN.ar (h:q.l.Nodup):q.am≠q.rm:=(LN.ra h).symm
theorem LN.ag (h:q.l.Nodup):q.am≠q.gm:=(LN.ga h).symm
theorem LN.zp (h:q.l.Nodup):0≠q.p:=(LN.pz h).symm
theorem LN.zd (h:q.l.Nodup):0≠q.tp:=(LN.dz h).symm
theorem LN.zm (h:q.l.Nodup):0≠q.pm:=(LN.mz h).symm
theorem LN.zr (h:q.l.Nodup):0≠q.rm:=(LN.rz h).symm
theorem LN.zg (h:q.l.Nodup):0≠q.gm:=(LN.gz h).symm
theorem LN.za (h:q.l.Nodup):0≠q.am:=(LN.az h).symm
end
def kindsV :List Value:=[.nilFunc,.func (.func 154) #[] #[],.func (.func 155) #[] #[],.func (.func 156) #[] #[],.func (.func 157) #[] #[],.func (.func 158) #[] #[],.func (.func 159) #[] #[],.func (.func 160) #[] #[]]
def KD (w:World):Prop:=∃E fr,w.heap[0]? = some (.cells kindsV.toArray E fr)
theorem KD.lt {w:World}(h:KD w):0<w.heap.size:=by obtain⟨E,d,h⟩:=h;exact(Array.getElem?_eq_some_iff.1 h).1
theorem KD.keep {w w':World}(h:KD w)(d:w'.heap[0]? = w.heap[0]?):KD w':=by obtain⟨E,j,h⟩:=h;exact⟨E,j,d.trans h⟩
theorem KD.below {w w':World}(h:KD w)(d:Below w.heap.size w w'):KD w':=h.keep (d.block 0 h.lt)
def Bm (N:List ND):List Int:=(List.range 6).map fun k=>((gj N ((k:Nat)+1):Nat):Int)
def plC (q:LB)(s:PL):List Value:=s.I.map .bool++(s.L.map .bool++(vCs s.V++([pB q.t,.map (some q.pm),.map (some q.rm)]++((Bm s.N).map iv++[.map (some q.gm),.map (some q.am)]))))
def rqV (x:Int×Int):Value:=.agg #[.int .i64 x.1,.int .u64 x.2]
def rgV (A:List Int):Value:=.agg (A.map iv).toArray
def grV (g:GR):Value:=.agg (grC g).toArray
def rgL (N:List ND):List (Int×List Int):=N.map fun x=>(x.id,x.A)
def grL (G:List GR):List ((Int×Int)×GR):=G.map fun g=>((g.o,g.q),g)
theorem rqK :CT Tryz.prog 98 rqV:=by
 refine QE _ underlying98 (fun x=>⟨_,rfl⟩) (fun x y h=>?_) (fun w R x=>by kernel_rfl) (fun w x y=>⟨decide (x=y),?_,?_⟩) (fun x=>?_)
 ·simp only[rqV,Value.agg.injEq]at h;simp at h;exact Prod.ext h.1 h.2
 ·have u:Tryz.prog.underlying 98=some (.struct (Tryz.prog.fieldsOf 98)):=by kernel_rfl
  have C:Tryz.prog.stoodInHeld 98=false:=by kernel_rfl
  have M:=underlying3;have I:=underlying24;have a1:=Tryz.isAgg3;have J:=Tryz.isAgg24;have U:=Tryz.sizeOf3;have z2:=Tryz.sizeOf24;simp only[rqV];show (Op.equalIn (9999+1) _ _ _).run _ w=_;rw[run_equalIn_agg w 9999 98 _ _ u C];simp only[Program.fieldsOf,underlying98]
  go_simp
  by_cases j:x.1=y.1<;>by_cases d:x.2=y.2<;>simp[j,d,Prod.ext_iff]
 ·simp[rqV];constructor
  ·rintro rfl;exact⟨rfl,rfl⟩
  ·rintro⟨j,d⟩;exact Prod.ext j d
 ·unfold Instr.sameBits;simp[rqV];constructor<;>(unfold Instr.sameBits;simp)
structure PM (w:World) (q:LB) (s:PL):Prop where
 i6:s.I.length=6
 l6:s.L.length=6
 v6:s.V.length=6
 b:blk w q.p 92 (plC q s)
 tm:TreeM w q.t q.tp (tr s.N)
 pm:∃m,MB u6 u6 w q.pm m∧m.Perm (tr s.N)
 rm:∃m,MB u6 rgV w q.rm m∧m.Perm (rgL s.N)
 gm:∃m,MB rqV grV w q.gm m∧m.Perm (grL s.G)
 am:∃m,MB rqV Value.bool w q.am m∧∀o r,1≤o→o≤6→gA m (o,r)=if jf s.R (o-1).toNat r=true then some true else none
 nd:q.l.Nodup
 kd:KD w
section
variable {w w':World}{q:LB}{s:PL}
theorem PM.keep (h:PM w q s)(d:∀k∈q.l,k<w.heap.size→w'.heap[k]? = w.heap[k]?):PM w' q s:=by
 have j:∀{k:Nat} {E:TypeId} {cs:List Value},k∈q.l→blk w k E cs→blk w' k E cs:=fun {k E cs} hm j=>by
  have:=d k hm j.lt
  unfold blk at *; rw[this];exact j
 obtain⟨i6,l6,v6,b,u,⟨m1,M,e1⟩,⟨m2,U,e2⟩,⟨m3,I,e3⟩,⟨Z,J,V⟩,nd,R⟩:=h;obtain⟨X,C,e0⟩:=u.mp
 exact⟨i6,l6,v6,j (by simp[LB.l]) b,⟨j (by simp[LB.l]) u.bt,⟨X,C.kept (d _ (by simp[LB.l]) C.lt),e0⟩,u.uq⟩,⟨m1,M.kept (d _ (by simp[LB.l]) M.lt),e1⟩,⟨m2,U.kept (d _ (by simp[LB.l]) U.lt),e2⟩,⟨m3,I.kept (d _ (by simp[LB.l]) I.lt),e3⟩,⟨Z,J.kept (d _ (by simp[LB.l]) J.lt),V⟩,nd,R.keep (d _ (by simp[LB.l]) R.lt)⟩
theorem PM.below (h:PM w q s)(d:Below w.heap.size w w'):PM w' q s:=h.keep fun k _ j=>d.block k j
theorem PM.ch {F:List Nat}(h:PM w q s)(j:Ch F w w')(hF:∀k∈q.l,k∉F):PM w' q s:=h.keep fun k d u=>j.block k u (hF k d)
theorem PM.drew (h:PM w q s):PM w.drew q s:=h.below (Below.refl _ w).drew
theorem PM.lt (h:PM w q s):∀k∈q.l,k<w.heap.size:=by
 obtain⟨i6,l6,X,b,d,⟨Z,I,e1⟩,⟨V,M,e2⟩,⟨m3,u,e3⟩,⟨U,C,R⟩,nd,J⟩:=h;intro k j;simp only[LB.l,List.mem_cons,List.not_mem_nil,or_false]at j;rcases j with rfl|rfl|rfl|rfl|rfl|rfl|rfl|rfl
 ·exact b.lt
 ·exact d.lt.1
 ·exact d.lt.2
 ·exact I.lt
 ·exact M.lt
 ·exact u.lt
 ·exact C.lt
 ·exact J.lt
/-! ## Its cells -/
theorem nU {A B:List Value}{n:Nat}(d:A.length=n)(k:Nat):(A++B)[n+k]? = B[k]? := by
 rw[List.getElem?_append_right (by omega),d,Nat.add_sub_cancel_left]
theorem Gp {A B:List Value}{n k:Nat}(h:A.length=n)(d:k<n):(A++B)[k]? = A[k]? := List.getElem?_append_left (by omega)
theorem uf {A B:List Value}{n:Nat}(d:A.length=n)(k:Nat)(v:Value):(A++B).set (n+k) v=A++B.set k v:=by
 rw[List.set_append_right _ _ (by omega),d,Nat.add_sub_cancel_left]
theorem Gq {A B:List Value}{n k:Nat}(h:A.length=n)(d:k<n)(v:Value):(A++B).set k v=A.set k v++B:=List.set_append_left _ _ (by omega)
theorem Kc {α:Type}{f:α→Value}{L:List α}{k:Nat}{d:α}(h:k<L.length):(L.map f)[k]? = some (f (L.getD k d)):=by
 rw[List.getElem?_map,List.getElem?_eq_getElem h];simp[List.getD,h]
theorem pQ {N:List ND}:(Bm N).length=6:=by simp[Bm]
theorem Hy {N:List ND}{k:Nat}(d:k<6):(Bm N).getD k 0=((gj N ((k:Nat)+1):Nat):Int):=by
 unfold Bm;rw[List.getD_eq_getElem?_getD,List.getElem?_map,List.getElem?_range d];rfl
theorem PM.cI (h:PM w q s){k:Nat}(d:k<6):(plC q s)[k]? = some (.bool (s.I.getD k false)):=by
 unfold plC;rw[Gp (n:=6) (by simp[h.i6]) d,Kc (by rw[h.i6];exact d)]
theorem PM.cL (h:PM w q s){k:Nat}(d:k<6):(plC q s)[6+k]? = some (.bool (s.L.getD k false)):=by
 unfold plC;rw[nU (by simp[h.i6]),Gp (n:=6) (by simp[h.l6]) d,Kc (by rw[h.l6];exact d)]
theorem PM.cV (h:PM w q s){k:Nat}(d:k<6):(plC q s)[12+k]? = some (u6 (s.V.getD k 0)):=by
 unfold plC;rw[show 12+k=6+(6+k)by omega,nU (by simp[h.i6]),nU (by simp[h.l6]),Gp (n:=6) (by rw[kI,h.v6]) d,xV h.v6 d]
theorem PM.cX (h:PM w q s)(k:Nat):(plC q s)[18+k]? = ([pB q.t,.map (some q.pm),.map (some q.rm)]++((Bm s.N).map iv++[.map (some q.gm),.map (some q.am)]))[k]? := by
 unfold plC;rw[show 18+k=6+(6+(6+k))by omega,nU (by simp[h.i6]),nU (by simp[h.l6]),nU (by rw[kI,h.v6])]
theorem PM.c18 (h:PM w q s):(plC q s)[18]? = some (pB q.t):=(h.cX 0).trans rfl
theorem PM.c19 (h:PM w q s):(plC q s)[19]? = some (.map (some q.pm)):=(h.cX 1).trans rfl
theorem PM.c20 (h:PM w q s):(plC q s)[20]? = some (.map (some q.rm)):=(h.cX 2).trans rfl
theorem PM.cO (h:PM w q s){k:Nat}(j:k<6):(plC q s)[21+k]? = some (iv ((gj s.N ((k:Nat)+1):Nat):Int)):=by
 rw[show 21+k=18+(3+k)by omega,h.cX,nU (n:=3) rfl,Gp (n:=6) (by simp[pQ]) j,Kc (d:=0) (by rw[pQ];exact j),Hy j]
theorem PM.c27 (h:PM w q s):(plC q s)[27]? = some (.map (some q.gm)):=by
 rw[show 27=18+(3+(6+0))by omega,h.cX,nU (n:=3) rfl,nU (n:=6) (by simp[pQ])];rfl
theorem PM.c28 (h:PM w q s):(plC q s)[28]? = some (.map (some q.am)):=by
 rw[show 28=18+(3+(6+1))by omega,h.cX,nU (n:=3) rfl,nU (n:=6) (by simp[pQ])];rfl
theorem PM.len (h:PM w q s):(plC q s).length=29:=by
 unfold plC;simp[h.i6,h.l6,kI,h.v6,pQ]
theorem xQ {α:Type}{f:α→Value}{L:List α}{k:Nat}{x:α}:(L.map f).set k (f x)=(L.set k x).map f:=by rw[List.map_set]
theorem PM.sI (h:PM w q s){k:Nat}(d:k<6)(b:Bool):(plC q s).set k (.bool b)=plC q {s with I:=s.I.set k b}:=by
 unfold plC;rw[Gq (n:=6) (by simp[h.i6]) d,xQ]
theorem PM.sL (h:PM w q s){k:Nat}(d:k<6)(b:Bool):(plC q s).set (6+k) (.bool b)=plC q {s with L:=s.L.set k b}:=by
 unfold plC;rw[uf (by simp[h.i6]),Gq (n:=6) (by simp[h.l6]) d,xQ]
theorem PM.sV (h:PM w q s){k:Nat}(d:k<6)(x:Int):(plC q s).set (12+k) (u6 x)=plC q {s with V:=s.V.set k x}:=by
 unfold plC;rw[show 12+k=6+(6+k)by omega,uf (by simp[h.i6]),uf (by simp[h.l6]),Gq (n:=6) (by rw[kI,h.v6]) d];unfold vCs;rw[xQ]
theorem PM.sO (h:PM w q s){k:Nat}(C:k<6){N:List ND}(hN:∀j,j<6→j≠k→gj N ((j:Nat)+1)=gj s.N ((j:Nat)+1)):(plC q s).set (21+k) (iv ((gj N ((k:Nat)+1):Nat):Int))=plC q {s with N:=N}:=by
 unfold plC;rw[show 21+k=6+(6+(6+(3+k)))by omega,uf (by simp[h.i6]),uf (by simp[h.l6]),uf (by rw[kI,h.v6]),uf (n:=3) rfl,Gq (n:=6) (by simp[pQ]) C,xQ];have e:(Bm s.N).set k ((gj N ((k:Nat)+1):Nat):Int)=Bm N:=by
  refine List.ext_getElem (by simp[pQ]) fun j J I=>?_;have d:j<6:=by simpa[pQ]using I
  rw[List.getElem_set];have a1:=Hy (N:=N) d;have u:=Hy (N:=s.N) d;rw[List.getD_eq_getElem?_getD,List.getElem?_eq_getElem (by rw[pQ];exact d)]at a1 u;simp only[Option.getD_some]at a1 u;by_cases e:k=j
  ·subst e;rw[if_pos rfl,a1]
  ·rw[if_neg e,u,a1,hN j d (fun e' => e e'.symm)]
 rw[e]
end
theorem y8 {w:World}{K:KV}{b o:Nat}(h:K (.pointer (some ⟨b,o+0,none⟩)) w):ai Tryz.prog 92 (.pointer (some ⟨b,o,none⟩)) 0 K w:=aM (by kernel_rfl) h
theorem Fb {w:World}{K:KV}{b o:Nat}(h:K (.pointer (some ⟨b,o+6,none⟩)) w):ai Tryz.prog 92 (.pointer (some ⟨b,o,none⟩)) 1 K w:=aM (by kernel_rfl) h
theorem vh {w:World}{K:KV}{b o:Nat}(h:K (.pointer (some ⟨b,o+12,none⟩)) w):ai Tryz.prog 92 (.pointer (some ⟨b,o,none⟩)) 2 K w:=aM (by kernel_rfl) h
theorem vi {w:World}{K:KV}{b o:Nat}(h:K (.pointer (some ⟨b,o+18,none⟩)) w):ai Tryz.prog 92 (.pointer (some ⟨b,o,none⟩)) 3 K w:=aM (by kernel_rfl) h
theorem Fc {w:World}{K:KV}{b o:Nat}(h:K (.pointer (some ⟨b,o+19,none⟩)) w):ai Tryz.prog 92 (.pointer (some ⟨b,o,none⟩)) 4 K w:=aM (by kernel_rfl) h
theorem pR {w:World}{K:KV}{b o:Nat}(h:K (.pointer (some ⟨b,o+20,none⟩)) w):ai Tryz.prog 92 (.pointer (some ⟨b,o,none⟩)) 5 K w:=aM (by kernel_rfl) h
theorem Fd {w:World}{K:KV}{b o:Nat}(h:K (.pointer (some ⟨b,o+21,none⟩)) w):ai Tryz.prog 92 (.pointer (some ⟨b,o,none⟩)) 6 K w:=aM (by kernel_rfl) h
theorem Bn {w:World}{K:KV}{b o:Nat}(h:K (.pointer (some ⟨b,o+27,none⟩)) w):ai Tryz.prog 92 (.pointer (some ⟨b,o,none⟩)) 7 K w:=aM (by kernel_rfl) h
theorem Bo {w:World}{K:KV}{b o:Nat}(h:K (.pointer (some ⟨b,o+28,none⟩)) w):ai Tryz.prog 92 (.pointer (some ⟨b,o,none⟩)) 8 K w:=aM (by kernel_rfl) h
/-! ## What its maps hold -/
section
variable {N:List ND}{G:List GR}{id:Int}
theorem DZ :gA (rgL N) id=match bL N id with|true=>some (aN N id)|false=>none:=by
 unfold rgL
 induction N with
 | nil=>rfl
 | cons x N ih =>
  by_cases h:x.id=id
  ·have d:bL (x::N) id=true:=ky.2 ⟨x,by simp,h⟩;have j:aN (x::N) id=x.A:=by unfold aN;rw[List.find?_cons_of_pos (by simpa using h)]
   rw[d,j];simp[gA,h]
  ·have d:bL (x::N) id=bL N id:=by unfold bL;simp[h]
   have j:aN (x::N) id=aN N id:=by unfold aN;rw[List.find?_cons_of_neg (by simpa using h)]
   rw[d,j, ←ih];simp[gA,h]
theorem Hz (h:bL N id=false):aN N id=z54:=by
 unfold aN;cases d:N.find? fun x=>x.id==id with
 | none=>rfl
 | some x =>
  have:=ky.2 ⟨x,List.mem_of_find?_eq_some d,by simpa using List.find?_some d⟩
  rw[h]at this;cases this
theorem xR {o q:Int}:gA (grL G) (o,q)=iA G o q:=by
 unfold grL iA
 induction G with
 | nil=>rfl
 | cons g G ih =>
  by_cases h:(g.o,g.q)=(o,q)
  ·have d:g.o=o∧g.q=q:=by simpa using h
   simp[gA,h,d]
  ·have d : ¬(g.o=o∧g.q=q):=by simpa using h
   have j:(g.o==o&&g.q==q)=false:=by
    rw[Bool.eq_false_iff];intro hh;rw[Bool.and_eq_true,beq_iff_eq,beq_iff_eq]at hh;exact d hh
   rw[List.map_cons,List.find?_cons,j];simp only[gA,h,if_false];exact ih
theorem ya (d:N.Pairwise (·.id < ·.id)):((rgL N).map (·.1)).Nodup:=by
 unfold rgL;rw[List.map_map];exact List.pairwise_map.2 (d.imp fun h e=>by
  have e:_=_:=e;simp only[Function.comp_apply]at e;omega)
theorem Bq (d:N.Pairwise (·.id < ·.id)):((tr N).map (·.1)).Nodup:=by
 unfold tr;rw[List.map_map];exact List.pairwise_map.2 (d.imp fun h e=>by
  have e:_=_:=e;simp only[Function.comp_apply]at e;omega)
theorem Br (d:G.Pairwise ltG):((grL G).map (·.1)).Nodup:=by
 unfold grL;rw[List.map_map];exact List.pairwise_map.2 (d.imp fun h e=>by
  have e:_=_:=e;simp only[Function.comp_apply,Prod.mk.injEq]at e;unfold ltG at h;omega)
end
theorem rgz :∀w,(zeroValue 36).run Tryz.prog w=.ok (rgV z54) w:=fun w=>by kernel_rfl
theorem grz :∀w,(zeroValue 100).run Tryz.prog w=.ok (grV ⟨0,0,0,0,0⟩) w:=fun w=>by kernel_rfl
theorem bz :∀w,(zeroValue 4).run Tryz.prog w=.ok (.bool false) w:=fun w=>by kernel_rfl
section
variable {w:World}{K:KV}{q:LB}{s:PL}
theorem PM.rg_l (h:PM w q s)(hi:PI s){id:Int}(d:K (rgV (aN s.N id)) w):lkp Tryz.prog 87 (.map (some q.rm)) (u6 id) false K w:=by
 obtain⟨m,u,j⟩:=h.rm;refine Nl (z0:=z54) u6K underlying87 rgz u ?_;rw[mn j (ya hi.srt),DZ];cases C:bL s.N id with
 | true=>exact d
 | false=>rw[Hz C]at d;exact d
theorem PM.rg_l2 (h:PM w q s)(hi:PI s){id:Int}(d:K (.tuple #[rgV (aN s.N id),.bool (bL s.N id)]) w):lkp Tryz.prog 87 (.map (some q.rm)) (u6 id) true K w:=by
 obtain⟨m,C,u⟩:=h.rm;refine QF (z0:=z54) u6K underlying87 rgz C ?_;rw[mn u (ya hi.srt),DZ];cases j:bL s.N id with
 | true=>rw[j]at d;exact d
 | false=>rw[Hz j,j]at d;exact d
theorem PM.par_l (h:PM w q s)(hi:PI s){id:Int}(hh:cf (tr s.N) id=true)(j:K (u6 (ew (tr s.N) id)) w):lkp Tryz.prog 86 (.map (some q.pm)) (u6 id) false K w:=by
 obtain⟨m,C,u⟩:=h.pm;refine Nl (z0:=0) u6K underlying86 u6z C ?_;have d:=Bq hi.srt;rw[mn u d,Az d,hh];exact j
theorem PM.ask_l (h:PM w q s){o r:Int}(I:1≤o)(C:o≤6)(d:K (.bool (jf s.R (o-1).toNat r)) w):lkp Tryz.prog 89 (.map (some q.am)) (rqV (o,r)) false K w:=by
 obtain⟨m,J,u⟩:=h.am;refine Nl (z0:=false) rqK underlying89 bz J ?_;rw[u o r I C];cases j:jf s.R (o-1).toNat r with
 | true=>rw[j]at d;exact d
 | false=>rw[j]at d;exact d
theorem PM.gr_l (h:PM w q s)(hi:PI s){o r:Int}(d:K (.tuple #[grV ((iA s.G o r).getD ⟨0,0,0,0,0⟩),.bool (iA s.G o r).isSome]) w):lkp Tryz.prog 88 (.map (some q.gm)) (rqV (o,r)) true K w:=by
 obtain⟨m,u,j⟩:=h.gm;refine QF (z0:=⟨0,0,0,0,0⟩) rqK underlying88 grz u ?_;rw[mn j (Br hi.gs),xR];exact d
end
end
section
open Go.RowKit Go.ChangeMaps
theorem PI.len30 {s:PL}(hi:PI s):s.N.length≤30:=by
 rw[HL fun x j=>by
  obtain⟨o,q,a1,h,u,d,a5,_⟩:=hi.ids x j;exact⟨o,q,a1,h,u,d,a5⟩]
 have:=hi.own 1
 have:=hi.own 2
 have:=hi.own 3
 have:=hi.own 4
 have:=hi.own 5
 have:=hi.own 6
 omega
theorem IdR.imp {w w':World}{B c:Nat}{a:Option Addr}{ids:List Int}(h:IdR w B a c ids)(j:∀g cs,B≤g→blk w g 24 cs→blk w' g 24 cs):IdR w' B a c ids:=by
 rcases h with h|⟨g,rest,e1,e2,e3,d⟩
 ·exact .inl h
 ·exact .inr ⟨g,rest,e1,e2,e3,j _ _ e2 d⟩
theorem HA {N:List ND}:(tr N).length=N.length:=by simp[tr]
theorem PI.plen {s:PL}(hi:PI s)(id:Int):(dh s.N id).length≤4:=by
 cases d:cf (tr s.N) id with
 | true =>
  obtain⟨x,h,e⟩:=je.1 d;obtain⟨y,j,rfl⟩:=List.mem_map.1 h;have e:y.id=id:=e;rw[←e];exact hi.dep y j
 | false=>simp[dh,df,cw,d]
structure RoI (w0 v:World) (q:LB) (s:PL) (y t tp b1 D:Nat) (a:Option Addr) (c B:Nat) (P l:List Int):Prop where
 pm:PM v q s
 lv:blk v w0.heap.size 48 [pB q.p]
 tv:blk v y 84 [pB t]
 tb:∃S,TreeM v t tp S∧RI (tr s.N) S l l
 sl:blk v b1 76 [.slice a P.length c]
 ids:IdR v B a c P
 bel:Below w0.heap.size w0 v
 dm:v.heap[D]? = some (.deferred (some []))
 sz:D+2≤v.heap.size
section
variable {w0 v v':World}{q:LB}{s:PL}{y t tp b1 D c B:Nat}{a:Option Addr}{P l l':List Int}
theorem RoI.ch (h:RoI w0 v q s y t tp b1 D a c B P l){F:List Nat}(j:Ch F v v')(hF:∀k∈F,w0.heap.size<k∧k≠y∧k≠b1∧k≠D∧(∀cs,¬blk v k 24 cs))(J:∀k∈q.l,k<w0.heap.size)(I:∃S,TreeM v' t tp S∧RI (tr s.N) S l' l'):RoI w0 v' q s y t tp b1 D a c B P l' where
 pm:=h.pm.ch j fun k u d=>by have:=J k u;have:=(hF k d).1;omega
 lv:=h.lv.ch j fun d=>by have:=(hF _ d).1;omega
 tv:=h.tv.ch j fun d=>(hF _ d).2.1 rfl
 tb:=I
 sl:=h.sl.ch j fun d=>(hF _ d).2.2.1 rfl
 ids:=h.ids.imp fun g cs _ C=>C.ch j fun d=>(hF _ d).2.2.2.2 _ C
 bel:=⟨j.os.trans h.bel.os,j.tape.trans h.bel.tape,j.output.trans h.bel.output,Nat.le_trans h.bel.size j.size,fun k u=>by
  rw[j.block k (Nat.lt_of_lt_of_le u h.bel.size) (fun d=>by have:=(hF k d).1;omega),h.bel.block k u]⟩
 dm:=(j.block D (by have:=h.sz;omega) (fun d=>(hF _ d).2.2.2.1 rfl)).trans h.dm
 sz:=Nat.le_trans h.sz j.size
theorem xS {w:World}{k:Nat}{o:Obj}{E:TypeId}(j:w.heap[k]? = some o)(d:∀cs z,o≠.cells cs E z)(cs:List Value):¬blk w k E cs:=by
 intro h;unfold blk at h;rw[j]at h;exact d _ _ (Option.some.inj h)
theorem TreeM.mo {w:World}{t tp:Nat}{T:List (Int×Int)}(h:TreeM w t tp T):∃es c,w.heap[tp]? = some (.map es c):=by
 obtain⟨m,⟨es,c,d⟩,_⟩:=h.mp;exact⟨es,c,d.heap⟩
end
section
variable {w:World}{K:KV}{q:LB}{s:PL}
theorem IdR.at2 {B c:Nat}{a:Option Addr}{ids:List Int}{K2:Value→KV}(h:IdR w B a c ids){i:Nat}(hi:i<ids.length)(d:∀p,K2 p (u6 ids[i]) w):aU Tryz.prog 76 (.slice a ids.length c) (.int .i64 (i:Nat)) (fun p=>ld Tryz.prog 24 p (K2 p)) w:=by
 rcases h with⟨rfl,_⟩|⟨g,rest,rfl,u,C,j⟩
 ·simp at hi
 refine eu underlying76 (s:=1) (fun _=>by kernel_rfl) (by omega) (by omega) ?_;rw[Int.toNat_natCast,Nat.mul_one,Nat.zero_add];refine lK (v:=u6 ids[i]) j ?_ (d _);rw[List.getElem?_append_left (by simpa using hi),List.getElem?_map,List.getElem?_eq_getElem hi];rfl
theorem SI {id par:Int}(h:PM w q s)(hi:PI s)(C:∀w',Below w.heap.size w w'→K (.int .i64 (iE (tr s.N) id par).2) w'):call Tryz.prog 162 #[pB q.p,u6 id,u6 par] K w:=by
 have ar:=h.lt;obtain⟨rk,an⟩:=hi.tk;have dr:=hi.len30;have cL:(df (tr s.N) par).length≤4:=hi.plen par;obtain⟨P,hP⟩:∃P,P=df (tr s.N) par:=⟨_,rfl⟩
 have ag:∀i n,P[i]? = some n→n≠0∧cf (tr s.N) n=true∧((i+1=P.length∧ew (tr s.N) n=0)∨P[i+1]? = some (ew (tr s.N) n)):=fun i n V=>by
  rw[hP]at V ⊢;exact Jk an _ _ (by have:=yf an par;omega) i n V
 have ce:P.Nodup:=by rw[hP];exact(xy an _ _).imp fun {a b} d5 e=>by subst e;omega
 rw[←hP]at cL;refine aB (goK func162) (AU ?_);refine dc fun w1 h1 b1 s1=>Ou fun w2 t tp cj b2 l2 d4=>?_;have h1:blk w1 w.heap.size 48 [pB q.p]:=by simpa[Value.cells]using h1
 refine dH (z:=.pointer none) (by kernel_rfl) fun w3 h3 b3 s3=>?_;have h3:blk w3 w2.heap.size 84 [.pointer none]:=by simpa[Value.cells]using h3
 refine dY (fun _=>by kernel_rfl) h3 (by show 0<1;decide) rfl fun w4 h4 o4=>?_;have h4:blk w4 w2.heap.size 84 [pB t]:=h4;obtain⟨y,hy⟩:∃y,y=w2.heap.size:=⟨_,rfl⟩
 rw[←hy]at h4 o4 ⊢;have d1:=cj.lt;have dk:=b2.size;have B4:Below w.heap.size w w4:=bA (b1.trans ((b2.mono (by omega)).trans (b3.mono (by omega)))) o4 (by omega);have l4:blk w4 w.heap.size 48 [pB q.p]:=o4.blk (af b3 (af b2 h1 h1.lt) (by omega)) (by omega);have t4:TreeM w4 t tp []:=(cj.below b3).oth o4 (by omega) (by omega);have p4:=h.below B4
 refine lK (v:=pB q.p) l4 rfl (aw (vi (lK (v:=pB q.t) p4.b (by rw[Nat.zero_add];exact p4.c18) ?_)));refine HD an p4.tm (by rw[HA];omega) fun w5 a c ho b5=>?_;rw[←hP]at ho ⊢;have cV:IdR w5 w4.heap.size a c P:=IdR.own ho rfl;refine SA fun w6 h6 b6 s6=>?_;have s4:w4.heap.size=w2.heap.size+1:=by rw[o4.size,s3]
 have bk:=b5.size;refine OE (g:=.tmp 21) (ps:=#[22,23]) (a:=cd kL []) (bd:=cd kM []) (gf:=190) (cap:=[pB w5.heap.size]) (by kernel_rfl) rfl ?_;intro fn W bW sW hD hL;have av:Below w4.heap.size w4 W:=b5.trans ((b6.mono bk).trans (bW.mono (by omega)));have be:RoI w W q s y t tp w5.heap.size w6.heap.size a c w4.heap.size P [] :=
  ⟨p4.below av,af av l4 l4.lt,af av h4 h4.lt,⟨[],t4.below av,RI.nil⟩,af bW h6 h6.lt,(cV.below b6).below bW,B4.trans (av.mono B4.size),hD,by omega⟩
 generalize d7:w6.heap.size=D at *;have da:∀{j:Nat},P.drop (P.length-0)=[]:=by simp
 refine SB (ids:=P) (c:=c) (a:=a) (B:=w4.heap.size) Gs (by omega)
  (fun j v=>RoI w v q s y t tp w5.heap.size D a c w4.heap.size P (P.drop (P.length-j))∧v.heap[D+1]? = some (.loop (mE fn _ #[22,23] (cd kL []) (cd kM []) D .ready none))) (fun _=>False)
  ⟨by simpa using be,hL⟩ (fun j v hv=>⟨hv.1.sl,hv.1.ids⟩) ?_ ?_ (fun _ hh=>hh.elim)
 ·rintro j k x v K' dz hx ⟨hR,hl⟩ kT kF;obtain⟨a9,cn,cQ⟩:=ag k x hx;have c5:P.drop (P.length-j)=P.drop (k+1):=by congr 1;omega
  have ap:k<P.length:=by omega
  have cm:P.drop (P.length-(j+1))=x::P.drop (k+1):=by
   rw[show P.length-(j+1)=k by omega,List.drop_eq_getElem_cons ap];rw[List.getElem?_eq_getElem ap]at hx;rw[Option.some.inj hx]
  rw[c5]at hR;refine⟨by kernel_rfl,by kernel_rfl,hl,rfl,zG ⟨hl,zH ?_⟩⟩;generalize aS:v.putObj (D+1) _=v1;have U:Oth (D+1) v v1:=aS ▸ oth_put;have l1:v1.heap[D+1]? = some (.loop (mE fn _ #[22,23] (cd kL []) (cd kM []) D .busy none)):=aS ▸ World.putObj_heap_same (by have:=hR.sz;omega);obtain⟨S,hS,bi⟩:=hR.tb;have cp:=hS.lt;have d0:w.heap.size<D:=by have:=hR.sz;have:=bk;omega
  have R1:RoI w v1.drew q s y t tp w5.heap.size D a c w4.heap.size P (P.drop (k+1)):=hR.ch (F:=[D+1]) ⟨U.os,U.tape,U.output,by show v.heap.size≤v1.heap.size;rw[U.size];exact Nat.le_refl _,fun k _ C=>U.other k (by simpa using C)⟩
   (fun k C=>by
    have C:k=D+1:=by simpa using C
    subst C;exact⟨by omega,by omega,by omega,by omega,xS hl (by simp)⟩) ar ⟨S,(hS.oth U (by omega) (by omega)).drew,bi⟩
  have dj:(x::P.drop (k+1)).length=j+1:=by simp;omega
  refine aE (fun u=>PM u q s∧blk u w.heap.size 48 [pB q.p]∧blk u y 84 [pB t]) ⟨R1.pm,R1.lv,R1.tv⟩ <|ab (fun u hu _=>lK (v:=pB t) hu.2.2 rfl) <|ab (fun u hu _=>lK (v:=pB q.p) hu.2.1 rfl) ?_;refine ab (fun u hu _=>aw) (ab (fun u hu _=>Fc) ?_);refine ab (fun u hu _=>lK (v:=.map (some q.pm)) hu.1.b (by rw[Nat.zero_add];exact hu.1.c19)) <|ab (fun u hu _=>hu.1.par_l hi cn) ?_;obtain⟨S1,X,I⟩:=R1.tb
  obtain⟨d3,cG⟩:=I.tk;have c4:=I.len;have d6:(P.drop (k+1)).length=j:=by simp;omega
  have cX:x∉P.drop (k+1):=by
   have V:=ce;rw[←List.take_append_drop k P,List.drop_eq_getElem_cons ap]at V;rw[List.getElem?_eq_getElem ap]at hx;rw[Option.some.inj hx]at V;exact(List.nodup_cons.1 (List.nodup_append.1 V).2.1).1
  have b0:ew (tr s.N) x=0∨ew (tr s.N) x∈P.drop (k+1):=by
   rcases cQ with⟨_,hh⟩|hh
   ·exact .inl hh
   ·right
    have:(P.drop (k+1))[0]? = some (ew (tr s.N) x):=by rw[List.getElem?_drop,Nat.add_zero];exact hh
    exact List.mem_of_getElem? this
  obtain⟨e0,_,a3⟩:=I.add a9 cX b0 (by omega) (.inr (by omega));refine Gt cG X (by omega) fun w7 a0 c7=>?_;obtain⟨es,cc,a2⟩:=X.mo;have R7:=R1.ch (F:=[tp]) c7 (fun k C=>by
    have C:k=tp:=by simpa using C
    subst C;refine⟨by omega,by omega,?_,by omega,xS a2 (by simp)⟩;intro e
    have:=R1.sl
    rw[←e]at this;unfold blk at this;rw[a2]at this;cases this) ar ⟨_,a0,a3 rfl⟩
  have l7:w7.heap[D+1]? = some (.loop (mE fn _ #[22,23] (cd kL []) (cd kM []) D .busy none)):=(c7.block (D+1) (by have:=R1.sz;omega) (by simp;omega)).trans l1;refine⟨l7,kT _ ⟨?_,World.putObj_heap_same (by have:=R7.sz;omega)⟩⟩;rw[cm];generalize c1:w7.putObj (D+1) _=v8;have o8:Oth (D+1) w7 v8:=c1 ▸ oth_put
  exact R7.ch (F:=[D+1]) ⟨o8.os,o8.tape,o8.output,by rw[o8.size];exact Nat.le_refl _,fun k _ C=>o8.other k (by simpa using C)⟩
   (fun k C=>by
    have C:k=D+1:=by simpa using C
    subst C;exact⟨by omega,by omega,by omega,by omega,xS l7 (by simp)⟩) ar ⟨_,a0.oth o8 (by omega) (by omega),a3 rfl⟩
 ·rintro v ⟨hR,hl⟩;rw[Nat.sub_self,List.drop_zero]at hR;refine⟨none,hl,zF ?_⟩;generalize aS:v.putObj (D+1) _=v1;have U:Oth (D+1) v v1:=aS ▸ oth_put;obtain⟨S,hS,bi⟩:=hR.tb;have cp:=hS.lt;have d0:w.heap.size<D:=by have:=hR.sz;have:=bk;omega
  have R1:RoI w v1 q s y t tp w5.heap.size D a c w4.heap.size P P:=hR.ch (F:=[D+1]) ⟨U.os,U.tape,U.output,by rw[U.size];exact Nat.le_refl _,fun k _ C=>U.other k (by simpa using C)⟩
   (fun k C=>by
    have C:k=D+1:=by simpa using C
    subst C;exact⟨by omega,by omega,by omega,by omega,xS hl (by simp)⟩) ar ⟨S,hS.oth U (by omega) (by omega),bi⟩
  refine lK (v:=pB q.p) R1.lv rfl (aw (vi (lK (v:=pB q.t) R1.pm.b (by rw[Nat.zero_add];exact R1.pm.c18) ?_)));refine Mc R1.pm.tm (by rw[HA];omega) fun w7 a7 c7 ids J cO bv b7=>?_;have c6:ids.length=s.N.length:=by rw[J.length_eq,List.length_map,HA]
  have a6:ids.Nodup:=cO.imp fun hh=>by omega
  refine bx underlying76 ?_;obtain⟨S1,X,I⟩:=R1.tb;have R7:RoI w w7 q s y t tp w5.heap.size D a c w4.heap.size P P:=R1.ch (F:=[]) (Ch.of_below b7) (by simp) ar ⟨S1,X.below b7,I⟩;have a0:=X.below b7;clear R1 X;have d2:D+2≤v1.heap.size:=by rw[U.size];exact hR.sz
  let lk:Nat→List Int:=fun k=>((ids.take k).filter fun n=>!P.contains n).reverse++P
  refine wN (Inv:=fun i wr=>∃(k:Nat) (S:List (Int×Int)),i=iv (k:Nat)∧k≤ids.length∧TreeM wr t tp S∧RI (tr s.N) S (lk k) P∧blk wr y 84 [pB t]∧IdR wr w4.heap.size a c P∧IdR wr v1.heap.size a7 c7 ids∧Below w.heap.size w wr∧wr.heap[D]? = some (.deferred (some []))∧D+2≤wr.heap.size)
   (μ:=fun i _=>ids.length-(intOf i).toNat) ⟨0,S1,rfl,Nat.zero_le _,a0,I,R7.tv,R7.ids,bv,R7.bel,R7.dm,R7.sz⟩ ?_
  rintro _ dd w8 m ⟨k,S8,rfl,ap,Z,d,az,al,R,M,bb,ca⟩ hm;have c8:=d.len;obtain⟨dp,ck⟩:=d.tk;have a8:∀n∈lk k,n∈ids:=by
   intro n V;rcases List.mem_append.1 V with V|V
   ·exact List.mem_of_mem_take ((List.mem_filter.1 (List.mem_reverse.1 V)).1)
   ·rw[J.mem_iff,List.mem_map];obtain⟨i,hi2,e⟩:=List.getElem_of_mem V;obtain⟨_,hh,_⟩:=ag i n (by rw[List.getElem?_eq_getElem hi2,e]);obtain⟨z,hz,e⟩:=je.1 hh;exact⟨z,hz,e⟩
  have d8:(lk k).length≤s.N.length:=by rw[←c6];exact vR d.nd a8
  refine aV ?_;by_cases ad:k<ids.length
  ·refine ay (by omega) (wO (R.at2 ad fun pt=>?_));have hx:ids[k]? = some ids[k]:=List.getElem?_eq_getElem ad;generalize dg:ids[k]=x at hx;have a4:ids.take (k+1)=ids.take k++[x]:=by rw[List.take_add_one,hx];rfl
   refine Ly al (by omega) (rT ?_);by_cases am:x∈P
   ·refine au (by simpa using am) (qy (aR (by omega) (by omega) ?_));have e:lk (k+1)=lk k:=by simp only[lk];rw[a4];simp[am]
    exact⟨⟨k+1,S8,ivS,ad,Z,by rw[e];exact d,az,al,R,M,bb,ca⟩,by rw[hm];show ids.length-((k:Int)+1).toNat<ids.length-(k:Int).toNat;omega⟩
   ·refine ay am (lK (v:=pB t) az rfl ?_);have e:lk (k+1)=x::lk k:=by simp only[lk];rw[a4];simp[am]
    have c2:x∉lk k:=by
     intro hh;rcases List.mem_append.1 hh with hh|hh
     ·have hh:=(List.mem_filter.1 (List.mem_reverse.1 hh)).1;obtain⟨i,hi2,e2⟩:=List.getElem_of_mem hh;rw[List.getElem_take]at e2;have c3:i<k:=by simp at hi2;omega
      have:=(List.pairwise_iff_getElem.1 a6) i k (by omega) ad c3
      rw[dg]at this;exact this e2
     ·exact am hh
    have a9:x≠0:=by
     have:x∈ids:=List.mem_of_getElem? hx
     rw[J.mem_iff,List.mem_map]at this;obtain⟨z,hz,e2⟩:=this;rw[←e2];exact an.nz z hz
    obtain⟨e0,cl,_⟩:=d.add a9 c2 (.inl rfl) (by omega) (.inl rfl);refine Gt ck Z (by omega) fun w9 bt c9=>qy (aR (by omega) (by omega) ?_);obtain⟨es,cc,a2⟩:=Z.mo;have cg:∀g cs,blk w8 g 24 cs→blk w9 g 24 cs:=fun g cs hb=>hb.ch c9 (fun hf=>by
     have hf:g=tp:=by simpa using hf
     subst hf;exact xS a2 (by simp) _ hb)
    have b4:=Z.lt;refine⟨⟨k+1,_,ivS,ad,bt,by rw[e];exact cl,az.ch c9 (by simp;omega),al.imp fun g cs _=>cg g cs,R.imp fun g cs _=>cg g cs,?_,(c9.block D (by omega) (by simp;omega)).trans bb,Nat.le_trans ca c9.size⟩,by rw[hm];show ids.length-((k:Int)+1).toNat<ids.length-(k:Int).toNat;omega⟩;exact M.trans (c9.below (by simp;omega) M.size)
  ·refine au (by omega) (wP (lK (v:=pB t) az rfl ?_));have e:ids.take k=ids:=by rw[List.take_of_length_le (by omega)]
   have cI:(lk k).Perm ((tr s.N).map (·.1)):=by
    refine List.Perm.trans ?_ J;refine(List.perm_ext_iff_of_nodup d.nd a6).2 fun n=>⟨a8 n,fun V=>?_⟩
    show n∈((ids.take k).filter fun n=>!P.contains n).reverse++P;rw[e];by_cases b8:n∈P
    ·exact List.mem_append_right _ b8
    ·exact List.mem_append_left _ (List.mem_reverse.2 (List.mem_filter.2 ⟨V,by simpa using b8⟩))
   rw[hP]at d;have b9:=d.err (id:=id) cI;refine Gt ck Z (by omega) fun w9 bt c9=>?_;have b4:=Z.lt;have cD:w9.heap[D]? = some (.deferred (some [])):=(c9.block D (by omega) (by simp;omega)).trans bb;refine⟨cD,?_⟩;rw[b9];refine C _ (bA (p:=D) (M.trans (c9.below (by simp;omega) M.size)) oth_put (by omega))
end
end
section
open Go.RowKit Go.ChangeMaps
/-! ## Plain -/
def pC (e:EV)(s:PL):PL:={eff e s with V:=s.V}
section
variable {κ ν:Type}[DecidableEq κ]
theorem IS {m L:List (κ×ν)}(j:(m.map (·.1)).Nodup)(hL:(L.map (·.1)).Nodup)(h:∀y,gA m y=gA L y):m.Perm L:=by
 have nd:∀{l:List (κ×ν)},(l.map (·.1)).Nodup→l.Nodup:=fun {l} h=>List.Pairwise.of_map (·.1) (fun a b d e=>d (by rw[e])) h;refine(List.perm_ext_iff_of_nodup (nd j) (nd hL)).2 fun⟨k,v⟩=>⟨fun hh=>?_,fun hh=>?_⟩
 ·exact Ff (by rw[←h];exact pf j hh)
 ·exact Ff (by rw[h];exact pf hL hh)
end
theorem MB.nodup {κ ν:Type}{kv:κ→Value}{vv:ν→Value}{w:World}{b:Nat}{m:List (κ×ν)}(h:MB kv vv w b m):(m.map (·.1)).Nodup:=by
 obtain⟨_,_,h⟩:=h;exact h.nodup
theorem zW {x:ND}:∀{N:List ND},(dL x N).Perm (x::N)
 | []=>.refl _
 | y::N=>by
  unfold dL;split
  ·exact .refl _
  ·exact((zW (x:=x) (N:=N)).cons y).trans (List.Perm.swap x y N)
theorem insG_perm {x:GR}:∀{G:List GR},(ib x G).Perm (x::G)
 | []=>.refl _
 | y::G=>by
  unfold ib;split
  ·exact .refl _
  ·exact((insG_perm (x:=x) (G:=G)).cons y).trans (List.Perm.swap x y G)
theorem U9 {n c:Nat}(j:n<16777216)(u:c<1099511627776):sH .or .u64 ((n*1099511627776:Nat):Int) (c:Int)=((n*1099511627776+c:Nat):Int):=by
 unfold sH;have h:IntKind.u64.bits=64:=rfl;simp only[h,hZ]
 have:(BitVec.ofInt 64 ((n*1099511627776:Nat):Int) ||| BitVec.ofInt 64 ((c:Nat):Int)).toNat=n*1099511627776+c:=by
  rw[BitVec.toNat_or,BitVec.ofInt_natCast,BitVec.ofInt_natCast,BitVec.toNat_ofNat,BitVec.toNat_ofNat];rw[Nat.mod_eq_of_lt (by omega),Nat.mod_eq_of_lt (by omega)];have d:=Nat.shiftLeft_add_eq_or_of_lt (i:=40) (b:=c) (by omega) n;rw[Nat.shiftLeft_eq]at d;rw[←d]
 show ((BitVec.ofInt 64 ((n*1099511627776:Nat):Int) ||| BitVec.ofInt 64 ((c:Nat):Int)).toNat:Int)%18446744073709551616=_;rw[this];omega
def Ua (w':World)(q:LB)(s1:PL)(fv:Value):Prop:=∀(w2:World) (K2:KV),Below w'.heap.size w' w2→(∀w3,PM w3 q s1→Ch q.w w2 w3→K2 (.tuple #[]) w3)→dC Tryz.prog fv #[] K2 w2
section
variable {e:EV}{s:PL}
theorem SJ (k:e.k=1):pC e s={s with N:=dL ⟨idE e,e.n,z54.set e.q e.a⟩ s.N}:=by simp[pC,eff,mG,mH,kw,nop,gop,NOp.ap,GOp.ap,k]
theorem SM (k:e.k=2):pC e s={s with N:=s.N.map (dN [e.n] e.q e.a)}:=by simp[pC,eff,mG,mH,kw,nop,gop,NOp.ap,GOp.ap,k]
theorem SN (k:e.k=3):pC e s={s with N:=s.N.map (dN (dh s.N e.n) (6+e.q) e.a),G:=ib ⟨e.o,e.r,e.n,e.a,0⟩ s.G,R:=s.R.set e.q (s.R.getD e.q []++[e.r])}:=by simp[pC,eff,mG,mH,kw,nop,gop,NOp.ap,GOp.ap,k]
theorem SP (k:e.k=4):pC e s={s with N:=s.N.map (dN (dh s.N (gOf s e).n) (12+e.q) (gOf s e).a),G:=s.G.map (mF e.o e.f e.r),R:=s.R.set e.q (s.R.getD e.q []++[e.r])}:=by simp[pC,eff,mG,mH,kw,nop,gop,NOp.ap,GOp.ap,k]
theorem SQ (k:e.k=5):pC e s={s with N:=s.N.map (dN [e.n] (18+6*e.q+(e.t-1).toNat) e.a)}:=by simp[pC,eff,mG,mH,kw,nop,gop,NOp.ap,GOp.ap,k]
theorem SR (k:e.k=6):pC e s={s with I:=s.I.set (e.t-1).toNat true}:=by simp[pC,eff,mG,mH,kw,nop,gop,NOp.ap,GOp.ap,k]
theorem SS (k:e.k=7):pC e s={s with L:=s.L.set e.q true}:=by simp[pC,eff,mG,mH,kw,nop,gop,NOp.ap,GOp.ap,k]
end
theorem ixO {w:World}{b o k:Nat}{i:Int}{K:KV}(hi:i=(k:Nat))(d:k<6)(hK:K (.pointer (some ⟨b,o+k,none⟩)) w):aU Tryz.prog 90 (.pointer (some ⟨b,o,none⟩)) (.int .i64 i) K w:=by
 subst hi;exact dB underlying90 (s:=1) (fun _=>by kernel_rfl) (by omega) (by omega) (by rw[Int.toNat_natCast,Nat.mul_one];exact hK)
theorem HB {w:World}{b o k:Nat}{i:Int}{K:KV}(hi:i=(k:Nat))(d:k<6)(hK:K (.pointer (some ⟨b,o+k,none⟩)) w):aU Tryz.prog 23 (.pointer (some ⟨b,o,none⟩)) (.int .i64 i) K w:=by
 subst hi;exact dB underlying23 (s:=1) (fun _=>by kernel_rfl) (by omega) (by omega) (by rw[Int.toNat_natCast,Nat.mul_one];exact hK)
structure LE (w0 w:World) (q:LB) (e:EV):Prop where
 l:blk w w0.heap.size 48 [pB q.p]
 e:blk w (w0.heap.size+1) 54 (evC e)
 bel:Below w0.heap.size w0 w
section
variable {w0 w w':World}{q:LB}{e:EV}
theorem LE.fresh (g:LE w0 w q e)(d:Below w.heap.size w w'):LE w0 w' q e:=⟨af d g.l g.l.lt,af d g.e g.e.lt,g.bel.trans (d.mono g.bel.size)⟩
theorem LE.sz (g:LE w0 w q e):w0.heap.size+2≤w.heap.size:=g.e.lt
theorem LE.drew (g:LE w0 w q e):LE w0 w.drew q e:=g.fresh (Below.refl _ w).drew
theorem LE.oth {b:Nat}(g:LE w0 w q e)(o:Oth b w w')(d:w0.heap.size+2≤b):LE w0 w' q e:=⟨o.blk g.l (by omega),o.blk g.e (by omega),bA g.bel o (by omega)⟩
end
section
variable {w:World}{K:KV}{q:LB}{s:PL}{e:EV}
theorem LE.make {K2:Value→Value→World→Prop}(h:∀w',LE w w' q e→w'.heap.size=w.heap.size+2→K2 (pB w.heap.size) (pB (w.heap.size+1)) w'):box Tryz.prog 48 (pB q.p) (fun l=>box Tryz.prog 54 (.agg (evC e).toArray) (K2 l)) w:=by
 refine dc fun u d b1 s1=>Gn fun C j b2 s2=>?_;have d:blk u w.heap.size 48 [pB q.p]:=by simpa[Value.cells]using d
 rw[s1]at j ⊢;exact h C ⟨af b2 d d.lt,j,b1.trans (b2.mono (by omega))⟩ (by omega)
theorem CN {o x:Int}(J:1≤o)(I:o≤6)(u:1≤x)(C:x<1099511627776)(h:K (u6 (o*M40+x)) w):call Tryz.prog 161 #[iv o,u6 x] K w:=by
 refine aB (goK func161) (Np (aV (dZ (by omega) (cB (bE (by omega) (dZ (by omega) (aV (bE (by omega) (dZ (by omega) (cH (bE (by omega) (au (by omega) ?_))))))))))));refine eK underlying3 underlying24 ?_;rw[hZ,show o%18446744073709551616=o by omega];refine AA (by omega) ?_;have e:o*2 ^ (min (40:Int).toNat IntKind.u64.bits)=o*1099511627776:=rfl
 obtain⟨d,rfl⟩:=Int.eq_ofNat_of_zero_le (show 0≤o by omega);obtain⟨j,rfl⟩:=Int.eq_ofNat_of_zero_le (show 0≤x by omega);rw[e,hZ,show (d:Int)*1099511627776%18446744073709551616=((d*1099511627776:Nat):Int)by omega];refine Uc ?_;rw[U9 (by omega) (by omega)];have e2:((d*1099511627776+j:Nat):Int)=(d:Int)*M40+(j:Int):=by simp only[M40];omega
 rw[e2];exact h
theorem sD {t:TypeId}{x:Value}(d:(Tryz.prog.info? t).bind (·.zero)=some x)(j:x.cells.toList=[x])(h:∀w',blk w' w.heap.size t [x]→Below w.heap.size w w'→w'.heap.size=w.heap.size+1→K (pB w.heap.size) w'):alc Tryz.prog t K w :=
 dH d fun w' u b s=>h w' (by rwa[j]at u) b s
theorem mk6 {S0:World→Prop}{T:Value→Value→Value→(World→Prop)→World→Prop}{o x:Int}(V:1≤o)(R:o≤6)(M:1≤x)(U:x<1099511627776)(C:∀w',Below w.heap.size w w'→S0 w')(h:∀w' X bk,blk w' X 24 [u6 0]→blk w' bk 3 [iv 0]→X≠bk→w.heap.size≤X→w.heap.size≤bk→Below w.heap.size w w'→T (u6 (o*M40+x)) (pB X) (pB bk) S0 w'):(call Tryz.prog 161 #[iv o,u6 x] (fun t=>bF S0 fun S w=>(alc Tryz.prog 24 (fun i=>bF S fun S=>alc Tryz.prog 3 fun k=>bF S fun S=>T t i k S) w)∧(alc Tryz.prog 3 (fun k=>bF S fun S=>alc Tryz.prog 24 fun i=>bF S fun S=>T t i k S) w)) w) ∧
    ((alc Tryz.prog 24 (fun i=>bF S0 fun S w=>(call Tryz.prog 161 #[iv o,u6 x] (fun t=>bF S fun S=>alc Tryz.prog 3 fun k=>bF S fun S=>T t i k S) w)∧(alc Tryz.prog 3 (fun k=>bF S fun S=>call Tryz.prog 161 #[iv o,u6 x] fun t=>bF S fun S=>T t i k S) w)) w) ∧
     (alc Tryz.prog 3 (fun k=>bF S0 fun S w=>(call Tryz.prog 161 #[iv o,u6 x] (fun t=>bF S fun S=>alc Tryz.prog 24 fun i=>bF S fun S=>T t i k S) w)∧(alc Tryz.prog 24 (fun i=>bF S fun S=>call Tryz.prog 161 #[iv o,u6 x] fun t=>bF S fun S=>T t i k S) w)) w)):=by
  have ad:=C w (Below.refl _ w);have Z:∀d w2,Below w.heap.size w d→blk d w.heap.size 24 [u6 0]→d.heap.size=w.heap.size+1→blk w2 d.heap.size 3 [iv 0]→Below d.heap.size d w2→Below w.heap.size w w2∧T (u6 (o*M40+x)) (pB w.heap.size) (pB d.heap.size) S0 w2:=fun d w2 b1 u s1 I b2 =>
    have j:=b1.trans (b2.mono (by omega))
    ⟨j,h w2 _ _ (af b2 u u.lt) I (by omega) (by omega) (by omega) j⟩
  have ki:∀d w2,Below w.heap.size w d→blk d w.heap.size 3 [iv 0]→d.heap.size=w.heap.size+1→blk w2 d.heap.size 24 [u6 0]→Below d.heap.size d w2→Below w.heap.size w w2∧T (u6 (o*M40+x)) (pB d.heap.size) (pB w.heap.size) S0 w2:=fun d w2 b1 u s1 I b2 =>
    have j:=b1.trans (b2.mono (by omega))
    ⟨j,h w2 _ _ I (af b2 u u.lt) (by omega) (by omega) (by omega) j⟩
  refine⟨CN V R M U (aO ad ⟨?_,?_⟩),?_,?_⟩
  · refine sD (x:=u6 0) (by kernel_rfl) rfl fun d u b1 s1=>aO (C _ b1) (sD (x:=iv 0) (by kernel_rfl) rfl fun w2 I b2 s2=>?_)
    obtain⟨j,J⟩:=Z d w2 b1 u s1 I b2;exact aO (C _ j) J
  · refine sD (x:=iv 0) (by kernel_rfl) rfl fun d u b1 s1=>aO (C _ b1) (sD (x:=u6 0) (by kernel_rfl) rfl fun w2 I b2 s2=>?_)
    obtain⟨j,J⟩:=ki d w2 b1 u s1 I b2;exact aO (C _ j) J
  · refine sD (x:=u6 0) (by kernel_rfl) rfl fun d u b1 s1=>aO (C _ b1) ⟨CN V R M U (aO (C _ b1) (sD (x:=iv 0) (by kernel_rfl) rfl fun w2 I b2 s2=>?_)),sD (x:=iv 0) (by kernel_rfl) rfl fun w2 I b2 s2=>?_⟩
    · obtain⟨j,J⟩:=Z d w2 b1 u s1 I b2
      exact aO (C _ j) J
    · obtain⟨j,J⟩:=Z d w2 b1 u s1 I b2
      exact aO (C _ j) (CN V R M U (aO (C _ j) J))
  · refine sD (x:=iv 0) (by kernel_rfl) rfl fun d u b1 s1=>aO (C _ b1) ⟨CN V R M U (aO (C _ b1) (sD (x:=u6 0) (by kernel_rfl) rfl fun w2 I b2 s2=>?_)),sD (x:=u6 0) (by kernel_rfl) rfl fun w2 I b2 s2=>?_⟩
    · obtain⟨j,J⟩:=ki d w2 b1 u s1 I b2
      exact aO (C _ j) J
    · obtain⟨j,J⟩:=ki d w2 b1 u s1 I b2
      exact aO (C _ j) (CN V R M U (aO (C _ j) J))
end
end
section
open Go.RowKit Go.ChangeMaps
structure LV (w:World) (z:Nat) (q:LB) (e:EV):Prop where
 l:blk w z 48 [pB q.p]
 e:blk w (z+1) 54 (evC e)
section
variable {w w':World}{z:Nat}{q:LB}{e:EV}
theorem LV.ch {F:List Nat}(g:LV w z q e)(h:Ch F w w')(hF:∀k∈F,k<z∨z+2≤k):LV w' z q e :=
 ⟨g.l.ch h fun d=>by have:=hF _ d;omega,g.e.ch h fun d=>by have:=hF _ d;omega⟩
theorem LV.below (g:LV w z q e)(d:Below w.heap.size w w'):LV w' z q e:=g.ch (Ch.of_below d:Ch [] w w') (by simp)
theorem LV.oth {b:Nat}(g:LV w z q e)(o:Oth b w w')(d:b<z∨z+2≤b):LV w' z q e:=⟨o.blk g.l (by omega),o.blk g.e (by omega)⟩
theorem LV.drew (g:LV w z q e):LV w.drew z q e:=g.below (Below.refl _ w).drew
theorem LE.lv {w0:World}(g:LE w0 w q e):LV w w0.heap.size q e:=⟨g.l,g.e⟩
end
section
variable {w:World}{K:KV}{q:LB}{s:PL}{e:EV}
theorem Qz {z bi bk:Nat}(g:LV w z q e)(bb:blk w bi 24 [u6 (idE e)])(bv:blk w bk 3 [iv (e.q:Nat)])(zi:z+2≤bi)(zk:z+2≤bk)(hq:∀k∈q.l,k<z)(h:PM w q s)(hi:PI s)(hm:eE e=true)(hn:bL s.N (idE e)=false)(u:(iE (tr s.N) (idE e) e.n).2=0)(hK:∀w',PM w' q {s with N:=dL ⟨idE e,e.n,z54.set e.q e.a⟩ s.N}→Ch q.w w w'→K (.tuple #[]) w'):call Tryz.prog 163 #[pB z,pB bi,pB (z+1),pB bk] K w:=by
 obtain⟨rk,b4⟩:=hi.tk;obtain⟨U,ho⟩:=pY hm;have a9:=gJ hm;have cg:=hi.len30;have nd:=h.nd;have hb:=hq;simp only[LB.l,List.mem_cons,List.not_mem_nil,or_false,forall_eq_or_imp,forall_eq]at hb;obtain⟨x,Z⟩:∃x:ND,x=⟨idE e,e.n,z54.set e.q e.a⟩:=⟨_,rfl⟩
 have J:x.id=idE e:=by rw[Z]
 have aS:x.par=e.n:=by rw[Z]
 have av:x.A=z54.set e.q e.a:=by rw[Z]
 rw[←Z]at hK;have a6:∀y∈s.N,y.id≠x.id:=fun y d e' => by
  rw[ky.2 ⟨y,d,e'.trans J⟩]at hn;cases hn
 have a4:=qE hi.srt a6;have e0:iE (tr s.N) (idE e) e.n=(fa (tr s.N) (nL (fun y=>decide (idE e<y.1)) (tr s.N) (tr s.N).length) (idE e,e.n),0):=by
  unfold iE at u ⊢;split at u
  ·cases u
  rename_i g1;rw[if_neg g1];split at u
  ·cases u
  rename_i g2;rw[if_neg g2];split at u
  ·cases u
  rename_i g3;rw[if_neg g3];split at u
  ·cases u
  rename_i g4;rw[if_neg g4]
 have ag:∀i:Nat,(fa (tr s.N) i (idE e,e.n)).Perm (tr (dL x s.N)):=fun i=>by
  refine List.perm_middle.trans ?_;rw[List.take_append_drop]
  have:=((zW (x:=x) (N:=s.N)).map fun y:ND=>(y.id,y.par)).symm
  rw[List.map_cons,J,aS]at this;exact this
 refine aB (goK func163) (yu ?_);refine aE (fun y=>LV y z q e∧blk y bi 24 [u6 (idE e)]∧PM y q s) ⟨g.drew,bb.drew,h.drew⟩ ?_;refine ab (fun y d _=>lK (v:=pB q.p) d.1.l rfl) (ab (fun y d _=>aw) (ab (fun y d _=>vi) ?_));refine ab (fun y d _=>lK (v:=pB q.t) d.2.2.b (by rw[Nat.zero_add];exact d.2.2.c18)) <|ab (fun y d _=>lK (v:=u6 (idE e)) d.2.1 rfl) ?_
 refine ab (fun y d _=>eO) (ab (fun y d _=>lK (v:=u6 e.n) d.1.e rfl) ?_);refine Gt b4 h.drew.tm (by rw[HA];omega) fun w1 t1 X=>?_;have g1:LV w1 z q e:=g.drew.ch X (by simp;omega);have i1:=bb.drew.ch X (by simp;omega);have k1:=bv.drew.ch X (by simp;omega);have b1:=h.drew.b.ch X (by simp[LN.pd nd]);obtain⟨m1,p1,e1⟩:=h.pm;obtain⟨m2,p2,e2⟩:=h.rm
 have p1:MB u6 u6 w1 q.pm m1:=(p1.kept rfl:MB u6 u6 w.drew q.pm m1).ch X (by simp[LN.md nd]);have p2:MB u6 rgV w1 q.rm m2:=(p2.kept rfl:MB u6 rgV w.drew q.rm m2).ch X (by simp[LN.rd nd])
 -- parent
 refine aE (fun y=>LV y z q e∧blk y bi 24 [u6 (idE e)]∧blk y q.p 92 (plC q s)) ⟨g1.drew,i1.drew,b1.drew⟩ ?_;refine ab (fun y d _=>lK (v:=pB q.p) d.1.l rfl) (ab (fun y d _=>aw) (ab (fun y d _=>Fc) ?_));refine ab (fun y d _=>lK (v:=.map (some q.pm)) d.2.2 (by rw[Nat.zero_add];exact h.c19)) <|ab (fun y d _=>lK (v:=u6 (idE e)) d.2.1 rfl) ?_
 refine ab (fun y d _=>eO) (ab (fun y d _=>lK (v:=u6 e.n) d.1.e rfl) ?_);refine vm u6K underlying86 (p1.kept rfl:MB u6 u6 w1.drew q.pm m1) fun w2 az I=>?_;have g2:=(g1.drew.oth I (by omega)).drew;have i2:=(I.blk i1.drew (by omega)).drew;have k2:=(I.blk k1.drew (by omega)).drew;have b2:=(I.blk b1.drew (LN.pm nd)).drew
 -- own
 refine aa (fun _=>lK (v:=pB q.p) g2.l rfl) (aa (fun _=>lK (v:=iv (e.q:Nat)) k2 rfl) ?_);refine aa (fun _=>aw) (aa (fun _=>Fd) (aa (fun _=>ixO rfl U) ?_));refine aa (fun K hK=>lK (v:=iv ((gj s.N ((e.q:Nat)+1):Nat):Int)) b2 (by rw[Nat.zero_add];exact h.cO U) hK) ?_;have cc:=hi.own ((e.q:Nat)+1);refine aa (v:=iv (((gj s.N ((e.q:Nat)+1):Nat):Int)+1)) (fun _=>aR (by omega) (by omega)) ?_
 refine aa (fun _=>aw) (aa (fun _=>Fd) (aa (fun _=>ixO rfl U) ?_));refine dY (fun _=>by kernel_rfl) b2 (by rw[h.len];omega) rfl fun w3 b3 C=>?_;have al:((gj s.N ((e.q:Nat)+1):Nat):Int)+1=((gj (dL x s.N) ((e.q:Nat)+1):Nat):Int):=by
  rw[BJ,J,show idE e / M40=e.o from rZ (by omega) a9.2.2.2,if_pos ho];push_cast;rfl
 rw[al,Nat.zero_add,h.sO U (N:=dL x s.N) (fun j hj cj=>by
  rw[BJ,J,show idE e / M40=e.o from rZ (by omega) a9.2.2.2,if_neg (by omega)];rfl)]at b3
 have g3:=g2.oth C (by omega);have i3:=C.blk i2 (by omega);have k3:=C.blk k2 (by omega)
 -- the rights
 refine wQ (fS (vs:=z54.map iv) (by kernel_rfl) (uA fun w4 r4 bW s4=>sK rfl rfl r4 fun w5 r5 o5=>?_));have ca:=g3.e.lt;have cl:∀k∈q.l,k<w3.heap.size:=fun k hk=>by have:=hq k hk;omega
 have R:Ch [w3.heap.size] w3 w5:=(Ch.of_below bW:Ch [w3.heap.size] w3 w4).trans (Ch.of_oth o5 (by simp):Ch [w3.heap.size] w4 w5) (fun x Z=>.inl Z);have g5:=g3.ch R (by simp;omega);have i5:=i3.ch R (by have:=i3.lt;simp;omega);have k5:=k3.ch R (by have:=k3.lt;simp;omega);have b5:=b3.ch R (by simp;omega)
 refine lK (v:=iv (e.q:Nat)) k5 rfl (dQ (lK (v:=iv e.a) g5.e rfl (rt (ixR rfl U (dY (fun _=>by kernel_rfl) r5 (by simp[z54];omega) rfl fun w6 r6 o6=>?_)))));have r6:blk w6 w3.heap.size 36 (x.A.map iv):=by
  rw[Nat.zero_add]at r6;rw[av, ←xQ];exact r6
 have g6:=g5.oth o6 (by omega);have i6:=o6.blk i5 (by have:=i3.lt;omega);have b6:=o6.blk b5 (by omega);have an:Ch [w3.heap.size] w3 w6:=R.trans (Ch.of_oth o6 (by simp):Ch [w3.heap.size] w5 w6) (fun x Z=>.inl Z)
 have b7:MB u6 rgV w6 q.rm m2:=(((p2.kept rfl:MB u6 rgV w1.drew q.rm m2).oth I (LN.rm nd):MB u6 rgV w2 q.rm m2).oth ⟨C.os,C.tape,C.output,C.size,C.other⟩ (LN.rp nd):MB u6 rgV w3 q.rm m2).ch an (by simp;omega);have b9:x.A.length=54:=by rw[av];simp[z54]
 have bd:(plC q {s with N:=dL x s.N})[20]? = some (.map (some q.rm)):=by
  have h':PM w q {s with N:=s.N}:=h;unfold plC;rw[show 20=6+(6+(6+2))by omega,nU (by simp[h.i6]),nU (by simp[h.l6]),nU (by rw[kI,h.v6])];rfl
 refine aE (fun y=>LV y z q e∧blk y bi 24 [u6 (idE e)]∧blk y q.p 92 (plC q {s with N:=dL x s.N})∧blk y w3.heap.size 36 (x.A.map iv)) ⟨g6.drew,i6.drew,b6.drew,r6.drew⟩ ?_;refine ab (fun y d _=>lK (v:=pB q.p) d.1.l rfl) (ab (fun y d _=>aw) (ab (fun y d _=>pR) ?_))
 refine ab (fun y d _=>lK (v:=.map (some q.rm)) d.2.2.1 (by rw[Nat.zero_add];exact bd)) <|ab (fun y d _=>lK (v:=u6 (idE e)) d.2.1 rfl) <|ab (fun y d _=>oP b9 d.2.2.2) ?_;refine vm (v:=x.A) u6K underlying87 (b7.kept rfl:MB u6 rgV w6.drew q.rm m2) fun w7 a0 o7=>?_
 have V:Ch [w3.heap.size,q.rm] w3 w7:=(an.mono (by simp)).trans (Ch.of_oth (F:=[q.rm]) ⟨o7.os,o7.tape,o7.output,o7.size,o7.other⟩ (by simp)) (by simp)
 -- what is elsewhere
 have ce:Ch q.w w w7:=by
  have a1:Ch q.w w w1:=((Ch.of_below (Below.refl _ w).drew:Ch q.w w w.drew).trans X (by simp[LB.w]))
  have a2:Ch q.w w w2:=a1.trans (Ch.of_oth (F:=[q.pm]) ⟨I.os,I.tape,I.output,I.size,I.other⟩ (by simp)) (by simp[LB.w]);have a3:Ch q.w w w3:=a2.trans (Ch.of_oth (F:=[q.p]) ⟨C.os,C.tape,C.output,C.size,C.other⟩ (by simp)) (by simp[LB.w]);exact a3.trans V (by
   have:=a3.size
   intro y d;simp only[List.mem_cons,List.not_mem_nil,or_false]at d;rcases d with rfl|rfl
   ·exact .inr this
   ·exact .inl (by simp[LB.w]))
 have M:∀k,k<w.heap.size→k≠q.tp→k≠q.pm→k≠q.p→k≠q.rm→w7.heap[k]? = w.heap[k]? := fun k hk n1 n2 n3 n4=>by
  have s1:=X.size;have s1:w.heap.size≤w1.heap.size:=s1;have s2:w2.heap.size=w1.heap.size:=I.size;have s3:w3.heap.size=w2.heap.size:=C.size;rw[V.block k (by omega) (by simp;omega),C.other k n3];show w2.heap[k]? = _;rw[I.other k n2];show w1.heap[k]? = _;rw[X.block k hk (by simp;omega)];rfl
 have ck:w1.heap.size=w3.heap.size:=by rw[C.size];show _=w2.heap.size;rw[I.size];rfl
 have be:=h.lt;simp only[LB.l,List.mem_cons,List.not_mem_nil,or_false,forall_eq_or_imp,forall_eq]at be;have mv:∀k,k≠q.pm→k≠q.p→k≠q.rm→k<w1.heap.size→w7.heap[k]? = w1.heap[k]? := fun k n2 n3 n4 hk=>by
  rw[V.block k (by omega) (by simp;omega),C.other k n3];show w2.heap[k]? = _;rw[I.other k n2];rfl
 obtain⟨mt,pt,et⟩:=t1.mp;have b0:TreeM w7 q.t q.tp (tr (dL x s.N)):=by
  refine⟨?_,⟨mt,pt.kept (mv _ (LN.dm nd) (LN.dp nd) (LN.dr nd) pt.lt),et.trans (by rw[e0];exact ag _)⟩,Bq a4⟩
  have:=t1.bt
  unfold blk at this ⊢;rw[mv _ (LN.tm nd) (LN.tp nd) (LN.tr nd) t1.bt.lt];exact this
 have a7:gA m1 (idE e)=none:=by
  rw[mn e1 (Bq hi.srt),Az (Bq hi.srt),jF,hn]
 have a8:gA m2 (idE e)=none:=by
  rw[mn e2 (ya hi.srt),DZ,hn]
 rw[vn a7]at az;rw[vn a8]at a0;refine hK w7 ⟨h.i6,h.l6,h.v6,?_,b0,⟨_,az.kept ?_,?_⟩,⟨_,a0,?_⟩,?_,?_,h.nd,?_⟩ ce
 ·exact o7.blk b6.drew (LN.pr nd)
 ·have b8:q.pm<w3.heap.size:=by omega
  rw[V.block q.pm b8 (by simp[LN.mr nd];omega),C.other _ (LN.mp nd)];rfl
 ·refine(List.perm_append_singleton _ _).trans ((e1.cons _).trans ?_)
  have:=((zW (x:=x) (N:=s.N)).map fun y:ND=>(y.id,y.par)).symm
  rw[List.map_cons,J,aS]at this;exact this
 ·refine(List.perm_append_singleton _ _).trans ((e2.cons _).trans ?_)
  have:=((zW (x:=x) (N:=s.N)).map fun y:ND=>(y.id,y.A)).symm
  rw[List.map_cons,J]at this;exact this
 ·obtain⟨m3,p3,e3⟩:=h.gm;exact⟨m3,p3.kept (M _ p3.lt (LN.gd nd) (LN.gm nd) (LN.gp nd) (LN.gr nd)),e3⟩
 ·obtain⟨m4,p4,e4⟩:=h.am;exact⟨m4,p4.kept (M _ p4.lt (LN.ad nd) (LN.am nd) (LN.ap nd) (LN.ar nd)),e4⟩
 ·exact h.kd.keep (M _ h.kd.lt (LN.zd nd) (LN.zm nd) (LN.zp nd) (LN.zr nd))
end
end
end
end Go.Proofs.YtgpfkmdknlcemaaGreatDoor
