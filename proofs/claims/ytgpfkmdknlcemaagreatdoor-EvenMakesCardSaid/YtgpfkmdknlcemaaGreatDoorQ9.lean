import Derived.Test.YtgpfkmdknlcemaaGreatDoorQ8
import Derived.Test.YtgpfkmdknlcemaaGreatDoorQ3
import Derived.WalkKit
import Derived.Test.YtgpfkmdknlcemaaGreatDoorRows
import Derived.LaidMore
import Derived.LaidHandle
import Derived.OpenShut
import Derived.ProofKit
import Derived.Stop.Joined
namespace Go.Proofs.YtgpfkmdknlcemaaGreatDoor
set_option maxRecDepth 100000
set_option maxHeartbeats 4000000
open Go.Proofs.Tryz
section
attribute [local irreducible] bin un conv call dC blt slc ai fld aU idx lkp eX jl eSt rng nxt ent ext alc box bld dl ld sto bo eS mkS ifc pick rdy wts aJ sti cond bM Gives ae fU gX cOp
section
open Go.RowKit
def mvO (lv:List Int)(l:List (Nat×Nat×Int)):List (Int×Int×Int):=l.map fun m=>(nB lv m.1,nB lv m.2.1,m.2.2)
theorem PD {s:STA}{id:Int}{d sh:List Int}(h:oX s id=some (d,sh)):sx s id=mvO (eA s.I s.L 6) (jD d sh):=by
 unfold sx;rw[h];rfl
theorem UN (h s:List Int):odd h s≤s.length:=by
 unfold odd;exact Nat.le_trans (List.length_filter_le _ _) (by simp)
section
variable {w:World}{K:KV}
variable {w0:World}{r n c co:Nat}{a:Option Addr}{lv sh:List Int}
variable {hh:List Int}{ao:Option Addr}{O:List (Int×Int×Int)}
theorem RW {x:World}{k:Nat}(j:blk x r 108 (fV a n c n (hK hh n) (hK sh n)))(h:k<n)(u:n≤6){K:KV}(d:K (iv (nB hh k)) x):ld Tryz.prog 2 (.pointer (some ⟨r,0+2+((k:Nat):Int).toNat*1,none⟩)) K x :=
 lK j (by rw[show 0+2+((k:Nat):Int).toNat*1=2+k by omega];exact NM (by omega) h) d
theorem RX {x:World}{k:Nat}(j:blk x r 108 (fV a n c n (hK hh n) (hK sh n)))(h:k<n)(u:n≤6){K:KV}(d:K (iv (nB sh k)) x):ld Tryz.prog 2 (.pointer (some ⟨r,0+8+((k:Nat):Int).toNat*1,none⟩)) K x :=
 lK j (by rw[show 0+8+((k:Nat):Int).toNat*1=8+k by omega];exact NL (by omega) h) d
theorem ixx {x : World} {o k : Nat} {K : KV} (hk : k < n) (hn : n ≤ 6) (hK' : K (.pointer (some ⟨r, o + ((k : Nat) : Int).toNat * 1, none⟩)) x) : aU Tryz.prog 33 (.pointer (some ⟨r, o, none⟩)) (.int .i64 (k : Nat)) K x :=
  dB Tryz.underlying33 (s := 1) (fun _ => by kernel_rfl) (by omega) (by omega) hK'
theorem JH {p:Nat→Bool}{k n:Nat}(j:∀q,q<k→p q=false)(h:k≤n)(u:k<n→p k=true):fs p n 0=k:=by
 rw[T7 j h];by_cases d:k<n
 ·rw[HU d,u d,if_pos rfl]
 ·rw[OY (by omega)];omega
theorem Lu {s0 s2 r5 oF jj jk x10 b0 a8 a0 b5 az bW bv bi bk bb bt a7 av be b3 a2 bd ap a3 aS ar a4:Value}{zf:Nat→Value}{B1:KE}{i j0:Nat}(X:n≤6)(ag:lv.length=n)(an:hh.length=n)(ad:sh.length=n)(hb:yU hh)(al:yU sh)(hO:O.length≤100)(g:MG w0 w r a n c lv hh sh ao co O)(hi:fs (iC hh sh) n 0=i)(a6:j0≤n)(hj:∀q,q<j0→jt hh sh q=false)(e1:r5=.pointer (some ⟨r,0,none⟩))(e2:oF=.slice ao O.length co)(e3:jj=.int .i64 (i:Nat))(e4:jk=.int .i64 (j0:Nat))(R:∀w',MG w0 w' r a n c lv hh sh ao co O→jD hh sh=[]→K (.slice ao O.length co) w')(M:∀(e2:List Value) (w2:World) (u:Option Addr) (C:Nat) (j:Nat),i<n→j<n→fs (jt hh sh) n 0=j→jD hh sh=(i,j,mvX hh sh i j)::jD (mvH hh i j (mvX hh sh i j)) sh→odd (mvH hh i j (mvX hh sh i j)) sh<odd hh sh→gd e2 7=.slice u (O.length+1) C→gd e2 8=.int .i64 (i:Nat)→gd e2 9=.int .i64 (j:Nat) →
   MG w0 w2 r a n c lv (mvH hh i j (mvX hh sh i j)) sh u C (O++[(nB lv i,nB lv j,mvX hh sh i j)])→B1 e2 w2):lf K B1 ((gC s0 s2 r5 oF jj jk x10 b0 a8 a0 b5 az bW bv bi bk bb bt a7 av be b3 a2 bd ap a3 aS ar a4 zf)) w:=by
 subst e1 e2 e3 e4;refine Ho ?_;refine Hq (Inv:=fun pv _ _ _ _ _ _ _ _ _ wr=>∃k:Nat,pv=.int .i64 (k:Nat)∧k≤n∧(∀q,q<k→jt hh sh q=false)∧MG w0 wr r a n c lv hh sh ao co O)
  (μ:=fun pv _ _ _ _ _ _ _ _ _ _=>n-(intOf pv).toNat) ⟨j0,rfl,a6,hj,g⟩ ?_
 rintro _ _ _ _ _ _ _ _ _ _ dd w1 m ⟨k,rfl,hk,V,g1⟩ b4;have Z:=g1.drew;have J:blk w1.drew r 108 (fV a n c n (hK hh n) (hK sh n)):=Z.row;refine aa (fun _=>qg) <|aa (v:=.int .i64 (n:Nat)) (fun _=>lK J rfl) <|aa (fun _=>aV) ?_;by_cases U:k<n
 ·have d:((k:Nat):Int)<n:=by omega
  refine dE d <|aa (fun _=>qh) <|aa (fun _=>ixx U X) <|aa (fun _=>RW J U X) <|aa (fun _=>rG) <|aa (fun _=>ixx U X) <|aa (fun _=>RX J U X) ?_;unfold iv;refine aa (fun _=>cH) <|aa (fun _=>bR d) ?_;by_cases am:nB sh k≤nB hh k
  ·refine ay am <|aR (by omega) (by omega) ?_;refine⟨⟨k+1,by simp,by omega,fun q hq=>?_,Z⟩,by rw[b4];simp[intOf];omega⟩;by_cases a9:q=k
   ·subst a9;unfold jt;exact decide_eq_false (by omega)
   ·exact V q (by omega)
  ·refine au am ?_;have I:fs (jt hh sh) n 0=k:=JH V hk (fun _=>decide_eq_true (by omega));exact Lt X ag an ad hb al hO Z hi I rfl rfl rfl rfl (R _ Z) fun e2 w2 u C h1 h2 h3 h4 h5 h6 h7 h8=>M e2 w2 u C k h1 h2 I h3 h4 h5 h6 h7 h8
 ·have d:¬((k:Nat):Int)<n:=by omega
  refine eF d <|aa (fun _=>bE d) <|bw ?_;have I:fs (jt hh sh) n 0=k:=JH V hk (fun h=>absurd h U);exact Lt X ag an ad hb al hO Z hi I rfl rfl rfl rfl (R _ Z) fun e2 w2 u C h1 h2 h3 h4 h5 h6 h7 h8=>M e2 w2 u C k h1 h2 I h3 h4 h5 h6 h7 h8
theorem IN {s:STA}{id:Int}(hs:SK w s)(h:∀w' a c,w'.ownsRow w.heap.size 69 3 (.slice a (sx s id).length c) (sx s id).length ((sx s id).flatMap mvC)→Below w.heap.size w w'→(sx s id).length≤6→K (.slice a (sx s id).length c) w'):call Tryz.prog 17 #[.agg (saC s).toArray,.int .u64 id] K w:=by
 refine aB (goK func17) (JA ?_);refine dc fun w1 hb b1 s1=>?_;have hb:blk w1 w.heap.size 30 (saC s):=by simpa[Value.cells]using hb
 have bd:((saC s).drop 0).take 20=saC s:=by rw[List.drop_zero,List.take_of_length_le (by rw[hs.len];omega)]
 refine ldA (n:=20) (vs:=saC s) underlying30 rfl (by kernel_rfl) hb bd hs.len ?_;refine Px (hs.bel b1 (Nat.le_refl _)) fun w2 v b2 hv=>?_;have B2:Below w.heap.size w w2:=b1.trans (b2.mono (by omega));have V:(eA s.I s.L 6).length≤6:=tU _ _ 6;cases U:oX s id with
 | none =>
  rw[U]at hv;subst hv;refine eB <|eC ?_;refine dH (z:=.agg row0.toArray) (by kernel_rfl) fun w3 X b3 s3=>?_;have X:blk w3 w2.heap.size 108 row0:=X;refine iz (n:=14) (vs:=row0) (by kernel_rfl) rfl X (by simp[row0,fV,z6]) (vD (by simp[z6,iv,Value.oneCell']) (by simp[z6,iv,Value.oneCell'])) fun w4 ag o4=>?_;refine eh <|bu ?_;have hm:sx s id=[]:=by unfold sx;rw[U]
  rw[hm]at h;exact h w4 none 0 (World.ownsRow_nil _ _ _ _) (B2.trans ((b3.trans o4.below).mono B2.size)) (by simp)
 | some p =>
  obtain⟨d,sh⟩:=p;rw[U]at hv;obtain⟨a,c,ho,rfl⟩:=hv;have b9:=Jl U;obtain⟨b5,a0⟩:=PA U;rw[PD U]at h;refine eB <|eC ?_;generalize eA s.I s.L 6=lv at *;generalize hn:lv.length=n at *;refine dH (z:=.agg row0.toArray) (by kernel_rfl) fun w3 X b3 s3=>?_;have X:blk w3 w2.heap.size 108 row0:=X;have be:(fV a n c n (hK d n) (hK sh n)).length=14:=u9 (ku _ _) (ku _ _)
  refine iz (n:=14) (vs:=fV a n c n (hK d n) (hK sh n)) (by kernel_rfl) be X (by simp[row0,fV,z6]) (vD (AX _ _) (AX _ _)) fun w4 ag o4=>?_;have ag:blk w4 w2.heap.size 108 (fV a n c n (hK d n) (hK sh n)):=by
   rw[List.take_zero,List.nil_append,List.drop_of_length_le (by simp[row0,fV,z6]),List.append_nil]at ag;exact ag
  have a3:Below w2.heap.size w2 w4:=b3.trans o4.below;have ap:=ho.bel a3;have B4:Below w.heap.size w w4:=B2.trans (a3.mono B2.size);refine eh <|bw ?_;have ap:ON w4 w.heap.size a n c lv:=by
   refine⟨ap.1,?_⟩;rcases ap.2 with h2|⟨g,cap,bW,hv,hg,r⟩
   ·exact .inl h2
   ·exact .inr ⟨g,cap,bW,hv,by omega,r⟩
  have g0:MG w w4 w2.heap.size a n c lv d sh none 0 []:=⟨ag,ap,World.ownsRow_nil _ _ _ _,B4,B2.size⟩
  generalize w2.heap.size=r at *;refine Hm (Inv:=fun aS rv pv _ _ _ _ _ _ _ _ _ _ _ _ _ _ _ _ _ _ _ _ _ _ wr=>∃(i j:Nat) (hh:List Int) (O:List (Int×Int×Int)) (ao:Option Addr) (co:Nat),aS=.slice ao O.length co∧rv=.int .i64 (i:Nat)∧pv=.int .i64 (j:Nat)∧i≤n∧j≤n∧hh.length=n∧yU hh ∧
    MG w wr r a n c lv hh sh ao co O∧(∀q,q<i→iC hh sh q=false)∧(∀q,q<j→jt hh sh q=false)∧O++mvO lv (jD hh sh)=mvO lv (jD d sh)∧O.length+odd hh sh≤6)
   (μ:=fun aS _ _ _ _ _ _ _ _ _ _ _ _ _ _ _ _ _ _ _ _ _ _ _ _ _=>7-slN aS) ⟨0,0,d,[],none,0,rfl,rfl,rfl,by omega,by omega,by omega,b5,g0,(fun q U=>by omega),(fun q U=>by omega),rfl,by have:=UN d sh;simp;omega⟩ ?_
  rintro _ _ _ _ _ _ _ _ _ _ _ _ _ _ _ _ _ _ _ _ _ _ _ _ _ dd w5 m ⟨i,j,hh,O,ao,co,rfl,rfl,rfl,hi,hj,a2,av,g5,b0,bb,hM,b6⟩ a8
  -- the iC one
  refine Hn (Inv:=fun rv _ _ _ _ _ _ _ _ _ wr=>∃k:Nat,rv=.int .i64 (k:Nat)∧k≤n∧(∀q,q<k→iC hh sh q=false)∧MG w wr r a n c lv hh sh ao co O)
   (μ:=fun rv _ _ _ _ _ _ _ _ _ _=>n-(intOf rv).toNat) ⟨i,rfl,hi,b0,g5⟩ ?_
  rintro _ _ _ _ _ _ _ _ _ _ b8 w6 m2 ⟨k,rfl,hk,az,g6⟩ a4;have g7:=g6.drew;have ad:blk w6.drew r 108 (fV a n c n (hK hh n) (hK sh n)):=g7.row;have am:∀w',MG w w' r a n c lv hh sh ao co O→jD hh sh=[]→K (.slice ao O.length co) w':=by
   intro w' g' hz;rw[hz]at hM;have hM:O=mvO lv (jD d sh):=by simpa[mvO]using hM
   rw[←hM]at h;exact h w' ao co g'.out g'.bel (by omega)
  have ar:∀{e2:List Value} {w2:World} {M:Option Addr} {R u:Nat},k<n→u<n→fs (iC hh sh) n 0=k→fs (jt hh sh) n 0=u→jD hh sh=(k,u,mvX hh sh k u)::jD (mvH hh k u (mvX hh sh k u)) sh→odd (mvH hh k u (mvX hh sh k u)) sh<odd hh sh →
    MG w w2 r a n c lv (mvH hh k u (mvX hh sh k u)) sh M R (O++[(nB lv k,nB lv u,mvX hh sh k u)]) →
    ∃(i2 j2:Nat) (J:List Int) (O2:List (Int×Int×Int)) (a9:Option Addr) (a7:Nat),(Value.slice M (O.length+1) R)=.slice a9 O2.length a7∧Value.int .i64 (k:Nat)=.int .i64 (i2:Nat)∧Value.int .i64 (u:Nat)=.int .i64 (j2:Nat)∧i2≤n∧j2≤n∧J.length=n∧yU J ∧
     MG w w2 r a n c lv J sh a9 a7 O2∧(∀q,q<i2→iC J sh q=false)∧(∀q,q<j2→jt J sh q=false)∧O2++mvO lv (jD J sh)=mvO lv (jD d sh)∧O2.length+odd J sh≤6:=by
   intro e2 w2 M R u bv bi bk al b4 b7 g';have s1:=mO (p:=iC hh sh) (n:=n) _ 0 rfl (Nat.zero_le _);have s2:=mO (p:=jt hh sh) (n:=n) _ 0 rfl (Nat.zero_le _);rw[bk]at s1;rw[al]at s2;have X:=s1.2.2.2 bv;have hp:=s2.2.2.2 bi
   refine⟨k,u,_,_,M,R,by simp,rfl,rfl,by omega,by omega,by rw[Ms];exact a2,UM av a0 (by omega) (by omega) X hp,g',fun q U=>Mq (by omega) (by omega) (by omega) X hp (s1.2.2.1 q (Nat.zero_le _) U),fun q U=>Mr (by omega) (by omega) (by omega) X hp (s2.2.2.1 q (Nat.zero_le _) U),?_,by simp;omega⟩;rw[←hM,b4,List.append_assoc];rfl
  refine aa (fun _=>qg) <|aa (v:=.int .i64 (n:Nat)) (fun _=>lK ad rfl) <|aa (fun _=>aV) ?_;by_cases an:k<n
  ·have C:((k:Nat):Int)<n:=by omega
   refine dE C <|aa (fun _=>qh) <|aa (fun _=>ixx an V) <|aa (fun _=>RW ad an V) <|aa (fun _=>rG) <|aa (fun _=>ixx an V) <|aa (fun _=>RX ad an V) ?_;unfold iv;refine aa (fun _=>ir) <|aa (fun _=>bR C) ?_;by_cases a6:nB hh k≤nB sh k
   ·refine ay a6 <|aR (by omega) (by omega) ?_;refine⟨⟨k+1,by simp,by omega,fun q U=>?_,g7⟩,by rw[a4];simp[intOf];omega⟩;by_cases bt:q=k
    ·subst bt;unfold iC;exact decide_eq_false (by omega)
    ·exact az q (by omega)
   ·refine au a6 ?_;have Z:fs (iC hh sh) n 0=k:=JH az hk (fun _=>decide_eq_true (by omega));refine Lu V hn a2 (by omega) av a0 (by omega) g7 Z hj bb rfl rfl rfl rfl am fun e2 w2 M R u h1 h2 al h3 h4 h5 h6 h7 h8=>?_;rw[h5,h6,h7];exact⟨ar (e2:=e2) h1 h2 Z al h3 h4 h8,by rw[a8];show 7-(O.length+1)<7-O.length;omega⟩
  ·have C:¬((k:Nat):Int)<n:=by omega
   refine eF C <|aa (fun _=>bE C) <|bw ?_;have Z:fs (iC hh sh) n 0=k:=JH az hk (fun h=>absurd h an);refine Lu V hn a2 (by omega) av a0 (by omega) g7 Z hj bb rfl rfl rfl rfl am fun e2 w2 M R u h1 h2 al h3 h4 h5 h6 h7 h8=>?_;rw[h5,h6,h7];exact⟨ar (e2:=e2) h1 h2 Z al h3 h4 h8,by rw[a8];show 7-(O.length+1)<7-O.length;omega⟩
end
end
section
open Go.RowKit
def aqC (x:Int×Int×Int):List Value:=[.int .u8 5,.int .u64 x.1,iv x.2.1,iv x.2.2,.int .u64 0,.int .u64 0]
theorem MY (m:Int×Int×Int):(aqC m).length=6:=rfl
theorem MZ (m:Int×Int×Int):∀u∈aqC m,u.oneCell'=true:=by simp[aqC,iv,Value.oneCell']
def NN (i id:Int)(m:Int×Int×Int):Option (Int×Int×Int):=if m.1=i then some (id,m.2.1,m.2.2)else none
theorem PE {α β:Type}{f:α→List β}{L:List α}{k:Nat}{x:α}(d:L[k]? = some x):(L.take (k+1)).flatMap f=(L.take k).flatMap f++f x:=by
 rw[List.take_add_one,d];simp
theorem Jm {α β:Type}{f:α→Option β}{L:List α}{k:Nat}{x:α}(d:L[k]? = some x):(L.take (k+1)).filterMap f=(L.take k).filterMap f++(f x).toList:=by
 rw[List.take_add_one,d,List.filterMap_append];cases h:f x<;>simp[h]
theorem Ry {w:World}{K:KV}{b o:Nat}(h:K (.pointer (some ⟨b,o+0,none⟩)) w):ai Tryz.prog 69 (.pointer (some ⟨b,o,none⟩)) 0 K w:=aM (by kernel_rfl) h
theorem Rz {w:World}{K:KV}{b o:Nat}(h:K (.pointer (some ⟨b,o+1,none⟩)) w):ai Tryz.prog 69 (.pointer (some ⟨b,o,none⟩)) 1 K w:=aM (by kernel_rfl) h
theorem RA {w:World}{K:KV}{b o:Nat}(h:K (.pointer (some ⟨b,o+2,none⟩)) w):ai Tryz.prog 69 (.pointer (some ⟨b,o,none⟩)) 2 K w:=aM (by kernel_rfl) h
section
variable {w:World}{K:KV}
theorem RC :(Tryz.prog.info? 61).map (fun i=>(i.zero,i.size,i.bytes))=some (some (.agg (#[.int .u8 0,.int .u64 0,iv 0,iv 0,.int .u64 0,.int .u64 0])),6,48):=by kernel_rfl
theorem Vv {K2:Value→KV}{B n c:Nat}{a:Option Addr}{O:List (Int×Int×Int)}{x:Int×Int×Int}(X:w.ownsRow B 61 6 (.slice a n c) n (O.flatMap aqC))(hB:B≤w.heap.size)(hn:n≤10000000)(h:∀t C u w',w'.ownsRow B 61 6 (.slice C (n+1) u) (n+1) ((O++[x]).flatMap aqC)→Below B w w'→(∀{p:Nat} {E:TypeId} {cs:List Value},blk w p E cs→E≠61→blk w' p E cs) →
   (∀{B2 s2 n2:Nat} {E:TypeId} {v:Value} {xs:List Value},w.ownsRow B2 E s2 v n2 xs→E≠61→w'.ownsRow B2 E s2 v n2 xs)→K2 t (.slice C (n+1) u) w'):dl Tryz.prog 58 1 #[(0,.agg (aqC x).toArray)] (fun t w=>blt Tryz.prog .append #[58,58] 58 #[false,false] #[.slice a n c,t] (K2 t) w) w:=by
 refine oe (vs:=[.agg (aqC x).toArray]) underlying58 (s:=6) (by kernel_rfl) (by kernel_rfl) (by omega) rfl (by simp) (by simp) (by simp) (by simp[Value.cells,aqC]) fun Z M b1 s1=>?_;have M:blk Z w.heap.size 61 (aqC x):=by simpa[Value.cells]using M
 obtain⟨i,hi,hz,R,I⟩:=info_parts RC;have d:Z.ownsRow B 61 6 (.slice a n c) n (O.flatMap aqC):=di X fun k J=>b1.block k (World.ownsRow.lt X k J).2;refine rU (base:=B) (x:=x) underlying58 hi hz R I rfl (by omega) MY d M (MZ _) (by omega) (by omega) (by omega) fun C u w2 U j b2 _=>?_;refine h _ C u w2 U ((b1.mono hB).trans b2) (fun hb V=>?_) (fun hr V=>?_)
 ·exact eT (af b1 hb hb.lt) d V j
 ·exact oI (di hr fun k J=>b1.block k (World.ownsRow.lt hr k J).2) d V j
theorem Lv {s:STA}{i:Int}(hs:SK w s)(h:∀w' a c,w'.ownsRow w.heap.size 61 6 (.slice a (xD s i).length c) (xD s i).length ((xD s i).flatMap aqC)→Below w.heap.size w w'→K (.slice a (xD s i).length c) w'):call Tryz.prog 13 #[.agg (saC s).toArray,iv i] K w:=by
 refine aB (goK func13) (Lp ?_);refine dc fun w1 hb b1 s1=>?_;have hb:blk w1 w.heap.size 30 (saC s):=by simpa[Value.cells]using hb
 have aS:((saC s).drop 0).take 20=saC s:=by rw[List.drop_zero,List.take_of_length_le (by rw[hs.len];omega)]
 have cj:=hs.few;have cl:=hb.lt;refine dV <|lK (v:=.slice s.na s.nodes.length s.nc) hb (Hg hs) <|bx underlying27 ?_;refine IG (Inv:=fun ad kv wr=>∃(k:Nat) (O:List (Int×Int×Int)) (ao:Option Addr) (co:Nat),ad=.slice ao O.length co∧kv=.int .i64 (k:Nat)∧k≤s.nodes.length∧O=((s.nodes.take k).flatMap fun x=>(sx s x.id).filterMap (NN i x.id))∧O.length≤6*k ∧
   wr.ownsRow (w.heap.size+1) 61 6 (.slice ao O.length co) O.length (O.flatMap aqC)∧Below (w.heap.size+1) w1 wr)
  (μ:=fun _ kv _=>s.nodes.length-(intOf kv).toNat) ⟨0,[],none,0,rfl,rfl,by omega,rfl,by simp,World.ownsRow_nil _ _ _ _,Below.refl _ _⟩ ?_
 rintro _ _ dd w2 m ⟨k,O,ao,co,rfl,rfl,hk,hO,ck,ho,b2⟩ hm;have ar:Below w.heap.size w w2:=b1.trans (b2.mono (by omega));have I:SK w2 s:=hs.bel ar (Nat.le_refl _);have R:w.heap.size+1≤w2.heap.size:=by have:=b2.size;omega
 refine aV ?_;by_cases bt:k<s.nodes.length
 ·refine ay (by omega) ?_;obtain⟨b,o,ha⟩:=I.nr.some_ (by omega);have hx:s.nodes[k]? = some s.nodes[k]:=List.getElem?_eq_getElem bt;generalize s.nodes[k]=x at hx;have hA:=I.nr.A54 x (List.mem_of_getElem? hx);have ap:=I.nr;rw[ha]at ap ⊢;refine eu underlying27 (s:=56) (fun _=>by kernel_rfl) (by omega) (by omega) ?_;rw[Int.toNat_natCast];refine UA ap rfl hx ?_
  refine dH (z:=.agg (Array.replicate 56 (.int .i64 0) |>.set! 0 (.int .u64 0) |>.set! 1 (.int .u64 0))) (by kernel_rfl) fun w3 h3 b3 s3=>?_;have bk:∃cs0:List Value,cs0.length=56∧blk w3 w2.heap.size 38 cs0:=⟨_,rfl,h3⟩
  obtain⟨cs0,b0,h3⟩:=bk;refine iz (n:=56) (vs:=ndC x) (by kernel_rfl) (MN hA) h3 (by omega) (by simp[ndC,iv,Value.oneCell']) fun w4 h4 o4=>?_;have h4:blk w4 w2.heap.size 38 (ndC x):=by
   rw[List.take_zero,List.nil_append,List.drop_of_length_le (by omega),List.append_nil]at h4;exact h4
  have C:Below w2.heap.size w2 w4:=b3.trans o4.below;have a3:blk w4 w.heap.size 30 (saC s):=af (b2.trans (C.mono R)) hb (by omega);refine ldA (n:=20) (vs:=saC s) underlying30 rfl (by kernel_rfl) a3 aS hs.len <|tT <|lK (v:=.int .u64 x.id) h4 rfl ?_;refine IN (I.bel C (Nat.le_refl _)) fun w5 am cm a8 b5 a0=>?_;have hM:sx s x.id=sx s x.id:=rfl;refine bx underlying65 ?_
  have az:=C.size;have a6:Below (w.heap.size+1) w1 w5:=b2.trans ((C.trans (b5.mono az)).mono R);have a7:w5.ownsRow (w.heap.size+1) 61 6 (.slice ao O.length co) O.length (O.flatMap aqC):=di ho fun q hq=>by
   have a4:=(World.ownsRow.lt ho q hq).2;rw[b5.block q (by omega),C.block q a4]
  have h5:blk w5 w2.heap.size 38 (ndC x):=af b5 h4 h4.lt;generalize a2:sx s x.id=M at *;refine II (Inv:=fun ad jv wr=>∃(j:Nat) (O2:List (Int×Int×Int)) (ao:Option Addr) (co:Nat),ad=.slice ao O2.length co∧jv=.int .i64 (j:Nat)∧j≤M.length∧O2=O++(M.take j).filterMap (NN i x.id)∧O2.length≤6*k+j ∧
    wr.ownsRow (w.heap.size+1) 61 6 (.slice ao O2.length co) O2.length (O2.flatMap aqC)∧Below (w.heap.size+1) w1 wr∧blk wr w2.heap.size 38 (ndC x)∧wr.ownsRow w4.heap.size 69 3 (.slice am M.length cm) M.length (M.flatMap mvC)∧w5.heap.size≤wr.heap.size)
   (μ:=fun _ jv _=>M.length-(intOf jv).toNat) ⟨0,O,ao,co,rfl,rfl,by omega,by simp,by omega,a7,a6,h5,a8,Nat.le_refl _⟩ ?_
  rintro _ _ cg w6 m2 ⟨j,O2,al,ag,rfl,rfl,hj,V,b4,Z,b6,h6,d,ch⟩ av;refine aV ?_;by_cases bi:j<M.length
  ·refine ay (by omega) <|IK ?_;have J:M[j]? = some M[j]:=List.getElem?_eq_getElem bi;generalize M[j]=mv at J;refine JD (enc:=mvC) (s:=3) underlying65 (fun _=>by kernel_rfl) underlying69 rfl (by kernel_rfl) Es d rfl J fun _=>?_;refine dH (z:=.agg #[iv 0,iv 0,iv 0]) (by kernel_rfl) fun w7 h7 b7 s7=>?_
   refine iz (n:=3) (vs:=mvC mv) (by kernel_rfl) rfl h7 (by simp[Value.cells]) (MX _) fun w8 h8 o8=>?_;have h8:blk w8 w6.heap.size 69 (mvC mv):=by
    rw[List.take_zero,List.nil_append,List.drop_of_length_le (by simp[Value.cells]),List.append_nil]at h8;exact h8
   have u:Below w6.heap.size w6 w8:=b7.trans o8.below;have cc:=b6.size;have ce:=u.size;have X:blk w8 w2.heap.size 38 (ndC x):=af u h6 h6.lt;have an:w8.ownsRow (w.heap.size+1) 61 6 (.slice al O2.length ag) O2.length (O2.flatMap aqC):=di Z fun q hq=>u.block q (World.ownsRow.lt Z q hq).2
   have U:w8.ownsRow w4.heap.size 69 3 (.slice am M.length cm) M.length (M.flatMap mvC):=di d fun q hq=>u.block q (World.ownsRow.lt d q hq).2;have b8:Below (w.heap.size+1) w1 w8:=b6.trans (u.mono (by omega));have ca:w.heap.size+1≤w8.heap.size:=by have:=b8.size;omega
   refine Ry <|lK (v:=iv mv.1) h8 rfl ?_;unfold iv;refine bm ?_;by_cases he:mv.1=i
   ·refine ay he <|tT <|lK (v:=.int .u64 x.id) X rfl <|Rz <|lK (v:=iv mv.2.1) h8 rfl <|RA <|lK (v:=iv mv.2.2) h8 rfl <|fS (vs:=aqC (x.id,mv.2.1,mv.2.2)) (by kernel_rfl) ?_;refine Vv an (by omega) (by omega) fun _ a9 c9 w9 bv b9 kb kr=>?_;refine AW <|aR (by omega) (by omega) ?_
    refine⟨⟨j+1,O2++[(x.id,mv.2.1,mv.2.2)],a9,c9,by rw[List.length_append];rfl,ivS,by omega,?_,by simp;omega,by rw[List.length_append];exact bv,b8.trans b9,kb X (by decide),kr U (by decide),by have:=b9.size;omega⟩,by rw[av];show M.length-((j:Int)+1).toNat<M.length-(j:Int).toNat;omega⟩;rw[Jm J, ←List.append_assoc, ←V];simp[NN,he]
   ·refine au he <|AW <|aR (by omega) (by omega) ?_;refine⟨⟨j+1,O2,al,ag,rfl,ivS,by omega,?_,by omega,an,b8,X,U,by omega⟩,by rw[av];show M.length-((j:Int)+1).toNat<M.length-(j:Int).toNat;omega⟩;rw[Jm J, ←List.append_assoc, ←V];simp[NN,he]
  ·refine au (by omega) <|IL <|aR (by omega) (by omega) ?_;have bd:j=M.length:=by omega
   subst bd;have bW:M.length≤6:=a0;refine⟨⟨k+1,O2,al,ag,rfl,ivS,by omega,?_,by omega,Z,b6⟩,by rw[hm];show s.nodes.length-((k:Int)+1).toNat<s.nodes.length-(k:Int).toNat;omega⟩;rw[PE hx, ←hO,V,List.take_length,a2]
 ·refine au (by omega) <|IJ ?_;obtain rfl:k=s.nodes.length:=by omega
  have hO:O=xD s i:=by rw[hO,List.take_length];rfl
  subst hO;have be:w2.ownsRow w.heap.size 61 6 (.slice ao (xD s i).length co) (xD s i).length ((xD s i).flatMap aqC):=by
   refine⟨ho.1,?_⟩;rcases ho.2 with h2|⟨g,cap,bb,hv,hg,r⟩
   ·exact .inl h2
   ·exact .inr ⟨g,cap,bb,hv,by omega,r⟩
  exact h w2 ao co be ar
end
end
end
section
open Go.RowKit
def aD (n0 bI bK n3 w_7 l10 e11 i12 cA bj bB q16 i17 cq j19 cE i22 dR dF q25 C4 C5 H8 H9 I0 I1 I2 I3 I4 I5 I6 I8 I9 J0 J1 J2 J3 J4 M8 M9 N0 N1 N2 N3 N4 N5 N6 O0 P1 P2 P3 P5 P6:Value)(zf:Nat→Value):List Value:=n0::bI::bK::n3::zT zf 4 3 (w_7::zf 8::zf 9::l10::e11::i12::cA::bj::bB::q16::i17::cq::j19::zf 20::cE::i22::dR::dF::q25::zT zf 26 26 (C4::C5::zT zf 54 80 (H8::H9::I0::I1::I2::I3::I4::I5::I6::zf 143::zf 144::I8::I9::J0::J1::J2::J3::J4::zT zf 152 39 (M8::M9::N0::N1::N2::N3::N4::N5::N6::zT zf 200 6 (O0::zT zf 207 20 (P1::P2::P3::zf 230::zf 231::P5::P6::zT zf 234 7 ([])))))))
def mZ (K : KV) : KE := ae Q (cd Tryz.f4 [1, 1, 1, 1, 1]) (rk Tryz.f4 K) xf (rk Tryz.f4 K)
def fz (K : KV) : KE := ae Q (cd Tryz.f4 [1, 1, 1, 1, 1, 1, 1]) (rk Tryz.f4 K) xf (rk Tryz.f4 K)
def kU (K : KV) : KE := ae Q (cd Tryz.f4 [1, 1, 1, 1, 1, 1, 0, 1, 0]) (fz K) (xx xf (fz K) 0) (rk Tryz.f4 K)
def cU (K : KV) : KE := ae Q (cd Tryz.f4 [1, 1, 1, 1, 1, 1, 1, 1, 1, 1, 1]) (rk Tryz.f4 K) xf (rk Tryz.f4 K)
def kW (K : KV) : KE := ae Q (cd Tryz.f4 [1, 1, 1, 1, 1, 1, 1, 1, 1, 1, 0, 1, 0]) (cU K) (xx xf (cU K) 2) (rk Tryz.f4 K)
def fA (K : KV) (B1 : KE) : KE := ae Q (cd Tryz.f4 [1, 1, 1, 1, 1, 1, 1, 1, 1, 1, 0, 1, 0, 0, 1, 1]) B1 (xx xf (cU K) 2) (rk Tryz.f4 K)
def kX (K : KV) (B1 : KE) : KE := ae Q (cd Tryz.f4 [1, 1, 1, 1, 1, 1, 1, 1, 1, 1, 0, 1, 0, 0, 1, 0, 0, 1, 1, 1, 0]) (fA K B1) (xx (xx (xx xf (cU K) 2) (fA K B1) 3) (fA K B1) 4) (rk Tryz.f4 K)
def bJ (K : KV) : KE := ae Q (cd Tryz.f4 [1, 1, 1, 1, 1, 1, 1, 1, 1, 1, 1, 1, 1, 1]) (rk Tryz.f4 K) xf (rk Tryz.f4 K)
def kY (K : KV) : KE := ae Q (cd Tryz.f4 [1, 1, 1, 1, 1, 1, 1, 1, 1, 1, 1, 1, 1, 0, 1, 0]) (bJ K) (xx xf (bJ K) 6) (rk Tryz.f4 K)
def cr (K : KV) (B1 : KE) : KE := ae Q (cd Tryz.f4 [1, 1, 1, 1, 1, 1, 1, 1, 1, 1, 1, 1, 1, 0, 1, 0, 0, 1, 1]) B1 (xx xf (bJ K) 6) (rk Tryz.f4 K)
def eJ (K : KV) (B1 : KE) : KE := ae Q (cd Tryz.f4 [1, 1, 1, 1, 1, 1, 1, 1, 1, 1, 1, 1, 1, 0, 1, 0, 0, 1, 0, 0, 1, 1, 1]) (cr K B1) (xx (xx xf (bJ K) 6) (cr K B1) 7) (rk Tryz.f4 K)
def kZ (K : KV) (B1 : KE) : KE := ae Q (cd Tryz.f4 [1, 1, 1, 1, 1, 1, 1, 1, 1, 1, 1, 1, 1, 0, 1, 0, 0, 1, 0, 0, 1, 1, 0, 1, 0]) (eJ K B1) (xx (xx (xx xf (bJ K) 6) (cr K B1) 7) (eJ K B1) 8) (rk Tryz.f4 K)
def fB (K : KV) (B1 : KE) : KE := ae Q (cd Tryz.f4 [1, 1, 1, 1, 1, 1, 1, 1, 1, 1, 1, 1, 1, 0, 1, 0, 0, 1, 0, 0, 1, 1, 1, 1]) (cr K B1) (xx (xx xf (bJ K) 6) (cr K B1) 7) (rk Tryz.f4 K)
def l9 (K : KV) (B1 : KE) : KE := ae Q (cd Tryz.f4 [1, 1, 1, 1, 1, 1, 1, 1, 1, 1, 1, 1, 1, 0, 1, 0, 0, 1, 0, 0, 1, 1, 1, 0, 1]) (fB K B1) (xx (xx xf (bJ K) 6) (cr K B1) 7) (rk Tryz.f4 K)
section
variable {K:KV}{n0 bI bK n3 w_7 l10 e11 i12 cA bj bB q16 i17 cq j19 cE i22 dR dF q25 C4 C5 H8 H9 I0 I1 I2 I3 I4 I5 I6 I8 I9 J0 J1 J2 J3 J4 M8 M9 N0 N1 N2 N3 N4 N5 N6 O0 P1 P2 P3 P5 P6:Value}{zf:Nat→Value}{w:World}
theorem Bc {K : KV} (xc0 : Code) {n0 bI bK : Value} {w : World}
    (h : call Q 5 #[bI] (fun A1=>un Q UnOp.not A1 fun A2 w=>cond A2 (call Q 6 #[] K w) (call Q 7 #[n0,bI,cb 0] (fun A3=>ext Q A3 0 fun A4=>ext Q A3 1 fun A5=>alc Q 30 fun A0=>sto Q 30 A0 A5 fun _=>bo A4 fun A6=>ai Q 47 A6 0 fun A7=>ld Q 44 A7 fun A8=>lN 44 A8 fun A9=>call Q 9 #[A9] fun C0=>ext Q C0 0 fun C1=>ext Q C0 1 fun C2=>ae Q xc0 (rk Tryz.f4 K) (fun _ _ _=>False) (rk Tryz.f4 K) (aD n0 bI bK uu A4 C1 C2 uu uu uu uu uu uu uu uu uu uu uu uu uu uu uu uu uu uu uu uu uu uu uu uu uu uu uu uu uu uu uu uu uu uu uu uu uu uu uu uu uu uu uu uu uu uu (zV (zV (zV (zV zu 6 [cF]) 8 [A0,A9]) 29 [bI,A1,A2]) 33 [A3,n0,bI,A3,A4,A5,A4,A6,A7,A8,A9,C0,A9,C0,C1,C2]))) w)) w) :
    ae Q (rep [1, 1, 1, 1, 1] xc0 (cd Tryz.f4 [])) (rk Tryz.f4 K) xf (rk Tryz.f4 K) (aD n0 bI bK uu uu uu uu uu uu uu uu uu uu uu uu uu uu uu uu uu uu uu uu uu uu uu uu uu uu uu uu uu uu uu uu uu uu uu uu uu uu uu uu uu uu uu uu uu uu uu uu uu uu zu) w := Eq.mp (by kernel_rfl) h

theorem Ax {K : KV} {n0 bI bK : Value} {w : World}
    (h : call Q 5 #[bI] (fun A1=>un Q UnOp.not A1 fun A2 w=>cond A2 (call Q 6 #[] K w) (call Q 7 #[n0,bI,cb 0] (fun A3=>ext Q A3 0 fun A4=>ext Q A3 1 fun A5=>alc Q 30 fun A0=>sto Q 30 A0 A5 fun _=>bo A4 fun A6=>ai Q 47 A6 0 fun A7=>ld Q 44 A7 fun A8=>lN 44 A8 fun A9=>call Q 9 #[A9] fun C0=>ext Q C0 0 fun C1=>ext Q C0 1 fun C2=>mZ K (aD n0 bI bK uu A4 C1 C2 uu uu uu uu uu uu uu uu uu uu uu uu uu uu uu uu uu uu uu uu uu uu uu uu uu uu uu uu uu uu uu uu uu uu uu uu uu uu uu uu uu uu uu uu uu uu (zV (zV (zV (zV zu 6 [cF]) 8 [A0,A9]) 29 [bI,A1,A2]) 33 [A3,n0,bI,A3,A4,A5,A4,A6,A7,A8,A9,C0,A9,C0,C1,C2]))) w)) w) :
    Gives Q 4 #[n0, bI, bK] w K := aH Tryz.func4 (by kernel_rfl) (Eq.mp (congrArg (fun c => ae Q c (rk Tryz.f4 K) xf (rk Tryz.f4 K) (aD n0 bI bK uu uu uu uu uu uu uu uu uu uu uu uu uu uu uu uu uu uu uu uu uu uu uu uu uu uu uu uu uu uu uu uu uu uu uu uu uu uu uu uu uu uu uu uu uu uu uu uu uu uu zu) w) (by kernel_rfl : (rep [1, 1, 1, 1, 1] (cd Tryz.f4 [1, 1, 1, 1, 1]) (cd Tryz.f4 [])) = (cd Tryz.f4 []))) (Bc (cd Tryz.f4 [1, 1, 1, 1, 1]) h))

theorem yV (h:bin Q .neq 49 false true e11 (ci 0) (fun C3 w=>aJ C3 false (fun j=>bin Q .eql 48 false true l10 (Value.pointer none) (fun C5=>j [l10,C5]) w) (fun k=>k [uu,uu] w) fun d=>pick C3 cT (gd d 1) fun C6 w=>cond C6 (K cF w) (kU K (aD n0 bI bK n3 w_7 l10 e11 (ci 0) cA bj bB q16 i17 cq j19 cE i22 dR dF q25 (gd d 0) (gd d 1) H8 H9 I0 I1 I2 I3 I4 I5 I6 I8 I9 J0 J1 J2 J3 J4 M8 M9 N0 N1 N2 N3 N4 N5 N6 O0 P1 P2 P3 P5 P6 (zV (zV zf 49 [e11,C3,C3]) 54 [C6])) w)) w):mZ K (aD n0 bI bK n3 w_7 l10 e11 i12 cA bj bB q16 i17 cq j19 cE i22 dR dF q25 C4 C5 H8 H9 I0 I1 I2 I3 I4 I5 I6 I8 I9 J0 J1 J2 J3 J4 M8 M9 N0 N1 N2 N3 N4 N5 N6 O0 P1 P2 P3 P5 P6 zf) w:=by
 delta mZ;revert h;delta kU fz;exact mpF
theorem yW (Inv : Value → World → Prop) (μ : Value → World → Nat) (h0 : Inv i12 w)
    (hs : ∀ (i12' : Value) (dd : Nat → Value) (w : World) (m : Nat), Inv i12' w → m = μ i12' w →
    bo w_7 (fun C7=>ai Q 47 C7 1 fun C8=>ld Q 45 C8 fun C9=>lN 45 C9 fun D0=>lS i12' D0 fun D1 w=>cond D1 (bo w_7 (fun D3=>ai Q 47 D3 1 fun D4=>ld Q 45 D4 fun D5=>aU Q 45 D5 i12' fun D6=>ld Q 54 D6 fun D7=>call Q 10 #[l10,D7] fun D8=>bin Q BinOp.neq 49 false true D8 (ci 0) fun D9 w=>cond D9 (K cF w) (nC i12' (fun D2 w=>(Inv D2 w)∧((μ D2 w)<m)) w)) w) (fz K (aD n0 bI bK n3 w_7 l10 e11 i12' cA bj bB q16 i17 cq j19 cE i22 dR dF q25 C4 C5 H8 H9 I0 I1 I2 I3 I4 I5 I6 I8 I9 J0 J1 J2 J3 J4 M8 M9 N0 N1 N2 N3 N4 N5 N6 O0 P1 P2 P3 P5 P6 (zV dd 55 [i12',w_7,C7,C8,C9,D0,D1])) w)) w) :
    kU K (aD n0 bI bK n3 w_7 l10 e11 i12 cA bj bB q16 i17 cq j19 cE i22 dR dF q25 C4 C5 H8 H9 I0 I1 I2 I3 I4 I5 I6 I8 I9 J0 J1 J2 J3 J4 M8 M9 N0 N1 N2 N3 N4 N5 N6 O0 P1 P2 P3 P5 P6 zf) w := by
  refine aQ (cd Tryz.f4 [1, 1, 1, 1, 1, 1, 0, 1, 0, 0]) (zr [(6, 1), (12, 1), (55, 19)]) (by kernel_rfl) (fun e2 w2 => Inv (gd e2 12) w2) (fun e2 w2 => μ (gd e2 12) w2) h0 ?_
  intro e' w' hI
  have h := hs (gd e' 12) (zM zf (fun i => gd e' i) (zr [(6, 1), (12, 1), (55, 19)])) w' _ hI rfl
  revert h
  generalize (fz K) = qc0
  exact fun h => Eq.mp (by kernel_rfl) h

theorem yX (h:call Q 11 #[l10] (fun E0=>alc Q 30 fun cA=>sto Q 30 cA E0 fun _=>ld Q 30 cA fun E1=>call Q 12 #[E1] fun E2=>kW K (aD n0 bI bK n3 w_7 l10 e11 i12 cA E2 (ci 0) (ci 0) i17 cq j19 cE i22 dR dF q25 C4 C5 H8 H9 I0 I1 I2 I3 I4 I5 I6 I8 I9 J0 J1 J2 J3 J4 M8 M9 N0 N1 N2 N3 N4 N5 N6 O0 P1 P2 P3 P5 P6 (zV zf 74 [l10,E0,E1,E2]))) w):fz K (aD n0 bI bK n3 w_7 l10 e11 i12 cA bj bB q16 i17 cq j19 cE i22 dR dF q25 C4 C5 H8 H9 I0 I1 I2 I3 I4 I5 I6 I8 I9 J0 J1 J2 J3 J4 M8 M9 N0 N1 N2 N3 N4 N5 N6 O0 P1 P2 P3 P5 P6 zf) w:=by
 delta fz;revert h;delta kW cU;exact mpF
theorem yY (Inv : Value → Value → World → Prop) (μ : Value → Value → World → Nat) (h0 : Inv bB q16 w)
    (hs : ∀ (moves15' q16' : Value) (dd : Nat → Value) (w : World) (m : Nat), Inv moves15' q16' w → m = μ moves15' q16' w →
    lN 56 bj (fun E3=>lS q16' E3 fun E4 w=>cond E4 (conv Q 5 3 bK (fun E6=>bin Q BinOp.add 3 false false q16' E6 fun E7=>lN 56 bj fun E8=>bin Q BinOp.rem 3 false false E7 E8 fun E9=>aU Q 56 bj E9 fun F0=>ld Q 3 F0 fun F1=>ld Q 30 cA fun F2=>call Q 13 #[F2,F1] fun F3=>kX K (fun e2 w2=>(Inv (gd e2 15) (gd e2 16) w2)∧((μ (gd e2 15) (gd e2 16) w2)<m)) (aD n0 bI bK n3 w_7 l10 e11 i12 cA bj moves15' q16' F1 F3 (ci 0) cE i22 dR dF q25 C4 C5 H8 H9 I0 I1 I2 I3 I4 I5 I6 I8 I9 J0 J1 J2 J3 J4 M8 M9 N0 N1 N2 N3 N4 N5 N6 O0 P1 P2 P3 P5 P6 (zV (zV dd 78 [q16',bj,E3,E4]) 84 [bj,q16',bK,E6,E7,bj,E8,E9,F0,F1,F2,F1,F3]))) w) (cU K (aD n0 bI bK n3 w_7 l10 e11 i12 cA bj moves15' q16' (dd 17) (dd 18) (dd 19) cE i22 dR dF q25 C4 C5 H8 H9 I0 I1 I2 I3 I4 I5 I6 I8 I9 J0 J1 J2 J3 J4 M8 M9 N0 N1 N2 N3 N4 N5 N6 O0 P1 P2 P3 P5 P6 (zV dd 78 [q16',bj,E3,E4])) w)) w) :
    kW K (aD n0 bI bK n3 w_7 l10 e11 i12 cA bj bB q16 i17 cq j19 cE i22 dR dF q25 C4 C5 H8 H9 I0 I1 I2 I3 I4 I5 I6 I8 I9 J0 J1 J2 J3 J4 M8 M9 N0 N1 N2 N3 N4 N5 N6 O0 P1 P2 P3 P5 P6 zf) w := by
  refine aQ (cd Tryz.f4 [1, 1, 1, 1, 1, 1, 1, 1, 1, 1, 0, 1, 0, 0]) (zr [(6, 1), (15, 6), (78, 52)]) (by kernel_rfl) (fun e2 w2 => Inv (gd e2 15) (gd e2 16) w2) (fun e2 w2 => μ (gd e2 15) (gd e2 16) w2) h0 ?_
  intro e' w' hI
  have h := hs (gd e' 15) (gd e' 16) (zM zf (fun i => gd e' i) (zr [(6, 1), (15, 6), (78, 52)])) w' _ hI rfl
  revert h
  delta kX fA
  generalize (cU K) = qc0
  exact fun h => Eq.mp (by kernel_rfl) h

theorem yZ {B1 : KE} (Inv : Value → Value → World → Prop) (μ : Value → Value → World → Nat) (h0 : Inv bB j19 w)
    (hs : ∀ (moves15' j19' : Value) (dd : Nat → Value) (w : World) (m : Nat), Inv moves15' j19' w → m = μ moves15' j19' w →
    lN 58 cq (fun F4=>lS j19' F4 fun F5 w=>cond F5 (aU Q 58 cq j19' (fun F7=>ld Q 61 F7 fun F8=>alc Q 61 fun a20=>sto Q 61 a20 F8 fun _=>nC moves15' fun F9 w=>aK (fun S w=>hld (fun _=>True) (bin Q BinOp.sub 3 false true i17 (ci 1)) fun G1=>hF S 61 a20 0 fun G5=>hL S 5 G5 fun G6=>hF S 61 a20 1 fun G7=>hL S 24 G7 fun G8=>hF S 61 a20 2 fun G9=>hL S 3 G9 fun H0=>hF S 61 a20 3 fun H1=>hL S 2 H1 fun H2=>call Q 14 #[l10] (fun G0=>bF S fun S w=>hld S (idx Q 26 G0 G1) fun G2=>hld (fun _=>True) (bin Q BinOp.add 24 false true G2 (cu 1)) fun G3=>call Q 14 #[l10] (fun G4=>bF S fun S w=>hld S (bld Q 54 #[(0,i17),(1,G3),(2,G4),(3,G6),(4,G8),(5,H0),(6,H2)]) fun H3=>call Q 10 #[l10,H3] (fun H4=>aK fun S w=>hld S (bin Q BinOp.neq 49 false true H4 (ci 0)) fun H5=>cond H5 (K cF w) (nC j19' (fun F6 w=>(Inv F9 F6 w)∧((μ F9 F6 w)<m)) w)) w) w) w) w.drew) w) (fA K B1 (aD n0 bI bK n3 w_7 l10 e11 i12 cA bj moves15' q16 i17 cq j19' cE i22 dR dF q25 C4 C5 H8 H9 I0 I1 I2 I3 I4 I5 I6 I8 I9 J0 J1 J2 J3 J4 M8 M9 N0 N1 N2 N3 N4 N5 N6 O0 P1 P2 P3 P5 P6 (zV dd 97 [j19',cq,F4,F5])) w)) w) :
    kX K B1 (aD n0 bI bK n3 w_7 l10 e11 i12 cA bj bB q16 i17 cq j19 cE i22 dR dF q25 C4 C5 H8 H9 I0 I1 I2 I3 I4 I5 I6 I8 I9 J0 J1 J2 J3 J4 M8 M9 N0 N1 N2 N3 N4 N5 N6 O0 P1 P2 P3 P5 P6 zf) w := by
  refine aQ (cd Tryz.f4 [1, 1, 1, 1, 1, 1, 1, 1, 1, 1, 0, 1, 0, 0, 1, 0, 0, 1, 1, 1, 0, 0]) (zr [(6, 1), (15, 1), (19, 2), (97, 33)]) (by kernel_rfl) (fun e2 w2 => Inv (gd e2 15) (gd e2 19) w2) (fun e2 w2 => μ (gd e2 15) (gd e2 19) w2) h0 ?_
  intro e' w' hI
  have h := hs (gd e' 15) (gd e' 19) (zM zf (fun i => gd e' i) (zr [(6, 1), (15, 1), (19, 2), (97, 33)])) w' _ hI rfl
  revert h
  generalize (cU K) = qc0
  generalize (fA K B1) = qc1
  exact fun h => Eq.mp (by kernel_rfl) h

theorem zb (h:lN 56 bj (fun H6=>bin Q .gtr 3 false true H6 (ci 0) fun H7 w=>aJ H7 true (fun M=>ai Q 30 cA 3 (fun H9=>ld Q 27 H9 fun I0=>lN 27 I0 fun I1=>lN 56 bj fun I3=>bin Q .sub 3 false true I3 (ci 1) fun I4=>bin Q .mul 3 false false I1 I4 fun I5=>bin Q .gtr 3 false false bB I5 fun I6=>M [bB,H9,I0,I1,bj,I3,I4,I5,I6]) w) (fun k=>k [uu,uu,uu,uu,uu,uu,uu,uu,uu] w) fun d=>pick H7 (gd d 8) cF fun I7 w=>aJ I7 false (fun I=>lN 56 bj (fun I9=>bin Q .eql 3 false true I9 (ci 0) fun J0=>I [bj,I9,J0,J0]) w) (fun k=>k [uu,uu,uu,uu] w) fun j w=>aJ (gd j 3) true (fun R=>bin Q .gtr 3 false true bB (ci 0) (fun J3=>R [bB,J3]) w) (fun k=>k [uu,uu] w) fun u w=>aJ I7 false (fun J=>pick (gd j 3) (gd u 1) cF (fun J4=>J [J4]) w) (fun k=>k [uu] w) fun C=>pick I7 cT (gd C 0) fun J5 w=>cond J5 (K cF w) (call Q 11 #[l10] (fun J6=>alc Q 30 fun cE=>sto Q 30 cE J6 fun _=>kY K (aD n0 bI bK n3 w_7 l10 e11 i12 cA bj bB q16 i17 cq j19 cE (ci 0) dR dF q25 C4 C5 (gd d 0) (gd d 1) (gd d 2) (gd d 3) (gd d 4) (gd d 5) (gd d 6) (gd d 7) (gd d 8) (gd j 0) (gd j 1) (gd j 2) (gd j 3) (gd u 0) (gd u 1) (gd C 0) M8 M9 N0 N1 N2 N3 N4 N5 N6 O0 P1 P2 P3 P5 P6 (zV (zV (zV zf 130 [bj,H6,H7,H7]) 143 [I7,I7]) 152 [J5,l10,J6]))) w)) w):cU K (aD n0 bI bK n3 w_7 l10 e11 i12 cA bj bB q16 i17 cq j19 cE i22 dR dF q25 C4 C5 H8 H9 I0 I1 I2 I3 I4 I5 I6 I8 I9 J0 J1 J2 J3 J4 M8 M9 N0 N1 N2 N3 N4 N5 N6 O0 P1 P2 P3 P5 P6 zf) w:=by
 delta cU;revert h;delta kY bJ;exact mpF
theorem zc {B1:KE}(h:nC q16 (fun E5=>B1 (aD n0 bI bK n3 w_7 l10 e11 i12 cA bj bB E5 i17 cq j19 cE i22 dR dF q25 C4 C5 H8 H9 I0 I1 I2 I3 I4 I5 I6 I8 I9 J0 J1 J2 J3 J4 M8 M9 N0 N1 N2 N3 N4 N5 N6 O0 P1 P2 P3 P5 P6 (zV zf 82 [q16,E5]))) w):fA K B1 (aD n0 bI bK n3 w_7 l10 e11 i12 cA bj bB q16 i17 cq j19 cE i22 dR dF q25 C4 C5 H8 H9 I0 I1 I2 I3 I4 I5 I6 I8 I9 J0 J1 J2 J3 J4 M8 M9 N0 N1 N2 N3 N4 N5 N6 O0 P1 P2 P3 P5 P6 zf) w:=by
 delta fA;revert h;generalize (cU K)=qc0;exact mpF
theorem ze (Inv:vI 15)(μ:vM 15)(h0:Inv i22 M8 M9 N0 N1 N2 N3 N4 N5 N6 P1 P2 P3 P5 P6 w)(hs:∀(d u V ad C J U M X al I R ag Z j:Value) (dd:Nat→Value) (w:World) (m:Nat),Inv d u V ad C J U M X al I R ag Z j w→m=μ d u V ad C J U M X al I R ag Z j w →
  ai Q 30 cE 3 (fun J7=>ld Q 27 J7 fun J8=>lN 27 J8 fun J9=>lS d J9 fun L0 w=>cond L0 (ai Q 30 cE 3 (fun L2=>ld Q 27 L2 fun L3=>aU Q 27 L3 d fun L4=>ai Q 38 L4 0 fun L5=>ld Q 24 L5 fun L6=>kZ K (fun e2 w2=>(Inv (gd e2 22) (gd e2 191) (gd e2 192) (gd e2 193) (gd e2 194) (gd e2 195) (gd e2 196) (gd e2 197) (gd e2 198) (gd e2 199) (gd e2 227) (gd e2 228) (gd e2 229) (gd e2 232) (gd e2 233) w2)∧((μ (gd e2 22) (gd e2 191) (gd e2 192) (gd e2 193) (gd e2 194) (gd e2 195) (gd e2 196) (gd e2 197) (gd e2 198) (gd e2 199) (gd e2 227) (gd e2 228) (gd e2 229) (gd e2 232) (gd e2 233) w2)<m)) (aD n0 bI bK n3 w_7 l10 e11 i12 cA bj bB q16 i17 cq j19 cE d L6 (ci 0) (ci 0) C4 C5 H8 H9 I0 I1 I2 I3 I4 I5 I6 I8 I9 J0 J1 J2 J3 J4 u V ad C J U M X al (dd 206) I R ag Z j (zV (zV dd 155 [d,J7,J8,J9,L0]) 162 [L2,L3,d,L4,L5,L6]))) w) (bJ K (aD n0 bI bK n3 w_7 l10 e11 i12 cA bj bB q16 i17 cq j19 cE d (dd 23) (dd 24) (dd 25) C4 C5 H8 H9 I0 I1 I2 I3 I4 I5 I6 I8 I9 J0 J1 J2 J3 J4 u V ad C J U M X al (dd 206) I R ag Z j (zV dd 155 [d,J7,J8,J9,L0])) w)) w):kY K (aD n0 bI bK n3 w_7 l10 e11 i12 cA bj bB q16 i17 cq j19 cE i22 dR dF q25 C4 C5 H8 H9 I0 I1 I2 I3 I4 I5 I6 I8 I9 J0 J1 J2 J3 J4 M8 M9 N0 N1 N2 N3 N4 N5 N6 O0 P1 P2 P3 P5 P6 zf) w:=by
 refine aQ (cd f4 [1,1,1,1,1,1,1,1,1,1,1,1,1,0,1,0,0]) (zr [(6,1),(22,7),(155,85)]) (by kernel_rfl) (fun e2 w2=>Inv (gd e2 22) (gd e2 191) (gd e2 192) (gd e2 193) (gd e2 194) (gd e2 195) (gd e2 196) (gd e2 197) (gd e2 198) (gd e2 199) (gd e2 227) (gd e2 228) (gd e2 229) (gd e2 232) (gd e2 233) w2) (fun e2 w2=>μ (gd e2 22) (gd e2 191) (gd e2 192) (gd e2 193) (gd e2 194) (gd e2 195) (gd e2 196) (gd e2 197) (gd e2 198) (gd e2 199) (gd e2 227) (gd e2 228) (gd e2 229) (gd e2 232) (gd e2 233) w2) h0 ?_
 intro e' w' hI;have h:=hs (gd e' 22) (gd e' 191) (gd e' 192) (gd e' 193) (gd e' 194) (gd e' 195) (gd e' 196) (gd e' 197) (gd e' 198) (gd e' 199) (gd e' 227) (gd e' 228) (gd e' 229) (gd e' 232) (gd e' 233) (zM zf (fun i=>gd e' i) (zr [(6,1),(22,7),(155,85)])) w' _ hI rfl;revert h;delta kZ eJ cr;generalize (bJ K)=qc0;exact mpF
theorem zh {B1:KE}(Inv:vI 11)(μ:vM 11)(h0:Inv dF q25 M8 M9 N0 N1 N2 N3 N4 N5 N6 w)(hs:∀(j d u U X C J R M V I:Value) (dd:Nat→Value) (w:World) (m:Nat),Inv j d u U X C J R M V I w→m=μ j d u U X C J R M V I w →
  lN 56 bj (fun L7=>lS d L7 fun L8 w=>cond L8 (aU Q 56 bj d (fun M0=>ld Q 3 M0 fun M1=>call Q 15 #[l10,M1,dR] fun M2 w=>aK (fun S w=>hL S 30 cA fun M3=>hI S 56 bj d fun M4=>hL S 3 M4 fun M5=>call Q 16 #[M3,dR,M5] (fun M6=>aK fun S w=>hld S (bin Q .neq 2 false false M2 M6) fun M7=>hG M7 false S (fun k=>k M2) fun M8=>hG M7 false S (ld Q 30 cE) fun M9=>hG M7 false S (fun k=>k dR) fun N0=>hG M7 false S (fun k=>k bj) fun N1=>hG M7 false S (fun k=>k d) fun N2=>hG M7 false S (aU Q 56 N1 N2) fun N3=>hG M7 false S (ld Q 3 N3) fun N4=>xG M7 false (call Q 16 #[M9,N0,N4]) (fun N5=>bF S fun S w=>hG M7 false S (bin Q .neq 2 false false M8 N5) fun N6=>hld S (pick M7 cT N6) fun N7=>cond N7 (K cF w) (bin Q .add 2 false false j M2 (fun N8=>nC d fun L9 w=>(Inv N8 L9 M8 M9 N0 N1 N2 N3 N4 N5 N6 w)∧((μ N8 L9 M8 M9 N0 N1 N2 N3 N4 N5 N6 w)<m)) w)) w) w) w.drew) w) (eJ K B1 (aD n0 bI bK n3 w_7 l10 e11 i12 cA bj bB q16 i17 cq j19 cE i22 dR j d C4 C5 H8 H9 I0 I1 I2 I3 I4 I5 I6 I8 I9 J0 J1 J2 J3 J4 u U X C J R M V I O0 P1 P2 P3 P5 P6 (zV dd 168 [d,bj,L7,L8])) w)) w):kZ K B1 (aD n0 bI bK n3 w_7 l10 e11 i12 cA bj bB q16 i17 cq j19 cE i22 dR dF q25 C4 C5 H8 H9 I0 I1 I2 I3 I4 I5 I6 I8 I9 J0 J1 J2 J3 J4 M8 M9 N0 N1 N2 N3 N4 N5 N6 O0 P1 P2 P3 P5 P6 zf) w:=by
 refine aQ (cd f4 [1,1,1,1,1,1,1,1,1,1,1,1,1,0,1,0,0,1,0,0,1,1,0,1,0,0]) (zr [(6,1),(24,3),(168,36)]) (by kernel_rfl) (fun e2 Z=>Inv (gd e2 24) (gd e2 25) (gd e2 191) (gd e2 192) (gd e2 193) (gd e2 194) (gd e2 195) (gd e2 196) (gd e2 197) (gd e2 198) (gd e2 199) Z) (fun e2 Z=>μ (gd e2 24) (gd e2 25) (gd e2 191) (gd e2 192) (gd e2 193) (gd e2 194) (gd e2 195) (gd e2 196) (gd e2 197) (gd e2 198) (gd e2 199) Z) h0 ?_
 intro e' w' hI;have h:=hs (gd e' 24) (gd e' 25) (gd e' 191) (gd e' 192) (gd e' 193) (gd e' 194) (gd e' 195) (gd e' 196) (gd e' 197) (gd e' 198) (gd e' 199) (zM zf (fun i=>gd e' i) (zr [(6,1),(24,3),(168,36)])) w' _ hI rfl;revert h;generalize (bJ K)=qc0;generalize (cr K B1)=qc1;generalize (eJ K B1)=qc2;exact mpF
theorem zj (h:call Q 6 #[] K w):bJ K (aD n0 bI bK n3 w_7 l10 e11 i12 cA bj bB q16 i17 cq j19 cE i22 dR dF q25 C4 C5 H8 H9 I0 I1 I2 I3 I4 I5 I6 I8 I9 J0 J1 J2 J3 J4 M8 M9 N0 N1 N2 N3 N4 N5 N6 O0 P1 P2 P3 P5 P6 zf) w:=by
 delta bJ;exact mpK h
theorem zo {B1 : KE}
    (h : lN 56 bj (fun N9=>bin Q BinOp.gtr 3 false true N9 (ci 0) fun O0=>l9 K B1 (aD n0 bI bK n3 w_7 l10 e11 i12 cA bj bB q16 i17 cq j19 cE i22 dR dF q25 C4 C5 H8 H9 I0 I1 I2 I3 I4 I5 I6 I8 I9 J0 J1 J2 J3 J4 M8 M9 N0 N1 N2 N3 N4 N5 N6 O0 P1 P2 P3 P5 P6 (zV zf 204 [bj,N9]))) w) :
    eJ K B1 (aD n0 bI bK n3 w_7 l10 e11 i12 cA bj bB q16 i17 cq j19 cE i22 dR dF q25 C4 C5 H8 H9 I0 I1 I2 I3 I4 I5 I6 I8 I9 J0 J1 J2 J3 J4 M8 M9 N0 N1 N2 N3 N4 N5 N6 O0 P1 P2 P3 P5 P6 zf) w := by
  delta eJ
  refine Eq.mp (congrArg (fun c => ae Q c _ _ _ _ w) (by kernel_rfl : (rep [0, 1] (cd Tryz.f4 [1, 1, 1, 1, 1, 1, 1, 1, 1, 1, 1, 1, 1, 0, 1, 0, 0, 1, 0, 0, 1, 1, 1, 0, 1]) (cd Tryz.f4 [1, 1, 1, 1, 1, 1, 1, 1, 1, 1, 1, 1, 1, 0, 1, 0, 0, 1, 0, 0, 1, 1, 1])) = (cd Tryz.f4 [1, 1, 1, 1, 1, 1, 1, 1, 1, 1, 1, 1, 1, 0, 1, 0, 0, 1, 0, 0, 1, 1, 1]))) ?_
  revert h
  delta l9 fB
  generalize (cd Tryz.f4 [1, 1, 1, 1, 1, 1, 1, 1, 1, 1, 1, 1, 1, 0, 1, 0, 0, 1, 0, 0, 1, 1, 1, 0, 1]) = xc0
  generalize (cr K B1) = qc0
  generalize (bJ K) = qc1
  exact fun h => Eq.mp (by kernel_rfl) h

theorem zq {B1:KE}(h:cond O0 (aU Q 56 bj (ci 0) (fun O1=>ld Q 3 O1 fun O2=>call Q 15 #[l10,O2,dR] fun O3=>lN 56 bj fun O4=>bin Q .sub 3 false true O4 (ci 1) fun O5=>aU Q 56 bj O5 fun O6=>ld Q 3 O6 fun O7=>call Q 15 #[l10,O7,dR] fun O8=>bin Q .sub 2 false false O3 O8 fun O9=>bin Q .gtr 2 false true O9 (ci 1) fun P0 w=>aJ P0 false (fun C=>bin Q .lss 2 false false O3 O8 (fun P3=>C [O3,O8,P3]) w) (fun k=>k [uu,uu,uu] w) fun d=>pick P0 cT (gd d 2) fun P4 w=>aJ P4 false (fun u=>bin Q .lss 2 false true dF (ci 0) (fun P6=>u [dF,P6]) w) (fun k=>k [uu,uu] w) fun j=>pick P4 cT (gd j 1) fun P7 w=>cond P7 (K cF w) (fB K B1 (aD n0 bI bK n3 w_7 l10 e11 i12 cA bj bB q16 i17 cq j19 cE i22 dR dF q25 C4 C5 H8 H9 I0 I1 I2 I3 I4 I5 I6 I8 I9 J0 J1 J2 J3 J4 M8 M9 N0 N1 N2 N3 N4 N5 N6 O0 (gd d 0) (gd d 1) (gd d 2) (gd j 0) (gd j 1) (zV (zV (zV (zV zf 27 [O3,O8]) 207 [l10,bj,O1,O2,dR,O3,l10,bj,bj,O4,O5,O6,O7,dR,O8,O3,O8,O9,P0,P0]) 230 [P4,P4]) 234 [P7])) w)) w) (fB K B1 (aD n0 bI bK n3 w_7 l10 e11 i12 cA bj bB q16 i17 cq j19 cE i22 dR dF q25 C4 C5 H8 H9 I0 I1 I2 I3 I4 I5 I6 I8 I9 J0 J1 J2 J3 J4 M8 M9 N0 N1 N2 N3 N4 N5 N6 O0 P1 P2 P3 P5 P6 zf) w)):l9 K B1 (aD n0 bI bK n3 w_7 l10 e11 i12 cA bj bB q16 i17 cq j19 cE i22 dR dF q25 C4 C5 H8 H9 I0 I1 I2 I3 I4 I5 I6 I8 I9 J0 J1 J2 J3 J4 M8 M9 N0 N1 N2 N3 N4 N5 N6 O0 P1 P2 P3 P5 P6 zf) w:=by
 delta l9;revert h;generalize (fB K B1)=qc0;generalize (bJ K)=qc1;generalize (cr K B1)=qc2;exact mpF
theorem zt {B1:KE}(h:ld Q 30 cE (fun P8=>call Q 17 #[P8,dR] fun P9=>lN 65 P9 fun Q0=>bin Q .gtr 3 false true Q0 (ci 0) fun Q1 w=>cond Q1 (K cF w) (cr K B1 (aD n0 bI bK n3 w_7 l10 e11 i12 cA bj bB q16 i17 cq j19 cE i22 dR dF q25 C4 C5 H8 H9 I0 I1 I2 I3 I4 I5 I6 I8 I9 J0 J1 J2 J3 J4 M8 M9 N0 N1 N2 N3 N4 N5 N6 O0 P1 P2 P3 P5 P6 (zV zf 235 [P8,dR,P9,Q0,Q1])) w)) w):fB K B1 (aD n0 bI bK n3 w_7 l10 e11 i12 cA bj bB q16 i17 cq j19 cE i22 dR dF q25 C4 C5 H8 H9 I0 I1 I2 I3 I4 I5 I6 I8 I9 J0 J1 J2 J3 J4 M8 M9 N0 N1 N2 N3 N4 N5 N6 O0 P1 P2 P3 P5 P6 zf) w:=by
 delta fB;revert h;generalize (cr K B1)=qc0;generalize (bJ K)=qc1;exact mpF
theorem zv {B1:KE}(h:nC i22 (fun L1=>B1 (aD n0 bI bK n3 w_7 l10 e11 i12 cA bj bB q16 i17 cq j19 cE L1 dR dF q25 C4 C5 H8 H9 I0 I1 I2 I3 I4 I5 I6 I8 I9 J0 J1 J2 J3 J4 M8 M9 N0 N1 N2 N3 N4 N5 N6 O0 P1 P2 P3 P5 P6 (zV zf 160 [i22,L1]))) w):cr K B1 (aD n0 bI bK n3 w_7 l10 e11 i12 cA bj bB q16 i17 cq j19 cE i22 dR dF q25 C4 C5 H8 H9 I0 I1 I2 I3 I4 I5 I6 I8 I9 J0 J1 J2 J3 J4 M8 M9 N0 N1 N2 N3 N4 N5 N6 O0 P1 P2 P3 P5 P6 zf) w:=by
 delta cr;revert h;generalize (bJ K)=qc0;exact mpF
end
attribute [irreducible] mZ fz kU cU kW fA kX bJ kY cr eJ kZ fB l9
end
section
open Go.RowKit
def nI (l1 e2 f3 s4 id5 m6 C2 C3 C4 C5 C7 C8 C9 D0 D2 D3 D4 D6 D7 D8 D9 E0 E2 E3 E4 E5 E6 E8 E9 F0 F1 F3 F4 F5 F6:Value)(zf:Nat→Value):List Value:=zf 0::l1::e2::f3::s4::id5::m6::zT zf 7 21 (C2::C3::C4::C5::zf 32::zf 33::C7::C8::C9::D0::zf 38::zf 39::D2::D3::D4::zf 43::zf 44::D6::D7::D8::D9::E0::zf 50::zf 51::E2::E3::E4::E5::E6::zf 57::zf 58::E8::E9::F0::F1::zf 63::zf 64::F3::F4::F5::F6::zf 69::[])
def p8 (K : KV) : KE := ae Q (cd Tryz.f6 [1, 1, 1, 1, 1, 1, 1]) (rk Tryz.f6 K) xf (rk Tryz.f6 K)
section
variable {K:KV}{l1 e2 f3 s4 id5 m6 C2 C3 C4 C5 C7 C8 C9 D0 D2 D3 D4 D6 D7 D8 D9 E0 E2 E3 E4 E5 E6 E8 E9 F0 F1 F3 F4 F5 F6:Value}{zf:Nat→Value}{w:World}
theorem EF {K : KV} (xc0 : Code) {w : World}
    (h : call Q 9 #[ci 3] (fun A0=>ext Q A0 0 fun A1=>ext Q A0 1 fun A2=>bin Q BinOp.neq 49 false true A2 (ci 0) fun A3 w=>aJ A3 false (fun k14=>bin Q BinOp.eql 48 false true A1 (Value.pointer none) (fun A4=>k14 [A1,A4]) w) (fun k=>k [uu,uu] w) fun us14=>pick A3 cT (gd us14 1) fun A5 w=>cond A5 (K cF w) (bld Q 54 #[(0,ci 1),(1,cu 1),(3,cb 1),(6,ci 9)] (fun A6=>call Q 10 #[A1,A6] fun A7=>call Q 11 #[A1] fun A8=>alc Q 30 fun s4=>sto Q 30 s4 A8 fun _=>ld Q 30 s4 fun A9=>call Q 17 #[A9,cu 1099511627777] fun C0=>ae Q xc0 (rk Tryz.f6 K) (fun _ _ _=>False) (rk Tryz.f6 K) (nI A1 A2 A7 s4 (cu 1099511627777) C0 uu uu uu uu uu uu uu uu uu uu uu uu uu uu uu uu uu uu uu uu uu uu uu uu uu uu uu uu uu (zV (zV zu 0 [cF]) 7 [A0,A0,A1,A2,A2,A3,A3,gd us14 0,gd us14 1,A5,A1,A6,A7,A1,A8,A9,cu 1099511627777,C0]))) w)) w) :
    ae Q (rep [1, 1, 1, 1, 1, 1, 1] xc0 (cd Tryz.f6 [])) (rk Tryz.f6 K) xf (rk Tryz.f6 K) (nI uu uu uu uu uu uu uu uu uu uu uu uu uu uu uu uu uu uu uu uu uu uu uu uu uu uu uu uu uu uu uu uu uu uu uu zu) w := Eq.mp (by kernel_rfl) h

theorem DT {K : KV} {w : World}
    (h : call Q 9 #[ci 3] (fun A0=>ext Q A0 0 fun A1=>ext Q A0 1 fun A2=>bin Q BinOp.neq 49 false true A2 (ci 0) fun A3 w=>aJ A3 false (fun k14=>bin Q BinOp.eql 48 false true A1 (Value.pointer none) (fun A4=>k14 [A1,A4]) w) (fun k=>k [uu,uu] w) fun us14=>pick A3 cT (gd us14 1) fun A5 w=>cond A5 (K cF w) (bld Q 54 #[(0,ci 1),(1,cu 1),(3,cb 1),(6,ci 9)] (fun A6=>call Q 10 #[A1,A6] fun A7=>call Q 11 #[A1] fun A8=>alc Q 30 fun s4=>sto Q 30 s4 A8 fun _=>ld Q 30 s4 fun A9=>call Q 17 #[A9,cu 1099511627777] fun C0=>p8 K (nI A1 A2 A7 s4 (cu 1099511627777) C0 uu uu uu uu uu uu uu uu uu uu uu uu uu uu uu uu uu uu uu uu uu uu uu uu uu uu uu uu uu (zV (zV zu 0 [cF]) 7 [A0,A0,A1,A2,A2,A3,A3,gd us14 0,gd us14 1,A5,A1,A6,A7,A1,A8,A9,cu 1099511627777,C0]))) w)) w) :
    Gives Q 6 #[] w K := aH Tryz.func6 (by kernel_rfl) (Eq.mp (congrArg (fun c => ae Q c (rk Tryz.f6 K) xf (rk Tryz.f6 K) (nI uu uu uu uu uu uu uu uu uu uu uu uu uu uu uu uu uu uu uu uu uu uu uu uu uu uu uu uu uu uu uu uu uu uu uu zu) w) (by kernel_rfl : (rep [1, 1, 1, 1, 1, 1, 1] (cd Tryz.f6 [1, 1, 1, 1, 1, 1, 1]) (cd Tryz.f6 [])) = (cd Tryz.f6 []))) (EF (cd Tryz.f6 [1, 1, 1, 1, 1, 1, 1]) h))

theorem Cv (h:bin Q .eql 49 false true f3 (ci 0) (fun C1 w=>aJ C1 true (fun ag=>ld Q 30 s4 (fun C2=>call Q 16 #[C2,id5,ci 1] fun C4=>bin Q .eql 2 false true C4 (ci 3) fun C5=>ag [C2,id5,C4,C5]) w) (fun k=>k [uu,uu,uu,uu] w) fun J=>pick C1 (gd J 3) cF fun C6 w=>aJ C6 true (fun R=>ld Q 30 s4 (fun C7=>call Q 16 #[C7,id5,ci 4] fun C9=>bin Q .eql 2 false true C9 (ci 0) fun D0=>R [C7,id5,C9,D0]) w) (fun k=>k [uu,uu,uu,uu] w) fun u=>pick C6 (gd u 3) cF fun D1 w=>aJ D1 true (fun U=>lN 65 m6 (fun D3=>bin Q .eql 3 false true D3 (ci 2) fun D4=>U [m6,D3,D4]) w) (fun k=>k [uu,uu,uu] w) fun j=>pick D1 (gd j 2) cF fun D5 w=>aJ D5 true (fun X=>aU Q 65 m6 (ci 0) (fun D7=>ld Q 69 D7 fun D8=>bld Q 69 #[(0,ci 1),(1,ci 2),(2,ci 3)] fun D9=>bin Q .eql 69 false false D8 D9 fun E0=>X [m6,D7,D8,D9,E0]) w) (fun k=>k [uu,uu,uu,uu,uu] w) fun d=>pick D5 (gd d 4) cF fun E1 w=>aJ E1 true (fun Z=>aU Q 65 m6 (ci 1) (fun E3=>ld Q 69 E3 fun E4=>bld Q 69 #[(0,ci 1),(1,ci 3),(2,ci 3)] fun E5=>bin Q .eql 69 false false E4 E5 fun E6=>Z [m6,E3,E4,E5,E6]) w) (fun k=>k [uu,uu,uu,uu,uu] w) fun I=>pick E1 (gd I 4) cF fun E7 w=>aJ E7 true (fun ad=>ld Q 30 s4 (fun E8=>call Q 13 #[E8,ci 1] fun E9=>lN 58 E9 fun F0=>bin Q .eql 3 false true F0 (ci 2) fun F1=>ad [E8,E9,F0,F1]) w) (fun k=>k [uu,uu,uu,uu] w) fun C=>pick E7 (gd C 3) cF fun F2 w=>aJ F2 true (fun V=>ld Q 30 s4 (fun F3=>call Q 13 #[F3,ci 2] fun F4=>lN 58 F4 fun F5=>bin Q .eql 3 false true F5 (ci 0) fun F6=>V [F3,F4,F5,F6]) w) (fun k=>k [uu,uu,uu,uu] w) fun M=>pick F2 (gd M 3) cF K) w):p8 K (nI l1 e2 f3 s4 id5 m6 C2 C3 C4 C5 C7 C8 C9 D0 D2 D3 D4 D6 D7 D8 D9 E0 E2 E3 E4 E5 E6 E8 E9 F0 F1 F3 F4 F5 F6 zf) w:=by
 delta p8;exact mpK h
end
attribute [irreducible] p8
end
section
open Go.RowKit
def gbk (w:World)(g:Nat)(cs:List Value):Prop:=∃E fr,w.heap[g]? = some (.cells cs.toArray E fr)
def fnV (f:FuncId):Value:=.func (.func f) #[] #[]
theorem LQ {P:Program}{w:World}{base:Nat}{j:Nat→Bool}{fuel:Nat}{t:TypeId}{ps C:Array TypeId}{u:Bool}{v:Value}{q:List MemPlace}{enc:TypeId×Value→List UInt8}(d:P.underlying t=some (.func ps C u))(h:DataW.trod enc P w base j true fuel t [v]=some (.nil,q)):v=.nilFunc:=by
 cases fuel with
 | zero=>simp[DataW.trod]at h
 | succ n=>cases v<;>simp[DataW.trod,d]at h;rfl
def Lw :List Value:=[.nilFunc,fnV 154,fnV 155,fnV 156,fnV 157,fnV 158,fnV 159,fnV 160]
set_option maxRecDepth 100000 in
theorem PF {W:World} {j:List (String × DataW Unit)} (h:laidMetH Tryz.prog j W) (hm:("leat/ledger.kinds",Rows.laid_leat_ledger_kinds) ∈ j):gbk W 0 Lw:=by
 obtain ⟨g,t,cs,fuel,p,hg,ht,u,hd⟩:=h.funcs hm;obtain rfl:=Option.some.inj ((show Tryz.prog.globalNamed "leat/ledger.kinds" = some 0 by kernel_rfl).symm.trans hg);obtain rfl:=Option.some.inj ((show (Tryz.prog.globals[0]?).map (·.type)=some 123 by kernel_rfl).symm.trans ht)
 have al:DataW.trod (funcToken Tryz.prog) Tryz.prog W 0 (fun _=>true) true fuel 123 cs.toList=some (.agg [.nil,.held [40,42,108,101,97,116,47,108,101,100,103,101,114,46,76,101,100,103,101,114,41,46,109,97,107,101,115],.held [40,42,108,101,97,116,47,108,101,100,103,101,114,46,76,101,100,103,101,114,41,46,114,97,105,115,101,115],.held [40,42,108,101,97,116,47,108,101,100,103,101,114,46,76,101,100,103,101,114,41,46,116,97,107,101,115],.held [40,42,108,101,97,116,47,108,101,100,103,101,114,46,76,101,100,103,101,114,41,46,102,114,101,101,115],.held [40,42,108,101,97,116,47,108,101,100,103,101,114,46,76,101,100,103,101,114,41,46,109,111,118,101,115],.held [40,42,108,101,97,116,47,108,101,100,103,101,114,46,76,101,100,103,101,114,41,46,106,111,105,110,115],.held [40,42,108,101,97,116,47,108,101,100,103,101,114,46,76,101,100,103,101,114,41,46,108,101,97,118,101,115]],p):=hd
 obtain ⟨xs,m,rfl,I,hl,hn,d⟩:=DataW.trod_array (n:=8) (e:=122) (by kernel_rfl) al;have hl:cs.toList.length=8:=hl.trans (by kernel_rfl);have hc:Tryz.prog.cellsOf 122=1:=by kernel_rfl
 rw [hc] at d;have I:=(Prod.mk.inj I).1;generalize ag:cs.toList=l at hl d;obtain ⟨c0,U,c2,V,J,R,X,c7,rfl⟩:∃ c0 U c2 V J R X c7:Value,l=[c0,U,c2,V,J,R,X,c7]:=by
  match l,hl with
  | [c0,U,c2,V,J,R,X,c7],_=>exact ⟨_,_,_,_,_,_,_,_,rfl⟩
 obtain ⟨x0,x1,C,x3,x4,x5,Z,M,rfl⟩:∃ x0 x1 C x3 x4 x5 Z M:DataW (List UInt8) × List MemPlace,xs=[x0,x1,C,x3,x4,x5,Z,M]:=by
  match xs,hn with
  | [x0,x1,C,x3,x4,x5,Z,M],_=>exact ⟨_,_,_,_,_,_,_,_,rfl⟩
 simp only [List.map_cons,List.map_nil,DataW.agg.injEq,List.cons.injEq,and_true] at I;obtain ⟨y0,y1,y2,y3,y4,y5,y6,y7⟩:=I;obtain ⟨d0,q0⟩:=x0;cases y0;have e0:DataW.trod (funcToken Tryz.prog) Tryz.prog W 0 (fun _=>true) true m 122 [c0]=some (_,q0):=d 0 (by omega);obtain rfl:=LQ underlying122 e0;obtain ⟨d1,q1⟩:=x1;cases y1
 have e1:DataW.trod (funcToken Tryz.prog) Tryz.prog W 0 (fun _=>true) true m 122 [U]=some (_,q1):=d 1 (by omega);obtain rfl:=func_of_trod (f0:=154) underlying122 (by kernel_rfl) e1;obtain ⟨d2,q2⟩:=C;cases y2;have e2:DataW.trod (funcToken Tryz.prog) Tryz.prog W 0 (fun _=>true) true m 122 [c2]=some (_,q2):=d 2 (by omega);obtain rfl:=func_of_trod (f0:=155) underlying122 (by kernel_rfl) e2
 obtain ⟨d3,q3⟩:=x3;cases y3;have e3:DataW.trod (funcToken Tryz.prog) Tryz.prog W 0 (fun _=>true) true m 122 [V]=some (_,q3):=d 3 (by omega);obtain rfl:=func_of_trod (f0:=156) underlying122 (by kernel_rfl) e3;obtain ⟨d4,q4⟩:=x4;cases y4;have e4:DataW.trod (funcToken Tryz.prog) Tryz.prog W 0 (fun _=>true) true m 122 [J]=some (_,q4):=d 4 (by omega)
 obtain rfl:=func_of_trod (f0:=157) underlying122 (by kernel_rfl) e4;obtain ⟨d5,q5⟩:=x5;cases y5;have e5:DataW.trod (funcToken Tryz.prog) Tryz.prog W 0 (fun _=>true) true m 122 [R]=some (_,q5):=d 5 (by omega);obtain rfl:=func_of_trod (f0:=158) underlying122 (by kernel_rfl) e5;obtain ⟨d6,q6⟩:=Z;cases y6
 have e6:DataW.trod (funcToken Tryz.prog) Tryz.prog W 0 (fun _=>true) true m 122 [X]=some (_,q6):=d 6 (by omega);obtain rfl:=func_of_trod (f0:=159) underlying122 (by kernel_rfl) e6;obtain ⟨d7,q7⟩:=M;cases y7;have e7:DataW.trod (funcToken Tryz.prog) Tryz.prog W 0 (fun _=>true) true m 122 [c7]=some (_,q7):=d 7 (by omega);obtain rfl:=func_of_trod (f0:=160) underlying122 (by kernel_rfl) e7
 obtain ⟨fr,ad⟩:∃ q:TypeId × (Nat × Nat),W.heap[0]? = some (.cells cs q.1 q.2):=by
  unfold World.var? at u;rw [hg] at u;simp only [Option.bind_some] at u;split at u
  ·rename_i a b c hh; cases u; exact ⟨(b,c),hh⟩
  ·cases u
 exact ⟨fr.1,fr.2,by rw [ad, ← Array.toArray_toList (xs:=cs),ag]; rfl⟩
end
section
theorem NO :ownKnob Tryz.prog.godebug=none:=by kernel_rfl
theorem LR :laidOutB Tryz.prog=true:=by kernel_rfl
end
end Go.Proofs.YtgpfkmdknlcemaaGreatDoor
