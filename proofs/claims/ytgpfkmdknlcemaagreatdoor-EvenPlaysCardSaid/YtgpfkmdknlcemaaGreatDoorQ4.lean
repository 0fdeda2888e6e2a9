/- Laid together: R19 EvS SR31 R31 R31b R31c R31d RowG Mem2 EvM EvM2. -/
import Derived.Test.YtgpfkmdknlcemaaGreatDoorQ3
import Derived.Test.YtgpfkmdknlcemaaGreatDoorQ2
import Derived.Maps.AppendAt
namespace Go.Proofs.YtgpfkmdknlcemaaGreatDoor
set_option maxRecDepth 100000
open Go.RowKit
attribute [local irreducible] bin un conv call bl blt slc aa fld af idx lkp bL bP eSt rng nxt ent ext alc box bld aJ ld sto aj bm mkS ifc pick rdy wts au sti cond aH Gives ac aW bA cOp
section
variable {w:World} {K:KV}
theorem DI {s:STA} {k:Nat} (hs:SK w s) (hk:k < 6) (h:∀ w',Below w.heap.size w w'→K (.bool (s.I.getD k false && !s.L.getD k false)) w'):call Tryz.prog 88 #[.agg (saC s).toArray,.int .i64 ((k:Int)+1)] K w:=by
 refine aE ui (uh ?_)
 refine bh fun w1 hb b1 s1 => ?_
 have hb:blk w1 w.heap.size 30 (saC s):=by simpa [Value.cells] using hb
 refine dI <|dz (by omega) <|fB <|bp (by omega) <|dz (by omega) <|bo (by omega) (by omega) ?_
 rw [show (k:Int)+1 - 1=(k:Nat) by omega]
 refine kX <|aT Tryz.underlying23 (s:=1) (fun _=>by kernel_rfl) (by omega) (by omega) <|ld1 (v:=.bool (s.I.getD k false)) (fun _=>by kernel_rfl) hb (by rw [show 0+0+(k:Int).toNat * 1=k by omega]; exact Jw hs hk) <|bp (by omega) ?_
 cases hI:s.I.getD k false with
 | false =>
  refine kx <|fe ?_
  rw [hI] at h
  exact h w1 b1
 | true =>
  refine jo <|bo (by omega) (by omega) ?_
  rw [show (k:Int)+1 - 1=(k:Nat) by omega]
  refine pX <|aT Tryz.underlying23 (s:=1) (fun _=>by kernel_rfl) (by omega) (by omega) <|ld1 (v:=.bool (s.L.getD k false)) (fun _=>by kernel_rfl) hb (by rw [show 0+6+(k:Int).toNat * 1=6+k by omega]; exact GA hs hk) <|cU <|bI ?_
  rw [hI] at h
  exact h w1 b1
set_option maxHeartbeats 2000000 in
theorem DJ {s:STA} (hs:SK w s) (h:∀ w' a c,ON w' w.heap.size a (bS s.I s.L 6).length c (bS s.I s.L 6)→Below w.heap.size w w'→K (.slice a (bS s.I s.L 6).length c) w'):call Tryz.prog 57 #[.agg (saC s).toArray] K w:=by
 refine aE uk (uj ?_)
 refine bh fun w1 hb b1 s1 => ?_
 have hb:blk w1 w.heap.size 30 (saC s):=by simpa [Value.cells] using hb
 have cutS:((saC s).drop 0).take 20=saC s:=by rw [List.drop_zero,List.take_of_length_le (by rw [hs.len]; omega)]
 refine rK (Inv:=fun l i wr => ∃ (k n:Nat) (a:Option Addr) (c:Nat),l=.slice a n c∧i=.int .i64 ((k:Int)+1)∧k≤6∧ON wr w1.heap.size a n c (bS s.I s.L k)∧Below w1.heap.size w1 wr) (μ:=fun _ i _=>8 - (intOf i).toNat)
  ⟨0,0,none,0,rfl,rfl,by omega,ON.nil _ _,Below.refl _ _⟩ ?_
 rintro _ _ dd w2 m ⟨k,n,a,c,rfl,rfl,hk6,ho,b2⟩ hm
 have hb2:=ae b2 hb hb.lt
 have hln:=ho.len
 have hll:=iV s.I s.L k
 have hsz:=b2.size
 refine fB ?_
 by_cases hk:k < 6
 ·refine ai (by omega) ?_
  refine rL ?_
  refine ldA (n:=20) (vs:=saC s) Tryz.underlying30 rfl (by kernel_rfl) hb2 cutS hs.len ?_
  refine DI (hs.bel (b1.trans (b2.mono (by omega))) (Nat.le_refl _)) hk fun w3 b3 => ?_
  have b23:Below w1.heap.size w1 w3:=b2.trans (b3.mono hsz)
  have ho3:=ho.bel b3
  have hsz3:=b3.size
  have step:∀ (w4:World) (a':Option Addr) (n' c':Nat),ON w4 w1.heap.size a' n' c' (bS s.I s.L (k+1))→Below w1.heap.size w1 w4 →
    (∃ (k' n:Nat) (a:Option Addr) (c:Nat),Value.slice a' n' c'=.slice a n c∧Value.int .i64 ((k:Int)+1+1)=.int .i64 ((k':Int)+1)∧k'≤6∧ON w4 w1.heap.size a n c (bS s.I s.L k')∧Below w1.heap.size w1 w4)∧8 - (intOf (.int .i64 ((k:Int)+1+1))).toNat < m :=
   fun w4 a' n' c' h1 h2=>⟨⟨k+1,n',a',c',rfl,by simp,by omega,h1,h2⟩,by rw [hm]; simp [intOf]; omega⟩
  cases hq:s.I.getD k false && !s.L.getD k false with
  | false =>
   refine cW ?_
   refine kO ?_
   refine aF (by omega) (by omega) ?_
   exact step w3 a n c (by rw [mh,hq]; simpa using ho3) b23
  | true =>
   refine aR ?_
   refine IN fun w4 g4 b4 s4 => ?_
   refine apN (ho3.bel b4) g4 (by omega) (by omega) fun a' c' w5 ho5 b5 => ?_
   refine kO ?_
   refine aF (by omega) (by omega) ?_
   exact step w5 a' (n+1) c' (by rw [mh,hq]; exact ho5) ((b23.trans (b4.mono b23.size)).trans b5)
 ·refine ag (by omega) ?_
  obtain rfl:k=6:=by omega
  refine rM ?_
  have:=h w2 a c (by rw [hln]; exact ho.mono (by omega)) (b1.trans (b2.mono (by omega)))
  rw [hln] at this
  exact this
end
end Go.Proofs.YtgpfkmdknlcemaaGreatDoor
namespace Go.Proofs.YtgpfkmdknlcemaaGreatDoor
set_option maxRecDepth 100000
open Go.RowKit
theorem wg {l:List Int} {i:Int} {k:Nat} (hk:k < l.length) (h:nB l k=i) (hb:∀ j,j < k→nB l j≠i):l.findIdx (· == i)=k:=by
 rw [List.findIdx_eq hk]
 have e:∀ j (hj:j < l.length),nB l j=l[j]:=fun j hj=>by simp [nB,List.getD,hj]
 refine ⟨by rw [← e k hk]; simp [h],fun j hj => ?_⟩
 have:=hb j hj
 rw [e j (by omega)] at this
 simpa using this
theorem wh {l:List Int} {i:Int} (hb:∀ j,j < l.length→nB l j≠i):l.findIdx (· == i)=l.length:=by
 rw [List.findIdx_eq_length]
 intro x hx
 obtain ⟨j,hj,rfl⟩:=List.mem_iff_getElem.1 hx
 have:=hb j hj
 rw [show nB l j=l[j] by simp [nB,List.getD,hj]] at this
 simpa using this
theorem wi {l:List Int} {n j:Nat} (hj:j < 6) (hn:j < n):(hK l n)[j]? = some (iv (nB l j)):=by simp [hK,hj,hn]
theorem yT {a:Option Addr} {n c m q j:Nat} {cnt:Int} {h l:List Int} (hj:j < 6) (hn:j < q):(cP a n c cnt (hK h m) (hK l q))[8+j]? = some (iv (nB l j)):=by
 rw [show 8+j=6+j+1+1 by omega]
 show (hK h m++hK l q)[6+j]? = _
 rw [List.getElem?_append_right (by rw [eP]; omega),eP,show 6+j - 6=j by omega]
 exact wi hj hn
theorem CL {a:Option Addr} {n c m j:Nat} {cnt:Int} {h:List Int} {S:List Value} (hj:j < 6) (hn:j < m):(cP a n c cnt (hK h m) S)[2+j]? = some (iv (nB h j)):=by
 rw [show 2+j=j+1+1 by omega]
 show (hK h m++S)[j]? = _
 rw [List.getElem?_append_left (by rw [eP]; omega)]
 exact wi hj hn
attribute [local irreducible] bin un conv call bl blt slc aa fld af idx lkp bL bP eSt rng nxt ent ext alc box bld aJ ld sto aj bm mkS ifc pick rdy wts au sti cond aH Gives ac aW bA cOp
section
variable {w:World} {K:KV}
set_option maxHeartbeats 2000000 in
theorem HA {s:STA} {id i:Int} (hs:SK w s) (h:∀ w',Below w.heap.size w w'→K (iv (jV s id i)) w'):call Tryz.prog 16 #[.agg (saC s).toArray,.int .u64 id,.int .i64 i] K w:=by
 refine aE yN (yM ?_)
 refine bh fun w1 hb b1 s1 => ?_
 have hb:blk w1 w.heap.size 30 (saC s):=by simpa [Value.cells] using hb
 have cutS:((saC s).drop 0).take 20=saC s:=by rw [List.drop_zero,List.take_of_length_le (by rw [hs.len]; omega)]
 refine ldA (n:=20) (vs:=saC s) Tryz.underlying30 rfl (by kernel_rfl) hb cutS hs.len ?_
 refine DS (hs.bel b1 (Nat.le_refl _)) fun w2 v b2 hv => ?_
 have B2:Below w.heap.size w w2:=b1.trans (b2.mono (by omega))
 have hll:(bS s.I s.L 6).length≤6:=iV _ _ 6
 have hlp := @oM s id
 cases hq:eO s id with
 | none =>
  rw [hq] at hv
  subst hv
  refine fy ?_
  refine fz ?_
  refine cH (z:=.agg row0.toArray) (by kernel_rfl) fun w3 hr b3 s3 => ?_
  have hr:blk w3 w2.heap.size 108 row0:=hr
  refine eM (n:=14) (vs:=row0) (by kernel_rfl) rfl hr (by simp [row0,cP,z6]) (ls (by simp [z6,iv,Value.oneCell']) (by simp [z6,iv,Value.oneCell'])) fun w4 hr4 o4 => ?_
  refine cU ?_
  refine aR ?_
  have:=h w4 (B2.trans ((b3.trans o4.below).mono B2.size))
  unfold jV at this
  rw [hq] at this
  exact this
 | some p =>
  obtain ⟨has,sh⟩:=p
  rw [hq] at hv
  obtain ⟨a,c,ho,rfl⟩:=hv
  have hln:=hlp hq
  refine fy ?_
  refine fz ?_
  have hsp:jV s id i=sh.getD ((bS s.I s.L 6).findIdx (· == i)) 0:=by unfold jV; rw [hq]
  generalize bS s.I s.L 6=lv at *
  generalize hn:lv.length=n at *
  refine cH (z:=.agg row0.toArray) (by kernel_rfl) fun w3 hr b3 s3 => ?_
  have hr:blk w3 w2.heap.size 108 row0:=hr
  have hrl:(cP a n c n (hK has n) (hK sh n)).length=14:=kq (eP _ _) (eP _ _)
  refine eM (n:=14) (vs:=cP a n c n (hK has n) (hK sh n)) (by kernel_rfl) hrl hr (by simp [row0,cP,z6]) (ls (pG _ _) (pG _ _)) fun w4 hr4 o4 => ?_
  have hr4:blk w4 w2.heap.size 108 (cP a n c n (hK has n) (hK sh n)):=by
   rw [List.take_zero,List.nil_append,List.drop_of_length_le (by simp [row0,cP,z6]),List.append_nil] at hr4
   exact hr4
  have b24:Below w2.heap.size w2 w4:=b3.trans o4.below
  have ho4:=ho.bel b24
  have hrv:RV w4 a n c (lv.map iv):=OV.rv ho4
  have B4:Below w.heap.size w w4:=B2.trans (b24.mono B2.size)
  refine cU ?_
  refine cW ?_
  refine og ?_
  refine ld1 (v:=.slice a n c) (fun _=>by kernel_rfl) hr4 rfl ?_
  refine aI Tryz.underlying56 ?_
  refine wj (Inv:=fun kv wr => ∃ k:Nat,kv=.int .i64 (k:Nat)∧k≤n∧wr=w4∧∀ j,j < k→nB lv j≠i) (μ:=fun kv _=>n - (intOf kv).toNat) ⟨0,rfl,by omega,rfl,fun j hj=>by omega⟩ ?_
  rintro _ dd _ m ⟨k,rfl,hk,rfl,hall⟩ hmm
  refine aD ?_
  by_cases hkn:k < n
  ·refine ai (by omega) ?_
   refine fD Tryz.underlying56 (fun _=>by kernel_rfl) (by omega) (by omega) hrv.some_ ?_
   rw [Int.toNat_natCast]
   have hxk:(lv.map iv)[k]? = some (iv (nB lv k)):=by simp [nB,List.getD,show k < lv.length by omega]
   refine dp (fun _=>by kernel_rfl) (hrv.cell _ _ hxk) ?_
   unfold iv
   refine aN ?_
   by_cases he:nB lv k=i
   ·refine ai he ?_
    refine jE ?_
    refine aT Tryz.underlying33 (s:=1) (fun _=>by kernel_rfl) (by omega) (by omega) ?_
    refine ld1 (v:=iv (nB sh k)) (fun _=>by kernel_rfl) hr4 (by rw [show 0+8+(k:Int).toNat * 1=8+k by omega]; exact yT (by omega) hkn) ?_
    have:=h _ B4
    rw [hsp,wg (by omega) he hall] at this
    exact this
   ·refine ag he ?_
    refine aF (by omega) (by omega) ?_
    refine ⟨⟨k+1,by simp,by omega,rfl,fun j hj => ?_⟩,by rw [hmm]; simp [intOf]; omega⟩
    by_cases hjk:j=k
    ·subst hjk; exact he
    ·exact hall j (by omega)
  ·refine ag (by omega) ?_
   obtain rfl:k=n:=by omega
   refine wl ?_
   have:=h _ B4
   rw [hsp,wh (fun j hj=>hall j (by omega)),hn,show sh.getD k 0=0 by simp [List.getD,show sh.length≤k by omega]] at this
   exact this
end
end Go.Proofs.YtgpfkmdknlcemaaGreatDoor
namespace Go.Proofs.YtgpfkmdknlcemaaGreatDoor
open Go.RowKit
set_option maxRecDepth 100000
def fL (K:KV):KE:=ac Q (cd Tryz.f37 [1,1,1,1,1]) (rk Tryz.f37 K) xf (rk Tryz.f37 K)
def dt (K:KV):KE:=ac Q (cd Tryz.f37 [1,1,1,1,1,1,1]) (rk Tryz.f37 K) xf (rk Tryz.f37 K)
def gS (K:KV):KE:=ac Q (cd Tryz.f37 [1,1,1,1,1,1,0,1,0]) (dt K) (xx xf (dt K) 0) (rk Tryz.f37 K)
def bw (K:KV):KE:=ac Q (cd Tryz.f37 [1,1,1,1,1,1,1,1,1]) (rk Tryz.f37 K) xf (rk Tryz.f37 K)
def gT (K:KV):KE:=ac Q (cd Tryz.f37 [1,1,1,1,1,1,1,1,0,1,0]) (bw K) (xx xf (bw K) 2) (rk Tryz.f37 K)
def cK (K:KV) (B1:KE):KE:=ac Q (cd Tryz.f37 [1,1,1,1,1,1,1,1,0,1,0,0,1,1]) B1 (xx xf (bw K) 2) (rk Tryz.f37 K)
def du (K:KV) (B1:KE):KE:=ac Q (cd Tryz.f37 [1,1,1,1,1,1,1,1,0,1,0,0,1,0,0,1,1]) (cK K B1) (xx (xx xf (bw K) 2) (cK K B1) 3) (rk Tryz.f37 K)
def fM (K:KV) (B1:KE):KE:=ac Q (cd Tryz.f37 [1,1,1,1,1,1,1,1,0,1,0,0,1,0,0,1,0,1]) (du K B1) (xx (xx xf (bw K) 2) (cK K B1) 3) (rk Tryz.f37 K)
theorem rt {K:KV} {s0 node1:Value} {w:World}
  (h:box Q 30 s0 (fun s2=>ld Q 30 s2 fun C5=>call Q 56 #[C5,node1] fun C7=>ext Q C7 0 fun C8=>ext Q C7 1 fun C9=>alc Q 135 fun q8=>sto Q 135 q8 C8 fun _=>ld Q 30 s2 fun D0=>call Q 57 #[D0] fun D1=>bin Q BinOp.neq 49 false true C9 (ci 0) fun D3 w=>au D3 false (fun k29=>blt Q Builtin.len #[56] 3 #[false] #[D1] (fun D6=>bin Q BinOp.eql 3 false true D6 (ci 0) fun D7=>k29 [D1,D6,D7]) w) (fun k=>k [undef,undef,undef] w) fun us29=>pick D3 cT (gd us29 2) fun D8 w=>cond D8 (K (Value.tuple #[cN,cN,cN,cF]) w) (fL K (s0::node1::s2::undef::cN::cN::cN::cF::q8::C9::D1::(ci 0)::undef::undef::undef::undef::undef::undef::C7::C5::node1::C7::C8::C9::D0::D1::C9::D3::D3::(gd us29 0)::(gd us29 1)::(gd us29 2)::D8::undef::undef::undef::undef::undef::undef::undef::undef::undef::undef::undef::undef::undef::undef::undef::undef::undef::undef::undef::undef::undef::undef::undef::undef::undef::undef::undef::undef::undef::undef::undef::undef::undef::undef::undef::undef::undef::undef::undef::undef::undef::undef::undef::undef::undef::undef::undef::undef::undef::undef::undef::undef::undef::undef::undef::undef::undef::undef::[]) w)) w) :
  Gives Q 37 #[s0,node1] w K:=by
 refine aK Tryz.func37 (by kernel_rfl) <|Eq.mp (congrArg (fun c=>ac Q c _ _ _ _ w) (by kernel_rfl:(rep [1,1,1,1,1] (cd Tryz.f37 [1,1,1,1,1]) (cd Tryz.f37 []))=(cd Tryz.f37 []))) ?_
 revert h
 delta fL
 generalize (cd Tryz.f37 [1,1,1,1,1])=xc0
 exact fun h=>Eq.mp (by kernel_rfl) h
theorem ru:bD Q 37:=⟨_,Tryz.func37,by kernel_rfl,by kernel_rfl⟩
section
variable {s0 node1 s2 node3 A0 A1 A2 A3 q8 e9 live10 all11 has12 i13 x14 share15 i16 x17 C4 C5 C6 C7 C8 C9 D0 D1 D2 D3 D4 D5 D6 D7 D8 D9 E0 E1 E2 E3 E4 E5 E6 E7 E8 E9 F0 F1 F2 F3 F4 F5 F6 F7 F8 F9 G0 G1 G2 G3 G4 G5 G6 G7 G8 G9 H0 H1 H2 H3 H4 H5 H6 H7 H8 H9 I0 I1 I2 I3 I4 I5 I6 I7 I8 I9 J0 J1 J2 J3 J4 J5 J6:Value}
theorem py {K:KV} {w:World}
  (h:gS K (s0::node1::s2::node3::A0::A1::A2::A3::q8::e9::live10::all11::cN::(ci 0)::x14::share15::i16::x17::C4::C5::C6::C7::C8::C9::D0::D1::D2::D3::D4::D5::D6::D7::D8::D9::E0::E1::E2::E3::E4::E5::E6::E7::E8::E9::F0::F1::F2::F3::F4::F5::F6::F7::F8::F9::G0::G1::G2::G3::G4::G5::G6::G7::G8::G9::H0::H1::H2::H3::H4::H5::H6::H7::H8::H9::I0::I1::I2::I3::I4::I5::I6::I7::I8::I9::J0::J1::J2::J3::J4::J5::J6::[]) w) :
  fL K (s0::node1::s2::node3::A0::A1::A2::A3::q8::e9::live10::all11::has12::i13::x14::share15::i16::x17::C4::C5::C6::C7::C8::C9::D0::D1::D2::D3::D4::D5::D6::D7::D8::D9::E0::E1::E2::E3::E4::E5::E6::E7::E8::E9::F0::F1::F2::F3::F4::F5::F6::F7::F8::F9::G0::G1::G2::G3::G4::G5::G6::G7::G8::G9::H0::H1::H2::H3::H4::H5::H6::H7::H8::H9::I0::I1::I2::I3::I4::I5::I6::I7::I8::I9::J0::J1::J2::J3::J4::J5::J6::[]) w:=by
 delta fL
 revert h
 delta gS dt
 exact fun h=>Eq.mp (by kernel_rfl) h
theorem pz {K:KV} {w:World} (Inv:Value→Value→Value→Value→Value→Value→Value→Value→Value→World→Prop) (μ:Value→Value→Value→Value→Value→Value→Value→Value→Value→World→Nat) (h0:Inv all11 has12 i13 F6 F7 G0 G1 G2 G3 w)
  (hs:∀ (all11' has12' i13' F6' F7' G0' G1' G2' G3':Value) (dd:Nat→Value) (w:World) (m:Nat),Inv all11' has12' i13' F6' F7' G0' G1' G2' G3' w→m=μ all11' has12' i13' F6' F7' G0' G1' G2' G3' w →
  blt Q Builtin.len #[56] 3 #[false] #[live10] (fun E1=>bin Q BinOp.lss 3 false false i13' E1 fun E2 w=>cond E2 (af Q 56 live10 i13' (fun E7=>ld Q 3 E7 fun E8=>bin Q BinOp.sub 3 false true E8 (ci 1) fun E9=>aa Q 135 q8 2 fun F0=>af Q 33 F0 E9 fun F1=>ld Q 2 F1 fun F2=>bin Q BinOp.lss 2 false true F2 (ci 0) fun F4 w=>au F4 false (fun k50=>bin Q BinOp.gtr 2 false true F2 (ci 1125899906842624) (fun F7=>k50 [F2,F7]) w) (fun k=>k [undef,undef] w) fun us50=>pick F4 cT (gd us50 1) fun F8 w=>au F8 false (fun k54=>bin Q BinOp.add 2 false false all11' F2 (fun G2=>bin Q BinOp.gtr 2 false true G2 (ci 1125899906842624) fun G3=>k54 [all11',F2,G2,G3]) w) (fun k=>k [undef,undef,undef,undef] w) fun us54=>pick F8 cT (gd us54 3) fun G4 w=>cond G4 (K (Value.tuple #[cN,cN,cN,cF]) w) (bin Q BinOp.add 2 false false all11' F2 (fun G7=>aJ Q 115 1 #[(0,F2)] fun H0=>blt Q Builtin.append #[115,115] 115 #[false,false] #[has12',H0] fun H1=>bin Q BinOp.add 3 false true i13' (ci 1) fun E4 w=>(Inv G7 H1 E4 (gd us50 0) (gd us50 1) (gd us54 0) (gd us54 1) (gd us54 2) (gd us54 3) w)∧((μ G7 H1 E4 (gd us50 0) (gd us50 1) (gd us54 0) (gd us54 1) (gd us54 2) (gd us54 3) w)<m)) w)) w) (dt K (s0::node1::s2::node3::(dd 4)::(dd 5)::(dd 6)::(dd 7)::q8::e9::live10::all11'::has12'::i13'::(dd 14)::share15::i16::x17::C4::C5::C6::C7::C8::C9::D0::D1::D2::D3::D4::D5::D6::D7::D8::i13'::live10::E1::E2::(dd 37)::(dd 38)::(dd 39)::(dd 40)::(dd 41)::(dd 42)::(dd 43)::(dd 44)::(dd 45)::(dd 46)::(dd 47)::(dd 48)::(dd 49)::F6'::F7'::(dd 52)::(dd 53)::G0'::G1'::G2'::G3'::(dd 58)::(dd 59)::(dd 60)::(dd 61)::(dd 62)::(dd 63)::(dd 64)::(dd 65)::H2::H3::H4::H5::H6::H7::H8::H9::I0::I1::I2::I3::I4::I5::I6::I7::I8::I9::J0::J1::J2::J3::J4::J5::J6::[]) w)) w) :
  gS K (s0::node1::s2::node3::A0::A1::A2::A3::q8::e9::live10::all11::has12::i13::x14::share15::i16::x17::C4::C5::C6::C7::C8::C9::D0::D1::D2::D3::D4::D5::D6::D7::D8::D9::E0::E1::E2::E3::E4::E5::E6::E7::E8::E9::F0::F1::F2::F3::F4::F5::F6::F7::F8::F9::G0::G1::G2::G3::G4::G5::G6::G7::G8::G9::H0::H1::H2::H3::H4::H5::H6::H7::H8::H9::I0::I1::I2::I3::I4::I5::I6::I7::I8::I9::J0::J1::J2::J3::J4::J5::J6::[]) w:=by
 refine aB (cd Tryz.f37 [1,1,1,1,1,1,0,1,0,0]) [4,5,6,7,11,12,13,14,33,34,35,36,37,38,39,40,41,42,43,44,45,46,47,48,49,50,51,52,53,54,55,56,57,58,59,60,61,62,63,64,65] (by kernel_rfl) (fun e2 w2=>Inv (gd e2 11) (gd e2 12) (gd e2 13) (gd e2 50) (gd e2 51) (gd e2 54) (gd e2 55) (gd e2 56) (gd e2 57) w2) (fun e2 w2=>μ (gd e2 11) (gd e2 12) (gd e2 13) (gd e2 50) (gd e2 51) (gd e2 54) (gd e2 55) (gd e2 56) (gd e2 57) w2) h0 ?_
 intro e' w' hI
 have h:=hs (gd e' 11) (gd e' 12) (gd e' 13) (gd e' 50) (gd e' 51) (gd e' 54) (gd e' 55) (gd e' 56) (gd e' 57) (fun i=>gd e' i) w' _ hI rfl
 revert h
 generalize (dt K)=qc0
 exact fun h=>Eq.mp (by kernel_rfl) h
theorem pA {K:KV} {w:World}
  (h:gT K (s0::node1::s2::node3::A0::A1::A2::A3::q8::e9::live10::all11::has12::i13::x14::cN::(ci 0)::x17::C4::C5::C6::C7::C8::C9::D0::D1::D2::D3::D4::D5::D6::D7::D8::D9::E0::E1::E2::E3::E4::E5::E6::E7::E8::E9::F0::F1::F2::F3::F4::F5::F6::F7::F8::F9::G0::G1::G2::G3::G4::G5::G6::G7::G8::G9::H0::H1::H2::H3::H4::H5::H6::H7::H8::H9::I0::I1::I2::I3::I4::I5::I6::I7::I8::I9::J0::J1::J2::J3::J4::J5::J6::[]) w) :
  dt K (s0::node1::s2::node3::A0::A1::A2::A3::q8::e9::live10::all11::has12::i13::x14::share15::i16::x17::C4::C5::C6::C7::C8::C9::D0::D1::D2::D3::D4::D5::D6::D7::D8::D9::E0::E1::E2::E3::E4::E5::E6::E7::E8::E9::F0::F1::F2::F3::F4::F5::F6::F7::F8::F9::G0::G1::G2::G3::G4::G5::G6::G7::G8::G9::H0::H1::H2::H3::H4::H5::H6::H7::H8::H9::I0::I1::I2::I3::I4::I5::I6::I7::I8::I9::J0::J1::J2::J3::J4::J5::J6::[]) w:=by
 delta dt
 revert h
 delta gT bw
 exact fun h=>Eq.mp (by kernel_rfl) h
theorem pB {K:KV} {w:World} (Inv:Value→Value→World→Prop) (μ:Value→Value→World→Nat) (h0:Inv share15 i16 w)
  (hs:∀ (share15' i16':Value) (dd:Nat→Value) (w:World) (m:Nat),Inv share15' i16' w→m=μ share15' i16' w →
  blt Q Builtin.len #[56] 3 #[false] #[live10] (fun H4=>bin Q BinOp.lss 3 false false i16' H4 fun H5 w=>cond H5 (blt Q Builtin.len #[56] 3 #[false] #[live10] (fun I0=>bin Q BinOp.quo 2 false false all11 I0 fun I1=>blt Q Builtin.len #[56] 3 #[false] #[live10] fun I5=>bin Q BinOp.rem 2 false false all11 I5 fun I6=>bin Q BinOp.lss 2 false false i16' I6 fun I7=>fM K (fun e2 w2=>(Inv (gd e2 15) (gd e2 16) w2)∧((μ (gd e2 15) (gd e2 16) w2)<m)) (s0::node1::s2::node3::A0::A1::A2::A3::q8::e9::live10::all11::has12::i13::x14::share15'::i16'::I1::C4::C5::C6::C7::C8::C9::D0::D1::D2::D3::D4::D5::D6::D7::D8::D9::E0::E1::E2::E3::E4::E5::E6::E7::E8::E9::F0::F1::F2::F3::F4::F5::F6::F7::F8::F9::G0::G1::G2::G3::G4::G5::G6::G7::G8::G9::H0::H1::i16'::live10::H4::H5::(dd 70)::(dd 71)::all11::live10::I0::I1::i16'::all11::live10::I5::I6::I7::(dd 82)::(dd 83)::(dd 84)::(dd 85)::(dd 86)::(dd 87)::J4::J5::J6::[])) w) (bw K (s0::node1::s2::node3::A0::A1::A2::A3::q8::e9::live10::all11::has12::i13::x14::share15'::i16'::(dd 17)::C4::C5::C6::C7::C8::C9::D0::D1::D2::D3::D4::D5::D6::D7::D8::D9::E0::E1::E2::E3::E4::E5::E6::E7::E8::E9::F0::F1::F2::F3::F4::F5::F6::F7::F8::F9::G0::G1::G2::G3::G4::G5::G6::G7::G8::G9::H0::H1::i16'::live10::H4::H5::(dd 70)::(dd 71)::(dd 72)::(dd 73)::(dd 74)::(dd 75)::(dd 76)::(dd 77)::(dd 78)::(dd 79)::(dd 80)::(dd 81)::(dd 82)::(dd 83)::(dd 84)::(dd 85)::(dd 86)::(dd 87)::J4::J5::J6::[]) w)) w) :
  gT K (s0::node1::s2::node3::A0::A1::A2::A3::q8::e9::live10::all11::has12::i13::x14::share15::i16::x17::C4::C5::C6::C7::C8::C9::D0::D1::D2::D3::D4::D5::D6::D7::D8::D9::E0::E1::E2::E3::E4::E5::E6::E7::E8::E9::F0::F1::F2::F3::F4::F5::F6::F7::F8::F9::G0::G1::G2::G3::G4::G5::G6::G7::G8::G9::H0::H1::H2::H3::H4::H5::H6::H7::H8::H9::I0::I1::I2::I3::I4::I5::I6::I7::I8::I9::J0::J1::J2::J3::J4::J5::J6::[]) w:=by
 refine aB (cd Tryz.f37 [1,1,1,1,1,1,1,1,0,1,0,0]) [15,16,17,66,67,68,69,70,71,72,73,74,75,76,77,78,79,80,81,82,83,84,85,86,87] (by kernel_rfl) (fun e2 w2=>Inv (gd e2 15) (gd e2 16) w2) (fun e2 w2=>μ (gd e2 15) (gd e2 16) w2) h0 ?_
 intro e' w' hI
 have h:=hs (gd e' 15) (gd e' 16) (fun i=>gd e' i) w' _ hI rfl
 refine Eq.mp (congrArg (fun c=>ac Q c _ _ _ _ w') (by kernel_rfl:(rep [1,0,0,1,0,1] (cd Tryz.f37 [1,1,1,1,1,1,1,1,0,1,0,0,1,0,0,1,0,1]) (cd Tryz.f37 [1,1,1,1,1,1,1,1,0,1,0,0]))=(cd Tryz.f37 [1,1,1,1,1,1,1,1,0,1,0,0]))) ?_
 revert h
 delta fM cK du
 generalize (cd Tryz.f37 [1,1,1,1,1,1,1,1,0,1,0,0,1,0,0,1,0,1])=xc0
 generalize (bw K)=qc0
 exact fun h=>Eq.mp (by kernel_rfl) h
theorem pC {K:KV} {B1:KE} {w:World}
  (h:cond I7 (bin Q BinOp.add 2 false true x17 (ci 1) (fun I9=>du K B1 (s0::node1::s2::node3::A0::A1::A2::A3::q8::e9::live10::all11::has12::i13::x14::share15::i16::I9::C4::C5::C6::C7::C8::C9::D0::D1::D2::D3::D4::D5::D6::D7::D8::D9::E0::E1::E2::E3::E4::E5::E6::E7::E8::E9::F0::F1::F2::F3::F4::F5::F6::F7::F8::F9::G0::G1::G2::G3::G4::G5::G6::G7::G8::G9::H0::H1::H2::H3::H4::H5::H6::H7::H8::H9::I0::I1::I2::I3::I4::I5::I6::I7::x17::I9::J0::J1::J2::J3::J4::J5::J6::[])) w) (du K B1 (s0::node1::s2::node3::A0::A1::A2::A3::q8::e9::live10::all11::has12::i13::x14::share15::i16::x17::C4::C5::C6::C7::C8::C9::D0::D1::D2::D3::D4::D5::D6::D7::D8::D9::E0::E1::E2::E3::E4::E5::E6::E7::E8::E9::F0::F1::F2::F3::F4::F5::F6::F7::F8::F9::G0::G1::G2::G3::G4::G5::G6::G7::G8::G9::H0::H1::H2::H3::H4::H5::H6::H7::H8::H9::I0::I1::I2::I3::I4::I5::I6::I7::I8::I9::J0::J1::J2::J3::J4::J5::J6::[]) w)) :
  fM K B1 (s0::node1::s2::node3::A0::A1::A2::A3::q8::e9::live10::all11::has12::i13::x14::share15::i16::x17::C4::C5::C6::C7::C8::C9::D0::D1::D2::D3::D4::D5::D6::D7::D8::D9::E0::E1::E2::E3::E4::E5::E6::E7::E8::E9::F0::F1::F2::F3::F4::F5::F6::F7::F8::F9::G0::G1::G2::G3::G4::G5::G6::G7::G8::G9::H0::H1::H2::H3::H4::H5::H6::H7::H8::H9::I0::I1::I2::I3::I4::I5::I6::I7::I8::I9::J0::J1::J2::J3::J4::J5::J6::[]) w:=by
 delta fM
 revert h
 generalize (du K B1)=qc0
 generalize (bw K)=qc1
 generalize (cK K B1)=qc2
 exact fun h=>Eq.mp (by kernel_rfl) h
theorem pD {K:KV} {w:World}
  (h:K (Value.tuple #[live10,has12,share15,cT]) w) :
  bw K (s0::node1::s2::node3::A0::A1::A2::A3::q8::e9::live10::all11::has12::i13::x14::share15::i16::x17::C4::C5::C6::C7::C8::C9::D0::D1::D2::D3::D4::D5::D6::D7::D8::D9::E0::E1::E2::E3::E4::E5::E6::E7::E8::E9::F0::F1::F2::F3::F4::F5::F6::F7::F8::F9::G0::G1::G2::G3::G4::G5::G6::G7::G8::G9::H0::H1::H2::H3::H4::H5::H6::H7::H8::H9::I0::I1::I2::I3::I4::I5::I6::I7::I8::I9::J0::J1::J2::J3::J4::J5::J6::[]) w:=by
 delta bw
 revert h
 exact fun h=>Eq.mp (by kernel_rfl) h
theorem kn {K:KV} {B1:KE} {w:World}
  (h:aJ Q 115 1 #[(0,x17)] (fun J2=>blt Q Builtin.append #[115,115] 115 #[false,false] #[share15,J2] fun J3=>cK K B1 (s0::node1::s2::node3::A0::A1::A2::A3::q8::e9::live10::all11::has12::i13::x14::J3::i16::x17::C4::C5::C6::C7::C8::C9::D0::D1::D2::D3::D4::D5::D6::D7::D8::D9::E0::E1::E2::E3::E4::E5::E6::E7::E8::E9::F0::F1::F2::F3::F4::F5::F6::F7::F8::F9::G0::G1::G2::G3::G4::G5::G6::G7::G8::G9::H0::H1::H2::H3::H4::H5::H6::H7::H8::H9::I0::I1::I2::I3::I4::I5::I6::I7::I8::I9::share15::x17::J2::J3::J4::J5::J6::[])) w) :
  du K B1 (s0::node1::s2::node3::A0::A1::A2::A3::q8::e9::live10::all11::has12::i13::x14::share15::i16::x17::C4::C5::C6::C7::C8::C9::D0::D1::D2::D3::D4::D5::D6::D7::D8::D9::E0::E1::E2::E3::E4::E5::E6::E7::E8::E9::F0::F1::F2::F3::F4::F5::F6::F7::F8::F9::G0::G1::G2::G3::G4::G5::G6::G7::G8::G9::H0::H1::H2::H3::H4::H5::H6::H7::H8::H9::I0::I1::I2::I3::I4::I5::I6::I7::I8::I9::J0::J1::J2::J3::J4::J5::J6::[]) w:=by
 delta du
 revert h
 generalize (cK K B1)=qc0
 generalize (bw K)=qc1
 exact fun h=>Eq.mp (by kernel_rfl) h
theorem ko {K:KV} {B1:KE} {w:World}
  (h:bin Q BinOp.add 3 false true i16 (ci 1) (fun H7=>B1 (s0::node1::s2::node3::A0::A1::A2::A3::q8::e9::live10::all11::has12::i13::x14::share15::H7::x17::C4::C5::C6::C7::C8::C9::D0::D1::D2::D3::D4::D5::D6::D7::D8::D9::E0::E1::E2::E3::E4::E5::E6::E7::E8::E9::F0::F1::F2::F3::F4::F5::F6::F7::F8::F9::G0::G1::G2::G3::G4::G5::G6::G7::G8::G9::H0::H1::H2::H3::H4::H5::i16::H7::H8::H9::I0::I1::I2::I3::I4::I5::I6::I7::I8::I9::J0::J1::J2::J3::J4::J5::J6::[])) w) :
  cK K B1 (s0::node1::s2::node3::A0::A1::A2::A3::q8::e9::live10::all11::has12::i13::x14::share15::i16::x17::C4::C5::C6::C7::C8::C9::D0::D1::D2::D3::D4::D5::D6::D7::D8::D9::E0::E1::E2::E3::E4::E5::E6::E7::E8::E9::F0::F1::F2::F3::F4::F5::F6::F7::F8::F9::G0::G1::G2::G3::G4::G5::G6::G7::G8::G9::H0::H1::H2::H3::H4::H5::H6::H7::H8::H9::I0::I1::I2::I3::I4::I5::I6::I7::I8::I9::J0::J1::J2::J3::J4::J5::J6::[]) w:=by
 delta cK
 revert h
 generalize (bw K)=qc0
 exact fun h=>Eq.mp (by kernel_rfl) h
attribute [irreducible] fL dt gS bw gT cK du fM
def dG (K:KV):KE:=ac Q (cd Tryz.f20 [1,1,1]) (rk Tryz.f20 K) xf (rk Tryz.f20 K)
def hZ (K:KV):KE:=ac Q (cd Tryz.f20 [1,1,0,1,0]) (dG K) (xx xf (dG K) 0) (rk Tryz.f20 K)
end
theorem sD {K:KV} {s0 node1 i2:Value} {w:World}
  (h:box Q 30 s0 (fun s3=>ld Q 30 s3 fun A9=>call Q 37 #[A9,node1] fun C1=>ext Q C1 0 fun C2=>ext Q C1 1 fun C3=>ext Q C1 2 fun C4=>ext Q C1 3 fun C5=>hZ K [s0,node1,i2,s3,undef,undef,ci 0,C2,C3,C4,C5,ci 0,C1,A9,node1,C1,C2,C3,C4,C5,undef,undef,undef,undef,undef,undef,undef,undef,undef,undef,undef,undef,undef,undef,undef,undef,undef,undef,undef]) w) :
  Gives Q 20 #[s0,node1,i2] w K:=by
 refine aK Tryz.func20 (by kernel_rfl) ?_
 revert h
 delta hZ dG
 exact fun h=>Eq.mp (by kernel_rfl) h
theorem sE:bD Q 20:=⟨_,Tryz.func20,by kernel_rfl,by kernel_rfl⟩
theorem kA {K:KV} {s0 node1 i2 s3 node4 i5 A2 live7 A4 share9 is10 k_11 A8 A9 C0 C1 C2 C3 C4 C5 C6 C7 C8 C9 D0 D1 D2 D3 D4 D5 D6 D7 D8 D9 E0 E1 E2 E3 E4:Value} {w:World} (Inv:Value→Value→World→Prop) (μ:Value→Value→World→Nat) (h0:Inv k_11 D1 w)
  (hs:∀ (k_11' D1':Value) (dd:Nat→Value) (w:World) (m:Nat),Inv k_11' D1' w→m=μ k_11' D1' w →
  blt Q Builtin.len #[56] 3 #[false] #[live7] (fun C8=>bin Q BinOp.lss 3 false false k_11' C8 fun C9 w=>au C9 true (fun k25=>k25 [is10] w) (fun k=>k [undef] w) fun us25=>pick C9 (gd us25 0) cF fun D2 w=>cond D2 (af Q 56 live7 k_11' (fun D7=>ld Q 3 D7 fun D8=>bin Q BinOp.eql 3 false false D8 i2 fun E0 w=>cond E0 (af Q 115 share9 k_11' (fun E3=>ld Q 2 E3 K) w) (bin Q BinOp.add 3 false true k_11' (ci 1) (fun D4 w=>(Inv D4 (gd us25 0) w)∧((μ D4 (gd us25 0) w)<m)) w)) w) (dG K [s0,node1,i2,s3,node4,i5,dd 6,live7,A4,share9,is10,k_11',A8,A9,C0,C1,C2,C3,C4,C5,k_11',live7,C8,C9,C9,gd us25 0,D2,dd 27,dd 28,dd 29,dd 30,dd 31,dd 32,dd 33,dd 34,dd 35,dd 36,dd 37,dd 38] w)) w) :
  hZ K [s0,node1,i2,s3,node4,i5,A2,live7,A4,share9,is10,k_11,A8,A9,C0,C1,C2,C3,C4,C5,C6,C7,C8,C9,D0,D1,D2,D3,D4,D5,D6,D7,D8,D9,E0,E1,E2,E3,E4] w:=by
 refine aB (cd Tryz.f20 [1,1,0,1,0,0]) [6,11,20,21,22,23,24,25,26,27,28,29,30,31,32,33,34,35,36,37,38] (by kernel_rfl) (fun e2 w2=>Inv (gd e2 11) (gd e2 25) w2) (fun e2 w2=>μ (gd e2 11) (gd e2 25) w2) h0 ?_
 intro e' w' hI
 have h:=hs (gd e' 11) (gd e' 25) (fun i=>gd e' i) w' _ hI rfl
 revert h
 generalize (dG K)=qc0
 exact fun h=>Eq.mp (by kernel_rfl) h
theorem kB {K:KV} {s0 node1 i2 s3 node4 i5 A2 live7 A4 share9 is10 k_11 A8 A9 C0 C1 C2 C3 C4 C5 C6 C7 C8 C9 D0 D1 D2 D3 D4 D5 D6 D7 D8 D9 E0 E1 E2 E3 E4:Value} {w:World}
  (h:K (ci 0) w) :
  dG K [s0,node1,i2,s3,node4,i5,A2,live7,A4,share9,is10,k_11,A8,A9,C0,C1,C2,C3,C4,C5,C6,C7,C8,C9,D0,D1,D2,D3,D4,D5,D6,D7,D8,D9,E0,E1,E2,E3,E4] w:=by
 delta dG
 revert h
 exact fun h=>Eq.mp (by kernel_rfl) h
attribute [irreducible] dG hZ
def ia (K:KV):KE:=ac Q (cd Tryz.f21 [1,1,1,1,0]) (rk Tryz.f21 K) (xx xf (rk Tryz.f21 K) 0) (rk Tryz.f21 K)
def aY (K:KV) (B1:KE):KE:=ac Q (cd Tryz.f21 [1,1,1,1,0,0,0,1,1,1]) B1 (xx (xx xf (rk Tryz.f21 K) 0) B1 1) (rk Tryz.f21 K)
def ib (K:KV) (B1:KE):KE:=ac Q (cd Tryz.f21 [1,1,1,1,0,0,0,1,1,0,1,0]) (aY K B1) (xx (xx (xx xf (rk Tryz.f21 K) 0) B1 1) (aY K B1) 2) (rk Tryz.f21 K)
def bG (K:KV) (B1:KE) (B2:KE):KE:=ac Q (cd Tryz.f21 [1,1,1,1,0,0,0,1,1,0,1,0,0,1,1]) B2 (xx (xx (xx xf (rk Tryz.f21 K) 0) B1 1) (aY K B1) 2) (rk Tryz.f21 K)
def fY (K:KV) (B1:KE) (B2:KE):KE:=ac Q (cd Tryz.f21 [1,1,1,1,0,0,0,1,1,0,1,0,0,1,0]) (bG K B1 B2) (xx (xx (xx xf (rk Tryz.f21 K) 0) B1 1) (aY K B1) 2) (rk Tryz.f21 K)
def dk (K:KV) (B1:KE) (B2:KE):KE:=ac Q (cd Tryz.f21 [1,1,1,1,0,0,0,1,1,0,1,0,0,1,0,0,1]) (bG K B1 B2) (fun i => @Bool.rec (fun _=>KE) ((xx (xx (xx xf (rk Tryz.f21 K) 0) B1 1) (aY K B1) 2) i) (bG K B1 B2) (Nat.beq i 3)) (rk Tryz.f21 K)
def fZ (K:KV) (B1:KE) (B2:KE):KE:=ac Q (cd Tryz.f21 [1,1,1,1,0,0,0,1,1,0,1,0,0,1,0,0,0,1]) (dk K B1 B2) (fun i => @Bool.rec (fun _=>KE) ((xx (xx (xx xf (rk Tryz.f21 K) 0) B1 1) (aY K B1) 2) i) (bG K B1 B2) (Nat.beq i 3)) (rk Tryz.f21 K)
def g9 (K:KV) (B1:KE):KE:=ac Q (cd Tryz.f21 [1,1,1,1,0,0,0,1,1,1,1,1]) B1 (xx (xx xf (rk Tryz.f21 K) 0) B1 1) (rk Tryz.f21 K)
theorem sF {K:KV} {s0 node1:Value} {w:World}
  (h:box Q 30 s0 (fun s2=>ld Q 30 s2 fun C1=>call Q 37 #[C1,node1] fun C3=>ext Q C3 0 fun C4=>ext Q C3 1 fun C5=>ext Q C3 2 fun C6=>ext Q C3 3 fun C7=>un Q UnOp.not C7 fun C9 w=>cond C9 (K cN w) (ia K (s0::node1::s2::undef::cN::C4::C5::C6::C7::cN::undef::undef::undef::undef::C3::C1::node1::C3::C4::C5::C6::C7::C7::C9::undef::undef::undef::undef::undef::undef::undef::undef::undef::undef::undef::undef::undef::undef::undef::undef::undef::undef::undef::undef::undef::undef::undef::undef::undef::undef::undef::undef::undef::undef::undef::undef::undef::undef::undef::undef::undef::undef::undef::undef::undef::undef::undef::undef::undef::undef::undef::undef::undef::undef::undef::undef::undef::undef::undef::undef::undef::undef::undef::undef::undef::undef::undef::undef::undef::undef::undef::undef::undef::undef::undef::undef::undef::undef::undef::undef::undef::undef::undef::undef::[]) w)) w) :
  Gives Q 21 #[s0,node1] w K:=by
 refine aK Tryz.func21 (by kernel_rfl) ?_
 revert h
 delta ia
 exact fun h=>Eq.mp (by kernel_rfl) h
theorem sH:bD Q 21:=⟨_,Tryz.func21,by kernel_rfl,by kernel_rfl⟩
section
variable {s0 node1 s2 node3 A0 live5 has6 share7 is8 out9 from10 to11 i12 x13 C0 C1 C2 C3 C4 C5 C6 C7 C8 C9 D0 D1 D2 D3 D4 D5 D6 D7 D8 D9 E0 E1 E2 E3 E4 E5 E6 E7 E8 E9 F0 F1 F2 F3 F4 F5 F6 F7 F8 F9 G0 G1 G2 G3 G4 G5 G6 G7 G8 G9 H0 H1 H2 H3 H4 H5 H6 H7 H8 H9 I0 I1 I2 I3 I4 I5 I6 I7 I8 I9 J0 J1 J2 J3 J4 J5 J6 J7 J8 J9 L0 L1 L2 L3 L4 L5 L6 L7 L8 L9:Value}
theorem qx {K:KV} {w:World} (Inv:Value→Value→Value→World→Prop) (μ:Value→Value→Value→World→Nat) (h0:Inv out9 G0 G1 w)
  (hs:∀ (out9' G0' G1':Value) (dd:Nat→Value) (w:World) (m:Nat),Inv out9' G0' G1' w→m=μ out9' G0' G1' w →
  blt Q Builtin.len #[56] 3 #[false] #[live5] (fun D1=>bin Q BinOp.sub 3 false true D1 (ci 1) fun D2=>ib K (fun e2 w2=>(Inv (gd e2 9) (gd e2 54) (gd e2 55) w2)∧((μ (gd e2 9) (gd e2 54) (gd e2 55) w2)<m)) (s0::node1::s2::node3::(dd 4)::live5::has6::share7::is8::out9'::(ci (-1))::(ci (-1))::D2::(dd 13)::C0::C1::C2::C3::C4::C5::C6::C7::C8::C9::live5::D1::D2::(dd 27)::(dd 28)::(dd 29)::(dd 30)::(dd 31)::(dd 32)::(dd 33)::(dd 34)::(dd 35)::(dd 36)::(dd 37)::(dd 38)::(dd 39)::(dd 40)::(dd 41)::(dd 42)::(dd 43)::(dd 44)::(dd 45)::(dd 46)::(dd 47)::(dd 48)::(dd 49)::(dd 50)::(dd 51)::(dd 52)::(dd 53)::G0'::G1'::(dd 56)::(dd 57)::(dd 58)::(dd 59)::(dd 60)::(dd 61)::(dd 62)::(dd 63)::(dd 64)::(dd 65)::(dd 66)::(dd 67)::(dd 68)::(dd 69)::(dd 70)::(dd 71)::(dd 72)::(dd 73)::(dd 74)::(dd 75)::(dd 76)::(dd 77)::(dd 78)::(dd 79)::(dd 80)::(dd 81)::(dd 82)::(dd 83)::(dd 84)::(dd 85)::(dd 86)::(dd 87)::(dd 88)::(dd 89)::(dd 90)::(dd 91)::(dd 92)::(dd 93)::(dd 94)::(dd 95)::(dd 96)::(dd 97)::(dd 98)::(dd 99)::(dd 100)::(dd 101)::(dd 102)::(dd 103)::[])) w) :
  ia K (s0::node1::s2::node3::A0::live5::has6::share7::is8::out9::from10::to11::i12::x13::C0::C1::C2::C3::C4::C5::C6::C7::C8::C9::D0::D1::D2::D3::D4::D5::D6::D7::D8::D9::E0::E1::E2::E3::E4::E5::E6::E7::E8::E9::F0::F1::F2::F3::F4::F5::F6::F7::F8::F9::G0::G1::G2::G3::G4::G5::G6::G7::G8::G9::H0::H1::H2::H3::H4::H5::H6::H7::H8::H9::I0::I1::I2::I3::I4::I5::I6::I7::I8::I9::J0::J1::J2::J3::J4::J5::J6::J7::J8::J9::L0::L1::L2::L3::L4::L5::L6::L7::L8::L9::[]) w:=by
 refine aB (cd Tryz.f21 [1,1,1,1,0,0]) [4,9,10,11,12,13,24,25,26,27,28,29,30,31,32,33,34,35,36,37,38,39,40,41,42,43,44,45,46,47,48,49,50,51,52,53,54,55,56,57,58,59,60,61,62,63,64,65,66,67,68,69,70,71,72,73,74,75,76,77,78,79,80,81,82,83,84,85,86,87,88,89,90,91,92,93,94,95,96,97,98,99,100,101,102,103] (by kernel_rfl) (fun e2 w2=>Inv (gd e2 9) (gd e2 54) (gd e2 55) w2) (fun e2 w2=>μ (gd e2 9) (gd e2 54) (gd e2 55) w2) h0 ?_
 intro e' w' hI
 have h:=hs (gd e' 9) (gd e' 54) (gd e' 55) (fun i=>gd e' i) w' _ hI rfl
 revert h
 delta ib aY
 exact fun h=>Eq.mp (by kernel_rfl) h
theorem qy {K:KV} {B1:KE} {w:World} (Inv:Value→Value→Value→World→Prop) (μ:Value→Value→Value→World→Nat) (h0:Inv from10 to11 i12 w)
  (hs:∀ (from10' to11' i12':Value) (dd:Nat→Value) (w:World) (m:Nat),Inv from10' to11' i12' w→m=μ from10' to11' i12' w →
  bin Q BinOp.geq 3 false true i12' (ci 0) (fun D4 w=>cond D4 (fY K B1 (fun e2 w2=>(Inv (gd e2 10) (gd e2 11) (gd e2 12) w2)∧((μ (gd e2 10) (gd e2 11) (gd e2 12) w2)<m)) (s0::node1::s2::node3::A0::live5::has6::share7::is8::out9::from10'::to11'::i12'::x13::C0::C1::C2::C3::C4::C5::C6::C7::C8::C9::D0::D1::D2::i12'::D4::(dd 29)::(dd 30)::(dd 31)::(dd 32)::(dd 33)::(dd 34)::(dd 35)::(dd 36)::(dd 37)::(dd 38)::(dd 39)::(dd 40)::(dd 41)::(dd 42)::(dd 43)::(dd 44)::(dd 45)::(dd 46)::(dd 47)::(dd 48)::(dd 49)::(dd 50)::F7::F8::F9::G0::G1::G2::G3::G4::G5::G6::G7::G8::G9::H0::H1::H2::H3::H4::H5::H6::H7::H8::H9::I0::I1::I2::I3::I4::I5::I6::I7::I8::I9::J0::J1::J2::J3::J4::J5::J6::J7::J8::J9::L0::L1::L2::L3::L4::L5::L6::L7::L8::L9::[]) w) (aY K B1 (s0::node1::s2::node3::A0::live5::has6::share7::is8::out9::from10'::to11'::i12'::x13::C0::C1::C2::C3::C4::C5::C6::C7::C8::C9::D0::D1::D2::i12'::D4::(dd 29)::(dd 30)::(dd 31)::(dd 32)::(dd 33)::(dd 34)::(dd 35)::(dd 36)::(dd 37)::(dd 38)::(dd 39)::(dd 40)::(dd 41)::(dd 42)::(dd 43)::(dd 44)::(dd 45)::(dd 46)::(dd 47)::(dd 48)::(dd 49)::(dd 50)::F7::F8::F9::G0::G1::G2::G3::G4::G5::G6::G7::G8::G9::H0::H1::H2::H3::H4::H5::H6::H7::H8::H9::I0::I1::I2::I3::I4::I5::I6::I7::I8::I9::J0::J1::J2::J3::J4::J5::J6::J7::J8::J9::L0::L1::L2::L3::L4::L5::L6::L7::L8::L9::[]) w)) w) :
  ib K B1 (s0::node1::s2::node3::A0::live5::has6::share7::is8::out9::from10::to11::i12::x13::C0::C1::C2::C3::C4::C5::C6::C7::C8::C9::D0::D1::D2::D3::D4::D5::D6::D7::D8::D9::E0::E1::E2::E3::E4::E5::E6::E7::E8::E9::F0::F1::F2::F3::F4::F5::F6::F7::F8::F9::G0::G1::G2::G3::G4::G5::G6::G7::G8::G9::H0::H1::H2::H3::H4::H5::H6::H7::H8::H9::I0::I1::I2::I3::I4::I5::I6::I7::I8::I9::J0::J1::J2::J3::J4::J5::J6::J7::J8::J9::L0::L1::L2::L3::L4::L5::L6::L7::L8::L9::[]) w:=by
 refine aB (cd Tryz.f21 [1,1,1,1,0,0,0,1,1,0,1,0,0]) [10,11,12,27,28,29,30,31,32,33,34,35,36,37,38,39,40,41,42,43,44,45,46,47,48,49,50] (by kernel_rfl) (fun e2 w2=>Inv (gd e2 10) (gd e2 11) (gd e2 12) w2) (fun e2 w2=>μ (gd e2 10) (gd e2 11) (gd e2 12) w2) h0 ?_
 intro e' w' hI
 have h:=hs (gd e' 10) (gd e' 11) (gd e' 12) (fun i=>gd e' i) w' _ hI rfl
 refine Eq.mp (congrArg (fun c=>ac Q c _ _ _ _ w') (by kernel_rfl:(rep [1,0] (cd Tryz.f21 [1,1,1,1,0,0,0,1,1,0,1,0,0,1,0]) (cd Tryz.f21 [1,1,1,1,0,0,0,1,1,0,1,0,0]))=(cd Tryz.f21 [1,1,1,1,0,0,0,1,1,0,1,0,0]))) ?_
 revert h
 delta fY bG
 generalize (cd Tryz.f21 [1,1,1,1,0,0,0,1,1,0,1,0,0,1,0])=xc0
 generalize (aY K B1)=qc0
 exact fun h=>Eq.mp (by kernel_rfl) h
theorem qA {K:KV} {B1:KE} {B2:KE} {w:World}
  (h:sti (af Q 115 has6 i12) (fun D9=>sti (ld Q 2 D9) fun E0=>sti (af Q 115 share7 i12) fun E3=>sti (ld Q 2 E3) fun E4=>sti (bin Q BinOp.gtr 2 false false E0 E4) fun E5=>fZ K B1 B2 (s0::node1::s2::node3::A0::live5::has6::share7::is8::out9::from10::to11::i12::x13::C0::C1::C2::C3::C4::C5::C6::C7::C8::C9::D0::D1::D2::D3::D4::D5::D6::has6::i12::D9::E0::share7::i12::E3::E4::E5::E6::E7::E8::E9::F0::F1::F2::F3::F4::F5::F6::F7::F8::F9::G0::G1::G2::G3::G4::G5::G6::G7::G8::G9::H0::H1::H2::H3::H4::H5::H6::H7::H8::H9::I0::I1::I2::I3::I4::I5::I6::I7::I8::I9::J0::J1::J2::J3::J4::J5::J6::J7::J8::J9::L0::L1::L2::L3::L4::L5::L6::L7::L8::L9::[])) w.drew) :
  fY K B1 B2 (s0::node1::s2::node3::A0::live5::has6::share7::is8::out9::from10::to11::i12::x13::C0::C1::C2::C3::C4::C5::C6::C7::C8::C9::D0::D1::D2::D3::D4::D5::D6::D7::D8::D9::E0::E1::E2::E3::E4::E5::E6::E7::E8::E9::F0::F1::F2::F3::F4::F5::F6::F7::F8::F9::G0::G1::G2::G3::G4::G5::G6::G7::G8::G9::H0::H1::H2::H3::H4::H5::H6::H7::H8::H9::I0::I1::I2::I3::I4::I5::I6::I7::I8::I9::J0::J1::J2::J3::J4::J5::J6::J7::J8::J9::L0::L1::L2::L3::L4::L5::L6::L7::L8::L9::[]) w:=by
 delta fY
 refine Eq.mp (congrArg (fun c=>ac Q c _ _ _ _ w) (by kernel_rfl:(rep [0,0,1] (cd Tryz.f21 [1,1,1,1,0,0,0,1,1,0,1,0,0,1,0,0,0,1]) (cd Tryz.f21 [1,1,1,1,0,0,0,1,1,0,1,0,0,1,0]))=(cd Tryz.f21 [1,1,1,1,0,0,0,1,1,0,1,0,0,1,0]))) ?_
 revert h
 delta fZ dk
 generalize (cd Tryz.f21 [1,1,1,1,0,0,0,1,1,0,1,0,0,1,0,0,0,1])=xc0
 generalize (bG K B1 B2)=qc0
 generalize (aY K B1)=qc1
 exact fun h=>Eq.mp (by kernel_rfl) h
theorem qB {K:KV} {B1:KE} {w:World}
  (h:bin Q BinOp.lss 3 false true from10 (ci 0) (fun F8 w=>au F8 false (fun k54=>bin Q BinOp.lss 3 false true to11 (ci 0) (fun G1=>k54 [to11,G1]) w) (fun k=>k [undef,undef] w) fun us54=>pick F8 cT (gd us54 1) fun G2 w=>cond G2 (K out9 w) (aX (fun S w=>hld S (af Q 115 has6 from10) fun G6=>hld S (ld Q 2 G6) fun G7=>hld S (af Q 115 share7 from10) fun H0=>hld S (ld Q 2 H0) fun H1=>hld (fun _=>True) (bin Q BinOp.sub 2 false false G7 H1) fun H2=>hld S (af Q 115 share7 to11) fun H5=>hld S (ld Q 2 H5) fun H6=>hld S (af Q 115 has6 to11) fun H9=>hld S (ld Q 2 H9) fun I0=>hld (fun _=>True) (bin Q BinOp.sub 2 false false H6 I0) fun I1=>blt Q Builtin.min #[2,2] 2 #[false,false] #[H2,I1] (fun I2=>aX fun _=>g9 K B1 (s0::node1::s2::node3::A0::live5::has6::share7::is8::out9::from10::to11::i12::I2::C0::C1::C2::C3::C4::C5::C6::C7::C8::C9::D0::D1::D2::D3::D4::D5::D6::D7::D8::D9::E0::E1::E2::E3::E4::E5::E6::E7::E8::E9::F0::F1::F2::F3::F4::F5::F6::from10::F8::F8::(gd us54 0)::(gd us54 1)::G2::G3::has6::from10::G6::G7::share7::from10::H0::H1::H2::share7::to11::H5::H6::has6::to11::H9::I0::I1::I2::I3::I4::I5::I6::I7::I8::I9::J0::J1::J2::J3::J4::J5::J6::J7::J8::J9::L0::L1::L2::L3::L4::L5::L6::L7::L8::L9::[])) w) w.drew)) w) :
  aY K B1 (s0::node1::s2::node3::A0::live5::has6::share7::is8::out9::from10::to11::i12::x13::C0::C1::C2::C3::C4::C5::C6::C7::C8::C9::D0::D1::D2::D3::D4::D5::D6::D7::D8::D9::E0::E1::E2::E3::E4::E5::E6::E7::E8::E9::F0::F1::F2::F3::F4::F5::F6::F7::F8::F9::G0::G1::G2::G3::G4::G5::G6::G7::G8::G9::H0::H1::H2::H3::H4::H5::H6::H7::H8::H9::I0::I1::I2::I3::I4::I5::I6::I7::I8::I9::J0::J1::J2::J3::J4::J5::J6::J7::J8::J9::L0::L1::L2::L3::L4::L5::L6::L7::L8::L9::[]) w:=by
 delta aY
 refine Eq.mp (congrArg (fun c=>ac Q c _ _ _ _ w) (by kernel_rfl:(rep [1,1] (cd Tryz.f21 [1,1,1,1,0,0,0,1,1,1,1,1]) (cd Tryz.f21 [1,1,1,1,0,0,0,1,1,1]))=(cd Tryz.f21 [1,1,1,1,0,0,0,1,1,1]))) ?_
 revert h
 delta g9
 generalize (cd Tryz.f21 [1,1,1,1,0,0,0,1,1,1,1,1])=xc0
 exact fun h=>Eq.mp (by kernel_rfl) h
theorem qC {K:KV} {B1:KE} {B2:KE} {w:World}
  (h:cond E5 (dk K B1 B2 (s0::node1::s2::node3::A0::live5::has6::share7::is8::out9::i12::to11::i12::x13::C0::C1::C2::C3::C4::C5::C6::C7::C8::C9::D0::D1::D2::D3::D4::D5::D6::D7::D8::D9::E0::E1::E2::E3::E4::E5::i12::E7::E8::E9::F0::F1::F2::F3::F4::F5::F6::F7::F8::F9::G0::G1::G2::G3::G4::G5::G6::G7::G8::G9::H0::H1::H2::H3::H4::H5::H6::H7::H8::H9::I0::I1::I2::I3::I4::I5::I6::I7::I8::I9::J0::J1::J2::J3::J4::J5::J6::J7::J8::J9::L0::L1::L2::L3::L4::L5::L6::L7::L8::L9::[]) w) (dk K B1 B2 (s0::node1::s2::node3::A0::live5::has6::share7::is8::out9::from10::to11::i12::x13::C0::C1::C2::C3::C4::C5::C6::C7::C8::C9::D0::D1::D2::D3::D4::D5::D6::D7::D8::D9::E0::E1::E2::E3::E4::E5::E6::E7::E8::E9::F0::F1::F2::F3::F4::F5::F6::F7::F8::F9::G0::G1::G2::G3::G4::G5::G6::G7::G8::G9::H0::H1::H2::H3::H4::H5::H6::H7::H8::H9::I0::I1::I2::I3::I4::I5::I6::I7::I8::I9::J0::J1::J2::J3::J4::J5::J6::J7::J8::J9::L0::L1::L2::L3::L4::L5::L6::L7::L8::L9::[]) w)) :
  fZ K B1 B2 (s0::node1::s2::node3::A0::live5::has6::share7::is8::out9::from10::to11::i12::x13::C0::C1::C2::C3::C4::C5::C6::C7::C8::C9::D0::D1::D2::D3::D4::D5::D6::D7::D8::D9::E0::E1::E2::E3::E4::E5::E6::E7::E8::E9::F0::F1::F2::F3::F4::F5::F6::F7::F8::F9::G0::G1::G2::G3::G4::G5::G6::G7::G8::G9::H0::H1::H2::H3::H4::H5::H6::H7::H8::H9::I0::I1::I2::I3::I4::I5::I6::I7::I8::I9::J0::J1::J2::J3::J4::J5::J6::J7::J8::J9::L0::L1::L2::L3::L4::L5::L6::L7::L8::L9::[]) w:=by
 delta fZ
 revert h
 generalize (dk K B1 B2)=qc0
 generalize (aY K B1)=qc1
 generalize (bG K B1 B2)=qc2
 exact fun h=>Eq.mp (by kernel_rfl) h
theorem qD {K:KV} {B1:KE} {w:World}
  (h:af Q 115 has6 from10 (fun I5=>ld Q 2 I5 fun I6=>bin Q BinOp.sub 2 false false I6 x13 fun I8=>af Q 115 has6 from10 fun I9=>sto Q 2 I9 I8 fun _=>af Q 115 has6 to11 fun J2=>ld Q 2 J2 fun J3=>bin Q BinOp.add 2 false false J3 x13 fun J5=>af Q 115 has6 to11 fun J6=>sto Q 2 J6 J5 fun _ w=>aX (fun S w=>hld S (af Q 56 live5 from10) fun L0=>hld S (ld Q 3 L0) fun L1=>hld S (af Q 56 live5 to11) fun L4=>hld S (ld Q 3 L4) fun L5=>hld S (bld Q 83 #[(0,L1),(1,L5),(2,x13)]) fun L7=>aJ Q 81 1 #[(0,L7)] (fun L8=>aX fun _=>blt Q Builtin.append #[81,81] 81 #[false,false] #[out9,L8] fun L9=>aX fun _=>B1 (s0::node1::s2::node3::A0::live5::has6::share7::is8::L9::from10::to11::i12::x13::C0::C1::C2::C3::C4::C5::C6::C7::C8::C9::D0::D1::D2::D3::D4::D5::D6::D7::D8::D9::E0::E1::E2::E3::E4::E5::E6::E7::E8::E9::F0::F1::F2::F3::F4::F5::F6::F7::F8::F9::G0::G1::G2::G3::G4::G5::G6::G7::G8::G9::H0::H1::H2::H3::H4::H5::H6::H7::H8::H9::I0::I1::I2::has6::from10::I5::I6::x13::I8::I9::has6::to11::J2::J3::x13::J5::J6::out9::live5::from10::L0::L1::live5::to11::L4::L5::x13::L7::L8::L9::[])) w) w.drew) w) :
  g9 K B1 (s0::node1::s2::node3::A0::live5::has6::share7::is8::out9::from10::to11::i12::x13::C0::C1::C2::C3::C4::C5::C6::C7::C8::C9::D0::D1::D2::D3::D4::D5::D6::D7::D8::D9::E0::E1::E2::E3::E4::E5::E6::E7::E8::E9::F0::F1::F2::F3::F4::F5::F6::F7::F8::F9::G0::G1::G2::G3::G4::G5::G6::G7::G8::G9::H0::H1::H2::H3::H4::H5::H6::H7::H8::H9::I0::I1::I2::I3::I4::I5::I6::I7::I8::I9::J0::J1::J2::J3::J4::J5::J6::J7::J8::J9::L0::L1::L2::L3::L4::L5::L6::L7::L8::L9::[]) w:=by
 delta g9
 revert h
 exact fun h=>Eq.mp (by kernel_rfl) h
theorem qE {K:KV} {B1:KE} {B2:KE} {w:World}
  (h:sti (af Q 115 has6 i12) (fun E9=>sti (ld Q 2 E9) fun F0=>sti (af Q 115 share7 i12) fun F3=>sti (ld Q 2 F3) fun F4=>sti (bin Q BinOp.lss 2 false false F0 F4) fun F5 w=>cond F5 (bG K B1 B2 (s0::node1::s2::node3::A0::live5::has6::share7::is8::out9::from10::i12::i12::x13::C0::C1::C2::C3::C4::C5::C6::C7::C8::C9::D0::D1::D2::D3::D4::D5::D6::D7::D8::D9::E0::E1::E2::E3::E4::E5::E6::has6::i12::E9::F0::share7::i12::F3::F4::F5::i12::F7::F8::F9::G0::G1::G2::G3::G4::G5::G6::G7::G8::G9::H0::H1::H2::H3::H4::H5::H6::H7::H8::H9::I0::I1::I2::I3::I4::I5::I6::I7::I8::I9::J0::J1::J2::J3::J4::J5::J6::J7::J8::J9::L0::L1::L2::L3::L4::L5::L6::L7::L8::L9::[]) w) (bG K B1 B2 (s0::node1::s2::node3::A0::live5::has6::share7::is8::out9::from10::to11::i12::x13::C0::C1::C2::C3::C4::C5::C6::C7::C8::C9::D0::D1::D2::D3::D4::D5::D6::D7::D8::D9::E0::E1::E2::E3::E4::E5::E6::has6::i12::E9::F0::share7::i12::F3::F4::F5::F6::F7::F8::F9::G0::G1::G2::G3::G4::G5::G6::G7::G8::G9::H0::H1::H2::H3::H4::H5::H6::H7::H8::H9::I0::I1::I2::I3::I4::I5::I6::I7::I8::I9::J0::J1::J2::J3::J4::J5::J6::J7::J8::J9::L0::L1::L2::L3::L4::L5::L6::L7::L8::L9::[]) w)) w.drew) :
  dk K B1 B2 (s0::node1::s2::node3::A0::live5::has6::share7::is8::out9::from10::to11::i12::x13::C0::C1::C2::C3::C4::C5::C6::C7::C8::C9::D0::D1::D2::D3::D4::D5::D6::D7::D8::D9::E0::E1::E2::E3::E4::E5::E6::E7::E8::E9::F0::F1::F2::F3::F4::F5::F6::F7::F8::F9::G0::G1::G2::G3::G4::G5::G6::G7::G8::G9::H0::H1::H2::H3::H4::H5::H6::H7::H8::H9::I0::I1::I2::I3::I4::I5::I6::I7::I8::I9::J0::J1::J2::J3::J4::J5::J6::J7::J8::J9::L0::L1::L2::L3::L4::L5::L6::L7::L8::L9::[]) w:=by
 delta dk
 revert h
 generalize (bG K B1 B2)=qc0
 generalize (aY K B1)=qc1
 exact fun h=>Eq.mp (by kernel_rfl) h
theorem kC {K:KV} {B1:KE} {B2:KE} {w:World}
  (h:bin Q BinOp.sub 3 false true i12 (ci 1) (fun D6=>B2 (s0::node1::s2::node3::A0::live5::has6::share7::is8::out9::from10::to11::D6::x13::C0::C1::C2::C3::C4::C5::C6::C7::C8::C9::D0::D1::D2::D3::D4::i12::D6::D7::D8::D9::E0::E1::E2::E3::E4::E5::E6::E7::E8::E9::F0::F1::F2::F3::F4::F5::F6::F7::F8::F9::G0::G1::G2::G3::G4::G5::G6::G7::G8::G9::H0::H1::H2::H3::H4::H5::H6::H7::H8::H9::I0::I1::I2::I3::I4::I5::I6::I7::I8::I9::J0::J1::J2::J3::J4::J5::J6::J7::J8::J9::L0::L1::L2::L3::L4::L5::L6::L7::L8::L9::[])) w) :
  bG K B1 B2 (s0::node1::s2::node3::A0::live5::has6::share7::is8::out9::from10::to11::i12::x13::C0::C1::C2::C3::C4::C5::C6::C7::C8::C9::D0::D1::D2::D3::D4::D5::D6::D7::D8::D9::E0::E1::E2::E3::E4::E5::E6::E7::E8::E9::F0::F1::F2::F3::F4::F5::F6::F7::F8::F9::G0::G1::G2::G3::G4::G5::G6::G7::G8::G9::H0::H1::H2::H3::H4::H5::H6::H7::H8::H9::I0::I1::I2::I3::I4::I5::I6::I7::I8::I9::J0::J1::J2::J3::J4::J5::J6::J7::J8::J9::L0::L1::L2::L3::L4::L5::L6::L7::L8::L9::[]) w:=by
 delta bG
 revert h
 generalize (aY K B1)=qc0
 exact fun h=>Eq.mp (by kernel_rfl) h
attribute [irreducible] ia aY ib bG fY dk fZ g9
def bq (K:KV):KE:=ac Q (cd Tryz.f22 [1,1,1]) (rk Tryz.f22 K) xf (rk Tryz.f22 K)
def iq (K:KV):KE:=ac Q (cd Tryz.f22 [1,1,0,1,0]) (bq K) (xx xf (bq K) 0) (rk Tryz.f22 K)
def bB (K:KV) (B1:KE):KE:=ac Q (cd Tryz.f22 [1,1,0,1,0,0,1,1]) B1 (xx xf (bq K) 0) (rk Tryz.f22 K)
def ir (K:KV) (B1:KE):KE:=ac Q (cd Tryz.f22 [1,1,0,1,0,0,1,0,0,1,1,0]) (bB K B1) (xx (xx (xx xf (bq K) 0) (bB K B1) 1) (bB K B1) 2) (rk Tryz.f22 K)
def dQ (K:KV) (B1:KE) (B2:KE):KE:=ac Q (cd Tryz.f22 [1,1,0,1,0,0,1,0,0,1,1,0,0,1,1]) B2 (xx (xx (xx xf (bq K) 0) (bB K B1) 1) (bB K B1) 2) (rk Tryz.f22 K)
def gF (K:KV) (B1:KE) (B2:KE):KE:=ac Q (cd Tryz.f22 [1,1,0,1,0,0,1,0,0,1,1,0,0,1,0]) (dQ K B1 B2) (xx (xx (xx xf (bq K) 0) (bB K B1) 1) (bB K B1) 2) (rk Tryz.f22 K)
end
theorem u9 {K:KV} {s0 i1:Value} {w:World}
  (h:box Q 30 s0 (fun s2=>iq K (s0::i1::s2::undef::cN::cN::(ci 0)::undef::undef::undef::undef::undef::undef::undef::undef::undef::undef::undef::undef::undef::undef::undef::undef::undef::undef::undef::undef::undef::undef::undef::undef::undef::undef::undef::undef::undef::undef::undef::undef::undef::undef::undef::undef::undef::undef::undef::undef::undef::undef::undef::undef::undef::undef::undef::undef::undef::undef::undef::[])) w) :
  Gives Q 22 #[s0,i1] w K:=by
 refine aK Tryz.func22 (by kernel_rfl) ?_
 revert h
 delta iq bq
 exact fun h=>Eq.mp (by kernel_rfl) h
theorem ua:bD Q 22:=⟨_,Tryz.func22,by kernel_rfl,by kernel_rfl⟩
section
variable {s0 i1 s2 i3 A0 out5 k_6 l7 j8 A5 A6 A7 A8 A9 C0 C1 C2 C3 C4 C5 C6 C7 C8 C9 D0 D1 D2 D3 D4 D5 D6 D7 D8 D9 E0 E1 E2 E3 E4 E5 E6 E7 E8 E9 F0 F1 F2 F3 F4 F5 F6 F7 F8 F9 G0 G1 G2 G3:Value}
theorem rx {K:KV} {w:World} (Inv:Value→Value→World→Prop) (μ:Value→Value→World→Nat) (h0:Inv out5 k_6 w)
  (hs:∀ (out5' k_6':Value) (dd:Nat→Value) (w:World) (m:Nat),Inv out5' k_6' w→m=μ out5' k_6' w →
  aa Q 30 s2 3 (fun A6=>ld Q 27 A6 fun A7=>blt Q Builtin.len #[27] 3 #[false] #[A7] fun A8=>bin Q BinOp.lss 3 false false k_6' A8 fun A9 w=>cond A9 (aX (fun S w=>hld S (ld Q 30 s2) fun C2=>hld S (aa Q 30 s2 3) fun C3=>hld S (ld Q 27 C3) fun C4=>hld S (af Q 27 C4 k_6') fun C6=>hld S (aa Q 38 C6 0) fun C7=>hld S (ld Q 24 C7) fun C8=>call Q 21 #[C2,C8] (fun C9=>aX fun _=>ir K (fun e2 w2=>(Inv (gd e2 5) (gd e2 6) w2)∧((μ (gd e2 5) (gd e2 6) w2)<m)) (s0::i1::s2::i3::A0::out5'::k_6'::C9::(ci 0)::k_6'::A6::A7::A8::A9::(dd 14)::(dd 15)::C2::C3::C4::k_6'::C6::C7::C8::C9::(dd 24)::(dd 25)::(dd 26)::(dd 27)::(dd 28)::(dd 29)::(dd 30)::(dd 31)::(dd 32)::(dd 33)::(dd 34)::(dd 35)::(dd 36)::(dd 37)::(dd 38)::(dd 39)::(dd 40)::(dd 41)::(dd 42)::(dd 43)::(dd 44)::(dd 45)::(dd 46)::(dd 47)::(dd 48)::(dd 49)::(dd 50)::(dd 51)::(dd 52)::(dd 53)::(dd 54)::(dd 55)::(dd 56)::G3::[])) w) w.drew) (bq K (s0::i1::s2::i3::A0::out5'::k_6'::(dd 7)::(dd 8)::k_6'::A6::A7::A8::A9::(dd 14)::(dd 15)::(dd 16)::(dd 17)::(dd 18)::(dd 19)::(dd 20)::(dd 21)::(dd 22)::(dd 23)::(dd 24)::(dd 25)::(dd 26)::(dd 27)::(dd 28)::(dd 29)::(dd 30)::(dd 31)::(dd 32)::(dd 33)::(dd 34)::(dd 35)::(dd 36)::(dd 37)::(dd 38)::(dd 39)::(dd 40)::(dd 41)::(dd 42)::(dd 43)::(dd 44)::(dd 45)::(dd 46)::(dd 47)::(dd 48)::(dd 49)::(dd 50)::(dd 51)::(dd 52)::(dd 53)::(dd 54)::(dd 55)::(dd 56)::G3::[]) w)) w) :
  iq K (s0::i1::s2::i3::A0::out5::k_6::l7::j8::A5::A6::A7::A8::A9::C0::C1::C2::C3::C4::C5::C6::C7::C8::C9::D0::D1::D2::D3::D4::D5::D6::D7::D8::D9::E0::E1::E2::E3::E4::E5::E6::E7::E8::E9::F0::F1::F2::F3::F4::F5::F6::F7::F8::F9::G0::G1::G2::G3::[]) w:=by
 refine aB (cd Tryz.f22 [1,1,0,1,0,0]) [5,6,7,8,9,10,11,12,13,14,15,16,17,18,19,20,21,22,23,24,25,26,27,28,29,30,31,32,33,34,35,36,37,38,39,40,41,42,43,44,45,46,47,48,49,50,51,52,53,54,55,56] (by kernel_rfl) (fun e2 w2=>Inv (gd e2 5) (gd e2 6) w2) (fun e2 w2=>μ (gd e2 5) (gd e2 6) w2) h0 ?_
 intro e' w' hI
 have h:=hs (gd e' 5) (gd e' 6) (fun i=>gd e' i) w' _ hI rfl
 revert h
 delta ir bB
 generalize (bq K)=qc0
 exact fun h=>Eq.mp (by kernel_rfl) h
theorem ry {K:KV} {B1:KE} {w:World} (Inv:Value→Value→World→Prop) (μ:Value→Value→World→Nat) (h0:Inv out5 j8 w)
  (hs:∀ (out5' j8':Value) (dd:Nat→Value) (w:World) (m:Nat),Inv out5' j8' w→m=μ out5' j8' w →
  blt Q Builtin.len #[81] 3 #[false] #[l7] (fun D2=>bin Q BinOp.lss 3 false false j8' D2 fun D3 w=>cond D3 (gF K B1 (fun e2 w2=>(Inv (gd e2 5) (gd e2 8) w2)∧((μ (gd e2 5) (gd e2 8) w2)<m)) (s0::i1::s2::i3::A0::out5'::k_6::l7::j8'::A5::A6::A7::A8::A9::C0::C1::C2::C3::C4::C5::C6::C7::C8::C9::j8'::l7::D2::D3::(dd 28)::(dd 29)::(dd 30)::(dd 31)::(dd 32)::(dd 33)::(dd 34)::(dd 35)::(dd 36)::(dd 37)::(dd 38)::(dd 39)::(dd 40)::(dd 41)::(dd 42)::(dd 43)::(dd 44)::(dd 45)::(dd 46)::(dd 47)::(dd 48)::(dd 49)::(dd 50)::(dd 51)::(dd 52)::(dd 53)::(dd 54)::(dd 55)::(dd 56)::G3::[]) w) (bB K B1 (s0::i1::s2::i3::A0::out5'::k_6::l7::j8'::A5::A6::A7::A8::A9::C0::C1::C2::C3::C4::C5::C6::C7::C8::C9::j8'::l7::D2::D3::(dd 28)::(dd 29)::(dd 30)::(dd 31)::(dd 32)::(dd 33)::(dd 34)::(dd 35)::(dd 36)::(dd 37)::(dd 38)::(dd 39)::(dd 40)::(dd 41)::(dd 42)::(dd 43)::(dd 44)::(dd 45)::(dd 46)::(dd 47)::(dd 48)::(dd 49)::(dd 50)::(dd 51)::(dd 52)::(dd 53)::(dd 54)::(dd 55)::(dd 56)::G3::[]) w)) w) :
  ir K B1 (s0::i1::s2::i3::A0::out5::k_6::l7::j8::A5::A6::A7::A8::A9::C0::C1::C2::C3::C4::C5::C6::C7::C8::C9::D0::D1::D2::D3::D4::D5::D6::D7::D8::D9::E0::E1::E2::E3::E4::E5::E6::E7::E8::E9::F0::F1::F2::F3::F4::F5::F6::F7::F8::F9::G0::G1::G2::G3::[]) w:=by
 refine aB (cd Tryz.f22 [1,1,0,1,0,0,1,0,0,1,1,0,0]) [5,8,24,25,26,27,28,29,30,31,32,33,34,35,36,37,38,39,40,41,42,43,44,45,46,47,48,49,50,51,52,53,54,55,56] (by kernel_rfl) (fun e2 w2=>Inv (gd e2 5) (gd e2 8) w2) (fun e2 w2=>μ (gd e2 5) (gd e2 8) w2) h0 ?_
 intro e' w' hI
 have h:=hs (gd e' 5) (gd e' 8) (fun i=>gd e' i) w' _ hI rfl
 refine Eq.mp (congrArg (fun c=>ac Q c _ _ _ _ w') (by kernel_rfl:(rep [1,0] (cd Tryz.f22 [1,1,0,1,0,0,1,0,0,1,1,0,0,1,0]) (cd Tryz.f22 [1,1,0,1,0,0,1,0,0,1,1,0,0]))=(cd Tryz.f22 [1,1,0,1,0,0,1,0,0,1,1,0,0]))) ?_
 revert h
 delta gF dQ
 generalize (cd Tryz.f22 [1,1,0,1,0,0,1,0,0,1,1,0,0,1,0])=xc0
 generalize (bq K)=qc0
 generalize (bB K B1)=qc1
 exact fun h=>Eq.mp (by kernel_rfl) h
theorem rz {K:KV} {w:World}
  (h:K out5 w) :
  bq K (s0::i1::s2::i3::A0::out5::k_6::l7::j8::A5::A6::A7::A8::A9::C0::C1::C2::C3::C4::C5::C6::C7::C8::C9::D0::D1::D2::D3::D4::D5::D6::D7::D8::D9::E0::E1::E2::E3::E4::E5::E6::E7::E8::E9::F0::F1::F2::F3::F4::F5::F6::F7::F8::F9::G0::G1::G2::G3::[]) w:=by
 delta bq
 revert h
 exact fun h=>Eq.mp (by kernel_rfl) h
theorem rA {K:KV} {B1:KE} {B2:KE} {w:World}
  (h:af Q 81 l7 j8 (fun D8=>aa Q 83 D8 0 fun D9=>ld Q 3 D9 fun E0=>bin Q BinOp.eql 3 false false E0 i1 fun E2 w=>cond E2 (aX (fun S w=>hld S (aa Q 30 s2 3) fun E4=>hld S (ld Q 27 E4) fun E5=>hld S (af Q 27 E5 k_6) fun E7=>hld S (aa Q 38 E7 0) fun E8=>hld S (ld Q 24 E8) fun E9=>hld S (af Q 81 l7 j8) fun F2=>hld S (aa Q 83 F2 1) fun F3=>hld S (ld Q 3 F3) fun F4=>hld S (af Q 81 l7 j8) fun F7=>hld S (aa Q 83 F7 2) fun F8=>hld S (ld Q 2 F8) fun F9=>hld S (bld Q 61 #[(0,cb 5),(1,E9),(2,F4),(3,F9)]) fun G0=>aJ Q 58 1 #[(0,G0)] (fun G1=>aX fun _=>blt Q Builtin.append #[58,58] 58 #[false,false] #[out5,G1] fun G2=>aX fun _=>dQ K B1 B2 (s0::i1::s2::i3::A0::G2::k_6::l7::j8::A5::A6::A7::A8::A9::C0::C1::C2::C3::C4::C5::C6::C7::C8::C9::D0::D1::D2::D3::D4::D5::l7::j8::D8::D9::E0::i1::E2::out5::E4::E5::k_6::E7::E8::E9::l7::j8::F2::F3::F4::l7::j8::F7::F8::F9::G0::G1::G2::G3::[])) w) w.drew) (dQ K B1 B2 (s0::i1::s2::i3::A0::out5::k_6::l7::j8::A5::A6::A7::A8::A9::C0::C1::C2::C3::C4::C5::C6::C7::C8::C9::D0::D1::D2::D3::D4::D5::l7::j8::D8::D9::E0::i1::E2::E3::E4::E5::E6::E7::E8::E9::F0::F1::F2::F3::F4::F5::F6::F7::F8::F9::G0::G1::G2::G3::[]) w)) w) :
  gF K B1 B2 (s0::i1::s2::i3::A0::out5::k_6::l7::j8::A5::A6::A7::A8::A9::C0::C1::C2::C3::C4::C5::C6::C7::C8::C9::D0::D1::D2::D3::D4::D5::D6::D7::D8::D9::E0::E1::E2::E3::E4::E5::E6::E7::E8::E9::F0::F1::F2::F3::F4::F5::F6::F7::F8::F9::G0::G1::G2::G3::[]) w:=by
 delta gF
 revert h
 generalize (dQ K B1 B2)=qc0
 generalize (bq K)=qc1
 generalize (bB K B1)=qc2
 exact fun h=>Eq.mp (by kernel_rfl) h
theorem rB {K:KV} {B1:KE} {w:World}
  (h:bin Q BinOp.add 3 false true k_6 (ci 1) (fun C1=>B1 (s0::i1::s2::i3::A0::out5::C1::l7::j8::A5::A6::A7::A8::A9::k_6::C1::C2::C3::C4::C5::C6::C7::C8::C9::D0::D1::D2::D3::D4::D5::D6::D7::D8::D9::E0::E1::E2::E3::E4::E5::E6::E7::E8::E9::F0::F1::F2::F3::F4::F5::F6::F7::F8::F9::G0::G1::G2::G3::[])) w) :
  bB K B1 (s0::i1::s2::i3::A0::out5::k_6::l7::j8::A5::A6::A7::A8::A9::C0::C1::C2::C3::C4::C5::C6::C7::C8::C9::D0::D1::D2::D3::D4::D5::D6::D7::D8::D9::E0::E1::E2::E3::E4::E5::E6::E7::E8::E9::F0::F1::F2::F3::F4::F5::F6::F7::F8::F9::G0::G1::G2::G3::[]) w:=by
 delta bB
 revert h
 generalize (bq K)=qc0
 exact fun h=>Eq.mp (by kernel_rfl) h
theorem kN {K:KV} {B1:KE} {B2:KE} {w:World}
  (h:bin Q BinOp.add 3 false true j8 (ci 1) (fun D5=>B2 (s0::i1::s2::i3::A0::out5::k_6::l7::D5::A5::A6::A7::A8::A9::C0::C1::C2::C3::C4::C5::C6::C7::C8::C9::D0::D1::D2::D3::j8::D5::D6::D7::D8::D9::E0::E1::E2::E3::E4::E5::E6::E7::E8::E9::F0::F1::F2::F3::F4::F5::F6::F7::F8::F9::G0::G1::G2::G3::[])) w) :
  dQ K B1 B2 (s0::i1::s2::i3::A0::out5::k_6::l7::j8::A5::A6::A7::A8::A9::C0::C1::C2::C3::C4::C5::C6::C7::C8::C9::D0::D1::D2::D3::D4::D5::D6::D7::D8::D9::E0::E1::E2::E3::E4::E5::E6::E7::E8::E9::F0::F1::F2::F3::F4::F5::F6::F7::F8::F9::G0::G1::G2::G3::[]) w:=by
 delta dQ
 revert h
 generalize (bq K)=qc0
 generalize (bB K B1)=qc1
 exact fun h=>Eq.mp (by kernel_rfl) h
attribute [irreducible] bq iq bB ir dQ gF
end
end Go.Proofs.YtgpfkmdknlcemaaGreatDoor
namespace Go.Proofs.YtgpfkmdknlcemaaGreatDoor
set_option maxRecDepth 100000
open Go.RowKit
abbrev OJ (w:World) (B:Nat) (a:Option Addr) (n c:Nat) (l:List Int):Prop:=w.ownsRow B 2 1 (.slice a n c) n (l.map iv)
theorem OJ.nil (w:World) (B:Nat):OJ w B none 0 0 []:=World.ownsRow_nil w B _ 1
theorem OJ.bel {w w':World} {B n c:Nat} {a:Option Addr} {l:List Int} (h:OJ w B a n c l) (hb:Below w.heap.size w w'):OJ w' B a n c l:=bj h fun k hk=>hb.block k (World.ownsRow.lt h k hk).2
theorem OJ.len {w:World} {B n c:Nat} {a:Option Addr} {l:List Int} (h:OJ w B a n c l):l.length=n:=by have h1:=h.1; simpa using h1
theorem CM:(Tryz.prog.info? 2).map (fun i=>(i.zero,i.size,i.bytes))=some (some (.int .i64 0),1,8):=by kernel_rfl
attribute [local irreducible] bin un conv call bl blt slc aa fld af idx lkp bL bP eSt rng nxt ent ext alc box bld aJ ld sto aj bm mkS ifc pick rdy wts au sti cond aH Gives ac aW bA cOp
section
variable {w:World} {K:KV}
theorem FL {x:Int} (h:∀ w',blk w' w.heap.size 2 [iv x]→Below w.heap.size w w'→w'.heap.size=w.heap.size+1→K (.slice (some ⟨w.heap.size,0,none⟩) 1 1) w'):aJ Tryz.prog 115 1 #[(0,iv x)] K w :=
 hH (vs:=[iv x]) Tryz.underlying115 (s:=1) (by kernel_rfl) (by kernel_rfl) (by omega) rfl (by simp) (by simp) (by simp) (by simp [Value.cells,iv]) fun w' hb b s=>h w' (by simpa [iv,Value.cells] using hb) b s
theorem apJ {cs:Array Bool} {ty:TypeId} {B n c g:Nat} {a:Option Addr} {l:List Int} {x:Int} (ho:OJ w B a n c l) (hg:blk w g 2 [iv x]) (hB:B≤w.heap.size) (hn:n≤100000)
  (h:∀ a' c' w',OJ w' B a' (n+1) c' (l++[x])→Below B w w'→w.grownBy w' (Value.slice a n c).ownBlock→K (.slice a' (n+1) c') w') :
  blt Tryz.prog .append #[115,115] ty cs #[.slice a n c,.slice (some ⟨g,0,none⟩) 1 1] K w:=by
 obtain ⟨i,hi,hz,hsz,hby⟩:=info_parts CM
 refine Fm (base:=B) (s:=1) (m:=1) (ys:=[iv x]) Tryz.underlying115 hi hz hsz hby rfl (by omega) ho hg rfl (by simp [iv,Value.oneCell']) (by omega) (by omega) hB ?_
 intro a' c' w' ho' hgr _
 refine h a' c' w' (by simpa [OJ] using ho') (ce hgr hB (fun k hk => ?_)) hgr
 exact (World.ownsRow.lt ho k hk).1
end
end Go.Proofs.YtgpfkmdknlcemaaGreatDoor
namespace Go.Proofs.YtgpfkmdknlcemaaGreatDoor
set_option maxRecDepth 100000
open Go.RowKit
theorem DK {l:List Int} {k:Nat} {a:Int} (hk:k < l.length):sd (l.drop k) a=if nB l k < 0∨nB l k > MXA∨a+nB l k > MXA then none else sd (l.drop (k+1)) (a+nB l k):=by
 rw [List.drop_eq_getElem_cons hk]
 have:nB l k=l[k]:=by simp [nB,List.getD,hk]
 rw [this]; rfl
theorem oe {l:List Int} {k:Nat} (hk:k < l.length):l.take (k+1)=l.take k++[nB l k]:=by
 rw [show nB l k=l[k] by simp [nB,List.getD,hk],List.take_append_getElem hk]
end Go.Proofs.YtgpfkmdknlcemaaGreatDoor
namespace Go.Proofs.YtgpfkmdknlcemaaGreatDoor
set_option maxRecDepth 100000
open Go.RowKit
theorem ON.mono' {w:World} {B B' n s c:Nat} {a:Option Addr} {E:TypeId} {xs:List Value} (h:w.ownsRow B E s (.slice a n c) n xs) (hb:B'≤B):w.ownsRow B' E s (.slice a n c) n xs:=by
 refine ⟨h.1, ?_⟩
 rcases h.2 with h2 | ⟨g,cap,cur,hv,hg,r⟩
 ·exact .inl h2
 ·exact .inr ⟨g,cap,cur,hv,by omega,r⟩
attribute [local irreducible] bin un conv call bl blt slc aa fld af idx lkp bL bP eSt rng nxt ent ext alc box bld aJ ld sto aj bm mkS ifc pick rdy wts au sti cond aH Gives ac aW bA cOp
section
variable {w:World} {K:KV}
def ShR (s:STA) (id:Int) (B:Nat) (w:World) (v:Value):Prop:=match eO s id with
 | none=>v=.tuple #[.slice none 0 0,.slice none 0 0,.slice none 0 0,.bool false]
 | some (has,sh) => ∃ a c a2 c2 a3 c3,ON w B a (bS s.I s.L 6).length c (bS s.I s.L 6)∧OJ w B a2 has.length c2 has∧OJ w B a3 sh.length c3 sh∧(∀ k,(Value.slice a2 has.length c2).ownBlock=some k→∀ q,(Value.slice a (bS s.I s.L 6).length c).ownBlock=some q→q < k)∧(∀ k,(Value.slice a3 sh.length c3).ownBlock=some k→∀ q,(Value.slice a2 has.length c2).ownBlock=some q→q < k)∧v=.tuple #[.slice a (bS s.I s.L 6).length c,.slice a2 has.length c2,.slice a3 sh.length c3,.bool true]
set_option maxHeartbeats 4000000 in
theorem zR {s:STA} {id:Int} (hs:SK w s) (h:∀ w' v,Below w.heap.size w w'→ShR s id w.heap.size w' v→K v w'):call Tryz.prog 37 #[.agg (saC s).toArray,.int .u64 id] K w:=by
 refine aE ru (rt ?_)
 refine bh fun w1 hb b1 s1 => ?_
 have hb:blk w1 w.heap.size 30 (saC s):=by simpa [Value.cells] using hb
 have cutS:((saC s).drop 0).take 20=saC s:=by rw [List.drop_zero,List.take_of_length_le (by rw [hs.len]; omega)]
 refine ldA (n:=20) (vs:=saC s) Tryz.underlying30 rfl (by kernel_rfl) hb cutS hs.len ?_
 refine HC (hs.bel b1 (Nat.le_refl _)) fun w2 b2 => ?_
 refine fy ?_
 refine fz ?_
 have B2:Below w.heap.size w w2:=b1.trans (b2.mono (by omega))
 have hol:=BG s.nodes id
 refine cH (z:=.agg qz.toArray) (by kernel_rfl) fun w3 hq b3 s3 => ?_
 have hq:blk w3 w2.heap.size 135 qz:=hq
 refine eM (n:=8) (vs:=(ofN s.nodes id).1) (by kernel_rfl) hol hq (by simp [qz]) (BH _ _) fun w4 hq4 o4 => ?_
 have hq4:blk w4 w2.heap.size 135 (ofN s.nodes id).1:=by
  rw [List.take_zero,List.nil_append,List.drop_of_length_le (by simp [qz]),List.append_nil] at hq4
  exact hq4
 have b24:Below w2.heap.size w2 w4:=b3.trans o4.below
 have B4:Below w.heap.size w w4:=B2.trans (b24.mono B2.size)
 have hsz1:=b2.size
 have hb4:=ae b24 (ae b2 hb hb.lt) (by omega)
 refine ldA (n:=20) (vs:=saC s) Tryz.underlying30 rfl (by kernel_rfl) hb4 cutS hs.len ?_
 refine DJ (hs.bel B4 (Nat.le_refl _)) fun w5 a c ho b5 => ?_
 have hq5:=ae b5 hq4 hq4.lt
 have B5:Below w.heap.size w w5:=B4.trans (b5.mono B4.size)
 have hll:(bS s.I s.L 6).length≤6:=iV _ _ 6
 have hrng:∀ x ∈ bS s.I s.L 6,1≤x∧x≤6:=fun x hx=>Ab hx
 unfold ShR at h
 generalize hlv:bS s.I s.L 6=lv at *
 generalize hn:lv.length=n at *
 have no:∀ w',Below w.heap.size w w'→eO s id=none→K (.tuple #[.slice none 0 0,.slice none 0 0,.slice none 0 0,.bool false]) w':=fun w' b hq=>by
  have:=h w' (.tuple #[.slice none 0 0,.slice none 0 0,.slice none 0 0,.bool false]) b
  rw [hq] at this
  exact this rfl
 refine dn ?_
 cases hx:s.nodes[posN s.nodes id]? with
 | none =>
  have hof:ofN s.nodes id=(qz,9):=by unfold ofN; rw [hx]
  rw [hof]
  refine de (show ((9:Int)≠0) by decide) ?_
  refine bp (show ((9:Int)≠0) by decide) ?_
  refine aR ?_
  exact no w5 B5 (by unfold eO; rw [hx])
 | some x =>
  have hof:ofN s.nodes id=(quA x.A,0):=by unfold ofN; rw [hx]
  rw [hof] at hq5
  rw [hof]
  refine cE (show ¬ ((0:Int)≠0) by decide) ?_
  refine aI Tryz.underlying56 ?_
  refine aN ?_
  refine bt (show ¬ ((0:Int)≠0) by decide) ?_
  by_cases hn0:(n:Int)=0
  ·refine ai hn0 ?_
   have:lv=[]:=List.length_eq_zero_iff.1 (by omega)
   exact no w5 B5 (by unfold eO; rw [hx,hlv,this])
  refine ag hn0 ?_
  refine py ?_
  have hlook:eO s id=match sd (iS x.A lv) 0 with | none=>none | some all=>some (iS x.A lv,shL all n):=by
   rw [Bt _ _ (Int.le_refl 0)]
   unfold eO
   rw [hx,hlv]
   cases lv with
   | nil=>simp at hn; omega
   | cons i r =>
    simp only [hn]
    cases lf (iS x.A (i::r)) 0 <;> rfl
  have hhl:(iS x.A lv).length=n:=by rw [vf,hn]
  have hat:∀ k,k < n→nB (iS x.A lv) k=jR x.A (nB lv k - 1).toNat:=fun k hk=>BF (by omega)
  generalize iS x.A lv=has at *
  have hlt5:=hq5.lt
  refine pz (Inv:=fun al hv kv _ _ _ _ _ _ wr => ∃ (k:Nat) (A:Int) (a2:Option Addr) (c2:Nat),al=.int .i64 A∧hv=.slice a2 k c2∧kv=.int .i64 (k:Nat)∧k≤n∧0≤A∧A≤MXA∧sd has 0=sd (has.drop k) A∧OJ wr w5.heap.size a2 k c2 (has.take k)∧Below w5.heap.size w5 wr)
   (μ:=fun _ _ kv _ _ _ _ _ _ _=>n - (intOf kv).toNat) ⟨0,0,none,0,rfl,rfl,rfl,by omega,by omega,by decide,rfl,OJ.nil _ _,Below.refl _ _⟩ ?_
  rintro _ _ _ _ _ _ _ _ _ dd wr m ⟨k,A,a2,c2,rfl,rfl,rfl,hk,hA0,hA1,hadd,hoj,bb⟩ hmm
  have hszr:=bb.size
  have BB:Below w.heap.size w wr:=B5.trans (bb.mono B5.size)
  refine aI Tryz.underlying56 ?_
  refine aD ?_
  by_cases hkn:k < n
  ·refine ai (by omega) ?_
   have hrv:RV wr a n c (lv.map iv):=OV.rv (ho.bel bb)
   refine fD Tryz.underlying56 (fun _=>by kernel_rfl) (by omega) (by omega) hrv.some_ ?_
   rw [Int.toNat_natCast]
   have hxk:(lv.map iv)[k]? = some (iv (nB lv k)):=by simp [nB,List.getD,show k < lv.length by omega]
   refine dp (fun _=>by kernel_rfl) (hrv.cell _ _ hxk) ?_
   have hmem:nB lv k ∈ lv:=by
    have:nB lv k=lv[k]'(by omega):=by simp [nB,List.getD,show k < lv.length by omega]
    rw [this]; exact List.getElem_mem _
   have hr16:=hrng _ hmem
   unfold iv
   refine bo (by omega) (by omega) ?_
   refine pY ?_
   refine aT Tryz.underlying33 (s:=1) (fun _=>by kernel_rfl) (by omega) (by omega) ?_
   refine ld1 (v:=iv (nB has k)) (fun _=>by kernel_rfl) (ae bb hq5 hlt5) (by rw [hat k hkn,show 0+2+(nB lv k - 1).toNat * 1=2+(nB lv k - 1).toNat by omega]; exact DR (by omega)) ?_
   have hd:=DK (l:=has) (k:=k) (a:=A) (by omega)
   have bad:nB has k < 0∨nB has k > MXA∨A+nB has k > MXA→eO s id=none:=fun hq=>by
    rw [hlook,hadd,hd,if_pos hq]
   simp only [MXA] at hd bad hA1
   unfold iv
   refine aD ?_
   by_cases h1:nB has k < 0
   ·refine de h1 ?_
    refine bp h1 ?_
    refine d8 ?_
    refine bI ?_
    refine aR ?_
    exact no wr BB (bad (.inl h1))
   ·refine cE h1 ?_
    refine cD ?_
    refine bt h1 ?_
    by_cases h2:1125899906842624 < nB has k
    ·refine de h2 ?_
     refine bp h2 ?_
     refine aR ?_
     exact no wr BB (bad (.inr (.inl h2)))
    ·refine cE h2 ?_
     refine aF (by omega) (by omega) ?_
     refine cD ?_
     refine bt h2 ?_
     by_cases h3:1125899906842624 < A+nB has k
     ·refine ai h3 ?_
      exact no wr BB (bad (.inr (.inr h3)))
     ·refine ag h3 ?_
      refine aF (by omega) (by omega) ?_
      refine FL fun wy gy by_ sy => ?_
      refine apJ (hoj.bel by_) gy (by omega) (by omega) fun a' c' wz hoz bz _ => ?_
      refine aF (by omega) (by omega) ?_
      refine ⟨⟨k+1,A+nB has k,a',c',rfl,rfl,by simp,by omega,by omega,by simp only [MXA]; omega, ?_, ?_,(bb.trans (by_.mono hszr)).trans bz⟩,by rw [hmm]; simp [intOf]; omega⟩
      ·rw [hadd,hd,if_neg (by omega)]
      ·rw [oe (by omega)]; exact hoz
  ·refine ag (by omega) ?_
   obtain rfl:k=n:=by omega
   rw [List.drop_of_length_le (by omega)] at hadd
   rw [List.take_of_length_le (by omega)] at hoj
   have hlk2:eO s id=some (has,shL A k):=by rw [hlook,hadd]; rfl
   clear hlook
   refine pA ?_
   have hshl:(shL A k).length=k:=xB A k
   have hsat:∀ j,j < k→nB (shL A k) j=shr A k j:=fun j hj=>Ac hj
   generalize shL A k=sh at *
   refine pB (Inv:=fun sv jv wr2 => ∃ (j:Nat) (a3:Option Addr) (c3:Nat),sv=.slice a3 j c3∧jv=.int .i64 (j:Nat)∧j≤k∧OJ wr2 wr.heap.size a3 j c3 (sh.take j)∧Below wr.heap.size wr wr2) (μ:=fun _ jv _=>k - (intOf jv).toNat)
    ⟨0,none,0,rfl,rfl,by omega,OJ.nil _ _,Below.refl _ _⟩ ?_
   rintro _ _ dd2 wu m2 ⟨j,a3,c3,rfl,rfl,hj,hos,bu⟩ hm2
   have hszu:=bu.size
   refine aI Tryz.underlying56 ?_
   refine aD ?_
   by_cases hjk:j < k
   ·refine ai (by omega) ?_
    have hdv:A.tdiv (k:Nat)=A / (k:Nat):=Int.tdiv_eq_ediv_of_nonneg hA0
    have hmd:A.tmod (k:Nat)=A % (k:Nat):=Int.tmod_eq_emod_of_nonneg hA0
    have hd0:0≤A / (k:Nat):=Int.ediv_nonneg hA0 (by omega)
    have hd1:A / (k:Nat)≤A:=Int.ediv_le_self _ hA0
    have hsj:nB sh j=A / (k:Nat)+if (j:Int) < A % (k:Nat) then 1 else 0:=hsat j hjk
    simp only [MXA] at hA1
    refine aI Tryz.underlying56 ?_
    refine Bl hn0 ?_
    rw [hdv,f5 (by omega) (by omega)]
    refine aI Tryz.underlying56 ?_
    refine kV hn0 ?_
    rw [hmd]
    refine aD ?_
    refine pC ?_
    by_cases hjm:(j:Int) < A % (k:Nat)
    ·refine ai hjm ?_
     refine aF (by omega) (by omega) ?_
     refine kn ?_
     refine FL (x:=A / (k:Nat)+1) fun wy gy by_ sy => ?_
     refine apJ (hos.bel by_) gy (by omega) (by omega) fun a' c' wz hoz bz _ => ?_
     refine ko ?_
     refine aF (by omega) (by omega) ?_
     refine ⟨⟨j+1,a',c',rfl,congrArg (Value.int .i64) (by omega),by omega, ?_,(bu.trans (by_.mono hszu)).trans bz⟩,by rw [hm2]; show k - ((j:Int)+1).toNat < k - (j:Int).toNat; omega⟩
     rw [oe (by omega),hsj,if_pos hjm]; exact hoz
    ·refine ag hjm ?_
     refine kn ?_
     refine FL (x:=A / (k:Nat)) fun wy gy by_ sy => ?_
     refine apJ (hos.bel by_) gy (by omega) (by omega) fun a' c' wz hoz bz _ => ?_
     refine ko ?_
     refine aF (by omega) (by omega) ?_
     refine ⟨⟨j+1,a',c',rfl,congrArg (Value.int .i64) (by omega),by omega, ?_,(bu.trans (by_.mono hszu)).trans bz⟩,by rw [hm2]; show k - ((j:Int)+1).toNat < k - (j:Int).toNat; omega⟩
     rw [oe (by omega),hsj,if_neg hjm,Int.add_zero]; exact hoz
   ·refine ag (by omega) ?_
    obtain rfl:j=k:=by omega
    rw [List.take_of_length_le (by omega)] at hos
    refine pD ?_
    have hres:=h wu (.tuple #[.slice a j c,.slice a2 j c2,.slice a3 j c3,.bool true]) (BB.trans (bu.mono BB.size))
    rw [hlk2] at hres
    refine hres ⟨a,c,a2,c2,a3,c3, ?_, ?_, ?_, ?_, ?_,by rw [hhl,hshl]⟩
    ·exact ((ho.mono B4.size).bel bb).bel bu
    ·rw [hhl]; exact ON.mono' (hoj.bel bu) (by have:=B5.size; omega)
    ·rw [hshl]; exact ON.mono' hos BB.size
    ·rw [hhl]; intro q1 hq1 q2 hq2
     have:=(World.ownsRow.lt hoj q1 hq1).1
     have:=(World.ownsRow.lt ho q2 hq2).2
     omega
    ·rw [hhl,hshl]; intro q1 hq1 q2 hq2
     have:=(World.ownsRow.lt hos q1 hq1).1
     have:=(World.ownsRow.lt hoj q2 hq2).2
     omega
end
end Go.Proofs.YtgpfkmdknlcemaaGreatDoor
namespace Go.Proofs.YtgpfkmdknlcemaaGreatDoor
set_option maxRecDepth 100000
open Go.RowKit
attribute [local irreducible] bin un conv call bl blt slc aa fld af idx lkp bL bP eSt rng nxt ent ext alc box bld aJ ld sto aj bm mkS ifc pick rdy wts au sti cond aH Gives ac aW bA cOp
section
variable {w:World} {K:KV}
set_option maxHeartbeats 2000000 in
theorem CN {s:STA} {id i:Int} (hs:SK w s) (h:∀ w',Below w.heap.size w w'→K (iv (jV s id i)) w'):call Tryz.prog 20 #[.agg (saC s).toArray,.int .u64 id,.int .i64 i] K w:=by
 refine aE sE (sD ?_)
 refine bh fun w1 hb b1 s1 => ?_
 have hb:blk w1 w.heap.size 30 (saC s):=by simpa [Value.cells] using hb
 have cutS:((saC s).drop 0).take 20=saC s:=by rw [List.drop_zero,List.take_of_length_le (by rw [hs.len]; omega)]
 refine ldA (n:=20) (vs:=saC s) Tryz.underlying30 rfl (by kernel_rfl) hb cutS hs.len <|zR (hs.bel b1 (Nat.le_refl _)) fun w2 v b2 hv => ?_
 have B2:Below w.heap.size w w2:=b1.trans (b2.mono (by omega))
 have hlp := @oM s id
 have hll:(bS s.I s.L 6).length≤6:=iV _ _ 6
 have hres:=h w2 B2
 unfold ShR at hv
 cases hq:eO s id with
 | none =>
  rw [hq] at hv
  subst hv
  refine vz <|vA <|vB <|vC <|kA (Inv:=fun kv _ wr=>kv=.int .i64 0∧wr=w2) (μ:=fun _ _ _=>0) ⟨rfl,rfl⟩ ?_
  rintro _ _ dd _ m ⟨rfl,rfl⟩ hmm
  refine aI Tryz.underlying56 <|aD <|eK (by omega) <|bt (by omega) <|cW <|kB ?_
  unfold jV at hres
  rw [hq] at hres
  exact hres
 | some p =>
  obtain ⟨has,sh⟩:=p
  rw [hq] at hv
  have hln:=hlp hq
  have hsp:jV s id i=sh.getD ((bS s.I s.L 6).findIdx (· == i)) 0:=by unfold jV; rw [hq]
  obtain ⟨a,c,a2,c2,a3,c3,ho,hoh,hos,_,_,rfl⟩:=hv
  refine vz <|vA <|vB <|vC ?_
  generalize bS s.I s.L 6=lv at *
  generalize hn:lv.length=n at *
  have hrv:RV w2 a n c (lv.map iv):=OV.rv ho
  have hsv:RV w2 a3 sh.length c3 (sh.map iv):=OV.rv hos
  refine kA (Inv:=fun kv _ wr => ∃ k:Nat,kv=.int .i64 (k:Nat)∧k≤n∧wr=w2∧∀ j,j < k→nB lv j≠i) (μ:=fun kv _ _=>n - (intOf kv).toNat) ⟨0,rfl,by omega,rfl,fun j hj=>by omega⟩ ?_
  rintro _ _ dd _ m ⟨k,rfl,hk,rfl,hall⟩ hmm
  refine aI Tryz.underlying56 <|aD ?_
  by_cases hkn:k < n
  ·refine dz (by omega) <|bp (by omega) <|aR <|fD Tryz.underlying56 (fun _=>by kernel_rfl) (by omega) (by omega) hrv.some_ ?_
   rw [Int.toNat_natCast]
   have hxk:(lv.map iv)[k]? = some (iv (nB lv k)):=by simp [nB,List.getD,show k < lv.length by omega]
   refine dp (fun _=>by kernel_rfl) (hrv.cell _ _ hxk) ?_
   unfold iv
   refine aN ?_
   by_cases he:nB lv k=i
   ·refine ai he <|fD Tryz.underlying115 (fun _=>by kernel_rfl) (by omega) (by omega) hsv.some_ ?_
    rw [Int.toNat_natCast]
    have hsk:(sh.map iv)[k]? = some (iv (nB sh k)):=by simp [nB,List.getD,show k < sh.length by omega]
    refine dp (fun _=>by kernel_rfl) (hsv.cell _ _ hsk) ?_
    rw [hsp,wg (by omega) he hall] at hres
    exact hres
   ·refine ag he <|aF (by omega) (by omega) ?_
    refine ⟨⟨k+1,by simp,by omega,rfl,fun j hj => ?_⟩,by rw [hmm]; simp [intOf]; omega⟩
    by_cases hjk:j=k
    ·subst hjk; exact he
    ·exact hall j (by omega)
  ·refine eK (by omega) <|bt (by omega) <|cW ?_
   obtain rfl:k=n:=by omega
   refine kB ?_
   rw [hsp,wh (fun j hj=>hall j (by omega)),hn,show sh.getD k 0=0 by simp [List.getD,show sh.length≤k by omega]] at hres
   exact hres
end
end Go.Proofs.YtgpfkmdknlcemaaGreatDoor
namespace Go.Proofs.YtgpfkmdknlcemaaGreatDoor
set_option maxRecDepth 100000
def u6 (x:Int):Value:=.int .u64 x
def uC (x:Int):List Value:=[u6 x]
theorem xy (l:List Int):l.flatMap uC=l.map u6:=by induction l <;> simp_all [uC]
open Go.RowKit Go.ChangeMaps
def slN:Value→Nat
 | .slice _ n _=>n
 | _=>0
theorem bN {p B:Nat} {w0 w w':World} (hb:Below B w0 w) (h:Oth p w w') (hB:B≤p):Below B w0 w':=⟨h.os.trans hb.os,h.tape.trans hb.tape,h.output.trans hb.output,by rw [h.size]; exact hb.size,fun k hk=>by rw [h.other k (by omega)]; exact hb.block k hk⟩
theorem xz {α:Type} {enc:α→List Value} {s:Nat} (hs:∀ x,(enc x).length=s):∀ (L:List α) (i:Nat) (x:α) (j:Nat),L[i]? = some x→j < s→(L.flatMap enc)[i * s+j]? = (enc x)[j]?
 | [],i,x,j,h,_=>by simp at h
 | y::L,0,x,j,h,hj=>by
  simp at h; subst h
  rw [List.flatMap_cons,Nat.zero_mul,Nat.zero_add,List.getElem?_append_left (by rw [hs]; exact hj)]
 | y::L,i+1,x,j,h,hj=>by
  rw [List.flatMap_cons,List.getElem?_append_right (by rw [hs,Nat.succ_mul]; omega),hs,show (i+1) * s+j - s=i * s+j by rw [Nat.succ_mul]; omega]
  exact xz hs L i x j (by simpa using h) hj
section
variable {P:Program} {w:World} {K:KV} {α:Type} {enc:α→List Value} {L:List α} {s B n c i:Nat} {a:Option Addr} {t e:TypeId} {k:IntKind} {x:α}
theorem IJ (ht:P.underlying t=some (.slice e)) (hsz:∀ w,(sizeOf e).run P w=.ok s w) (hs:∀ x,(enc x).length=s) (hr:w.ownsRow B e s (.slice a n c) n (L.flatMap enc)) (hl:L.length=n) (hx:L[i]? = some x)
  (h:∀ g cur,a=some ⟨g,0,none⟩→blk w g e cur→(∀ j,j < s→cur[i * s+j]? = (enc x)[j]?)→K (.pointer (some ⟨g,i * s,none⟩)) w):af P t (.slice a n c) (.int k (i:Nat)) K w:=by
 have hi:i < n:=by rw [← hl]; exact (List.getElem?_eq_some_iff.1 hx).1
 rcases hr.2 with ⟨_,hz⟩ | ⟨g,cap,cur,hv,hg,hh,hn,hcm,hsz2,htk⟩
 ·omega
 simp only [Value.slice.injEq] at hv
 obtain ⟨rfl,_,rfl⟩:=hv
 refine bJ (s:=s) ht hsz (by omega) (by omega) ?_
 rw [Int.toNat_natCast,Nat.zero_add]
 refine h g cur.toList rfl hh (fun j hj => ?_)
 have hlt:i * s+j < n * s:=by
  have:(i+1) * s≤n * s:=Nat.mul_le_mul_right _ hi
  rw [Nat.succ_mul] at this
  omega
 rw [← xz hs L i x j hx hj, ← htk,List.getElem?_take_of_lt hlt]
theorem rd3 {f f':Nat} {ft:TypeId} {v:Value} {K3:Value→Value→Value→World→Prop} (ht:P.underlying t=some (.slice e)) (hsz:∀ w,(sizeOf e).run P w=.ok s w) (hs:∀ x,(enc x).length=s) (hna:∀ w,(isAgg ft).run P w=.ok false w) (hf:Cu P e f=some f')
  (hfs:f' < s) (hr:w.ownsRow B e s (.slice a n c) n (L.flatMap enc)) (hl:L.length=n) (hx:L[i]? = some x) (hv:(enc x)[f']? = some v) (h:∀ u1 u2,K3 u1 u2 v w) :
  af P t (.slice a n c) (.int k (i:Nat)) (fun u1 w=>aa P e u1 f (fun u2 w=>ld P ft u2 (fun u3 w=>K3 u1 u2 u3 w) w) w) w:=by
 refine IJ ht hsz hs hr hl hx ?_
 intro g cur ha hb hc
 refine aq hf <|ld1 hna hb (by rw [hc _ hfs]; exact hv) ?_
 exact h _ _
end
section
variable {P:Program} {w w':World} {K:KV} {t:TypeId} {g B n c s:Nat} {e:TypeId} {v:Value} {xs:List Value} {α:Type} {enc:α→List Value} {L:List α}
theorem IK {e ty:TypeId} {cs:Array Bool} {base:Nat} {i:TypeInfo} {z:Value} {bytes s:Nat} (ht:P.underlying t=some (.slice e)) (hi:P.info? e=some i) (hz:i.zero=some z)
  (hsize:i.size=s) (hby:i.bytes=bytes) (hzs:z.cells.size=s) (hs0:0 < s)
  {av:Option Addr} {n c:Nat} {xs:List Value} (hown:w.ownsRow base e s (.slice av n c) n xs) {g:Nat} {m c2:Nat} {ys:List Value} (hy:blk w g e ys) (hyl:ys.length=m * s) (h1:∀ u ∈ ys,u.oneCell'=true)
  (hbytes:(n+m) * bytes≤140737488355328) (h63:n+m≤9223372036854775807) (hbase:base≤w.heap.size)
  (h:∀ a' c' w',w'.ownsRow base e s (.slice a' (n+m) c') (n+m) (xs++ys)→w.grownBy w' (Value.slice av n c).ownBlock→((Value.slice a' (n+m) c').ownBlock=(Value.slice av n c).ownBlock∨(Value.slice a' (n+m) c').ownBlock=some w.heap.size)→K (.slice a' (n+m) c') w') :
  blt P .append #[t,t] ty cs #[.slice av n c,.slice (some ⟨g,0,none⟩) m c2] K w:=by
 have hn:∀ j u,ys[j]? = some u→w.cell? ((⟨g,0,none⟩:Addr).add j)=some u:=by
  intro j u hj
  rw [jI,hy.cell,Nat.zero_add]
  exact hj
 obtain ⟨v',w',hr,h2,h3,_,h5⟩:=run_append_own_at (P:=P) w base t ty e i z s bytes ht hi hz hsize hby hzs hs0 _ n xs hown ⟨g,0,none⟩ m c2 ys hyl hn h1 (by simp only [maxLen]; omega) hbytes hbase
 obtain ⟨a',c',rfl⟩:∃ a' c',v'=.slice a' (n+m) c':=by
  rcases h2.2 with ⟨hv,hn⟩ | ⟨g,cap,cur,hv,_⟩
  ·exact ⟨none,0,by rw [hv,hn]⟩
  ·exact ⟨_,cap,hv⟩
 exact gN (by rw [BigFrame.builtin_append]; simp only [Sem.run_bind,hr,Result.andThen_ok,Sem.run_pure]) (h a' c' w' h2 h3 h5)
structure Opn (w:World) (B:Nat) (e:TypeId) (s n c g:Nat) (cur:List Value) (xs:List Value):Prop where
 blk:blk w g e cur
 lo:B≤g
 nc:n≤c
 cm:c≤maxLen
 len:cur.length=c * s
 take:cur.take (n * s)=xs
 xl:xs.length=n * s
theorem aZ {a:Option Addr} (hr:w.ownsRow B e s (.slice a n c) n xs) (h0:0 < n):∃ g cur,a=some ⟨g,0,none⟩∧Opn w B e s n c g cur xs:=by
 rcases hr.2 with ⟨_,hz⟩ | ⟨g,cap,cur,hv,hg,hh,hn,hcm,hsz2,htk⟩
 ·omega
 simp only [Value.slice.injEq] at hv
 obtain ⟨rfl,_,rfl⟩:=hv
 exact ⟨g,cur.toList,rfl,hh,hg,hn,hcm,by simpa using hsz2,htk,hr.1⟩
theorem Opn.own {cur:List Value} (h:Opn w B e s n c g cur xs):w.ownsRow B e s (.slice (some ⟨g,0,none⟩) n c) n xs :=
 ⟨h.xl,.inr ⟨g,c,cur.toArray,rfl,h.lo,h.blk,h.nc,h.cm,by simpa using h.len,by simpa using h.take⟩⟩
theorem zS (hs:∀ x,(enc x).length=s):∀ L:List α,(L.flatMap enc).length=L.length * s
 | []=>by simp
 | x::L=>by rw [List.flatMap_cons,List.length_append,hs,zS hs L,List.length_cons,Nat.succ_mul]; omega
theorem zT (hs:∀ x,(enc x).length=s):∀ (L:List α) (i:Nat) (x:α),i < L.length→(L.flatMap enc).take (i * s)++enc x++(L.flatMap enc).drop (i * s+s)=(L.set i x).flatMap enc
 | [],i,x,h=>by simp at h
 | y::L,0,x,_=>by
  simp only [Nat.zero_mul,List.take_zero,List.nil_append,Nat.zero_add,List.set_cons_zero,List.flatMap_cons]
  rw [List.drop_append_of_le_length (by rw [hs]; exact Nat.le_refl _),List.drop_of_length_le (by rw [hs]; exact Nat.le_refl _),List.nil_append]
 | y::L,i+1,x,h=>by
  have ih:=zT hs L i x (by simpa using h)
  simp only [List.set_cons_succ,List.flatMap_cons]
  rw [← ih,Nat.succ_mul]
  have e1:i * s+s=(enc y).length+i * s:=by rw [hs]; omega
  have e2:i * s+s+s=(enc y).length+(i * s+s):=by rw [hs]; omega
  rw [e2,List.drop_length_add_append,e1,List.take_length_add_append]
  simp [List.append_assoc]
theorem Opn.set {cur:List Value} {i:Nat} {x:α} (hs:∀ x,(enc x).length=s) (h:Opn w B e s n c g cur (L.flatMap enc)) (hl:L.length=n) (hi:i < n) (hb:Go.Proofs.YtgpfkmdknlcemaaGreatDoor.blk w' g e (cur.take (i * s)++enc x++cur.drop (i * s+s))) :
  Opn w' B e s n c g (cur.take (i * s)++enc x++cur.drop (i * s+s)) ((L.set i x).flatMap enc):=by
 have h1:(i+1) * s≤n * s:=Nat.mul_le_mul_right _ hi
 have h2:n * s≤c * s:=Nat.mul_le_mul_right _ h.nc
 rw [Nat.succ_mul] at h1
 have hl2:=h.len
 refine ⟨hb,h.lo,h.nc,h.cm, ?_, ?_, ?_⟩
 ·simp only [List.length_append,List.length_take,List.length_drop,hs]; omega
 ·rw [← zT hs L i x (by omega), ← h.take]
  rw [List.take_append,List.take_append]
  simp only [List.length_append,List.length_take,hs]
  rw [List.take_take,List.take_of_length_le (l:=enc x) (by rw [hs]; omega)]
  rw [List.take_take,show min (n * s) (i * s)=i * s by omega,show min (i * s) (n * s)=i * s by omega,List.drop_take]
  congr 2
  omega
 ·rw [zS hs,List.length_set,hl]
theorem Opn.elem {cur:List Value} {i:Nat} {x:α} (hs:∀ x,(enc x).length=s) (h:Opn w B e s n c g cur (L.flatMap enc)) (hl:L.length=n) (hx:L[i]? = some x):(cur.drop (i * s)).take s=enc x:=by
 have hi:i < n:=by rw [← hl]; exact (List.getElem?_eq_some_iff.1 hx).1
 have h1:(i+1) * s≤n * s:=Nat.mul_le_mul_right _ hi
 rw [Nat.succ_mul] at h1
 have e:(cur.drop (i * s)).take s=((cur.take (n * s)).drop (i * s)).take s:=by
  rw [List.drop_take,List.take_take]; congr 1; omega
 rw [e,h.take]
 apply List.ext_getElem?
 intro j
 by_cases hj:j < s
 ·rw [List.getElem?_take_of_lt hj,List.getElem?_drop,xz hs L i x j hx hj]
 ·rw [List.getElem?_eq_none (by simp; omega),List.getElem?_eq_none (by rw [hs]; omega)]
theorem zU {k:Nat} {E E':TypeId} {cs cs':List Value} (h:blk w k E cs) (h':blk w k E' cs'):E=E':=by
 unfold blk at h h'; rw [h] at h'; simp only [Option.some.injEq,Obj.cells.injEq] at h'; exact h'.2.1
theorem Opn.cell {cur:List Value} {i j:Nat} {x:α} (hs:∀ x,(enc x).length=s) (h:Opn w B e s n c g cur (L.flatMap enc)) (hl:L.length=n) (hx:L[i]? = some x) (hj:j < s):cur[i * s+j]? = (enc x)[j]? := by
 rw [← h.elem hs hl hx,List.getElem?_take_of_lt hj,List.getElem?_drop]
theorem Opn.set1 {cur:List Value} {i j:Nat} {x x':α} {v:Value} (hs:∀ x,(enc x).length=s) (h:Opn w B e s n c g cur (L.flatMap enc)) (hl:L.length=n) (hx:L[i]? = some x) (hj:j < s) (hv:(enc x).set j v=enc x') (hb:Go.Proofs.YtgpfkmdknlcemaaGreatDoor.blk w' g e (cur.set (i * s+j) v)) :
  Opn w' B e s n c g (cur.set (i * s+j) v) ((L.set i x').flatMap enc):=by
 have hi:i < n:=by rw [← hl]; exact (List.getElem?_eq_some_iff.1 hx).1
 have h1:(i+1) * s≤n * s:=Nat.mul_le_mul_right _ hi
 have h2:n * s≤c * s:=Nat.mul_le_mul_right _ h.nc
 rw [Nat.succ_mul] at h1
 have hcl:=h.len
 have e1:cur=cur.take (i * s)++(enc x++cur.drop (i * s+s)):=by
  rw [← h.elem hs hl hx]
  have:cur.drop (i * s+s)=(cur.drop (i * s)).drop s:=by rw [List.drop_drop]
  rw [this,List.take_append_drop,List.take_append_drop]
 have e2:cur.set (i * s+j) v=cur.take (i * s)++enc x'++cur.drop (i * s+s):=by
  have hlt:(cur.take (i * s)).length=i * s:=by rw [List.length_take]; omega
  conv=>lhs; rw [e1]
  rw [List.set_append_right _ _ (by rw [hlt]; omega),hlt,show i * s+j - i * s=j by omega,List.set_append_left _ _ (by rw [hs]; exact hj),hv,List.append_assoc]
 rw [e2] at hb ⊢
 exact h.set hs hl hi hb
theorem gQ {a:Option Addr} {i:Nat} {k:IntKind} (ha:a=some ⟨g,0,none⟩) (ht:P.underlying t=some (.slice e)) (hsz:∀ w,(sizeOf e).run P w=.ok s w) (hi:i < n) (h:K (.pointer (some ⟨g,i * s,none⟩)) w):af P t (.slice a n c) (.int k (i:Nat)) K w:=by
 subst ha
 refine bJ (s:=s) ht hsz (by omega) (by omega) ?_
 rw [Int.toNat_natCast,Nat.zero_add]; exact h
theorem GD {K2:Value→KV} {a:Option Addr} {i:Nat} {x:α} {k:IntKind} {d:TypeDesc} (ht:P.underlying t=some (.slice e)) (hsz:∀ w,(sizeOf e).run P w=.ok s w) (hu:P.underlying e=some d) (hd:d.isRow=true) (hi:(P.info? e).map (·.size)=some s)
  (hs:∀ x,(enc x).length=s) (hr:w.ownsRow B e s (.slice a n c) n (L.flatMap enc)) (hl:L.length=n) (hx:L[i]? = some x) (h:∀ u,K2 u (.agg (enc x).toArray) w) :
  af P t (.slice a n c) (.int k (i:Nat)) (fun u w=>ld P e u (K2 u) w) w:=by
 have hin:i < n:=by rw [← hl]; exact (List.getElem?_eq_some_iff.1 hx).1
 obtain ⟨g,cur,rfl,ho⟩:=aZ hr (by omega)
 refine bJ (s:=s) ht hsz (by omega) (by omega) ?_
 rw [Int.toNat_natCast,Nat.zero_add]
 refine ldA (n:=s) (vs:=enc x) hu hd hi ho.blk (ho.elem hs hl hx) (hs x) (h _)
theorem bO {T:List TypeId} {B B2:Nat} {w w':World} {E:TypeId} {s:Nat} {v:Value} {n:Nat} {xs:List Value} (h:w.ownsRow B2 E s v n xs) (hk:Keep T B w w') (hE:E ∉ T):w'.ownsRow B2 E s v n xs:=by
 refine ⟨h.1, ?_⟩
 rcases h.2 with h2 | ⟨g,cap,cur,hv,hb,hh,r⟩
 ·exact .inl h2
 ·exact .inr ⟨g,cap,cur,hv,hb,hk.block _ _ hh (.inr fun cs E' z e=>by cases e; exact hE),r⟩
theorem bR {w w':World} {p B s n:Nat} {E E':TypeId} {v:Value} {xs cs:List Value} (h:w.ownsRow B E s v n xs) (hp:Go.Proofs.YtgpfkmdknlcemaaGreatDoor.blk w p E' cs) (hE:E'≠E) (ho:Oth p w w'):w'.ownsRow B E s v n xs :=
 bj h fun k hk=>ho.other k (by
  rintro rfl
  rcases h.2 with ⟨hv,_⟩ | ⟨g,cap,cur,hv,_,hc,_⟩
  ·rw [hv] at hk; cases hk
  ·have e1:g=k:=by rw [hv] at hk; simpa [Value.ownBlock] using hk
   rw [e1] at hc; unfold Go.Proofs.YtgpfkmdknlcemaaGreatDoor.blk at hp; rw [hc] at hp
   simp only [Option.some.injEq,Obj.cells.injEq] at hp
   exact hE hp.2.1.symm)
theorem gh {w w':World} {B B2 s s2 n n2:Nat} {E E2:TypeId} {v v2:Value} {xs xs2:List Value} (h:w.ownsRow B E s v n xs) (h2:w.ownsRow B2 E2 s2 v2 n2 xs2) (hE:E≠E2) (hg:w.grownBy w' v2.ownBlock):w'.ownsRow B E s v n xs:=by
 refine bj h fun k hk=>hg.block k (World.ownsRow.lt h k hk).2 (fun hh => ?_)
 rcases h.2 with ⟨hv,_⟩ | ⟨g,cap,cur,hv,_,hc,_⟩
 ·rw [hv] at hk; cases hk
 ·rcases h2.2 with ⟨hv2,_⟩ | ⟨g2,cap2,cur2,hv2,_,hc2,_⟩
  ·rw [hv2] at hh; cases hh
  ·have e1:g=k:=by rw [hv] at hk; simpa [Value.ownBlock] using hk
   have e2:g2=k:=by rw [hv2] at hh; simpa [Value.ownBlock] using hh.symm
   rw [e1] at hc; rw [e2,hc] at hc2
   simp only [Option.some.injEq,Obj.cells.injEq] at hc2
   exact hE hc2.2.1
theorem dv {w w':World} {p B s n:Nat} {E E':TypeId} {v:Value} {xs cs:List Value} (hp:Go.Proofs.YtgpfkmdknlcemaaGreatDoor.blk w p E' cs) (h:w.ownsRow B E s v n xs) (hE:E'≠E) (hg:w.grownBy w' v.ownBlock):Go.Proofs.YtgpfkmdknlcemaaGreatDoor.blk w' p E' cs:=by
 unfold Go.Proofs.YtgpfkmdknlcemaaGreatDoor.blk at hp ⊢
 rw [hg.block p (Go.Proofs.YtgpfkmdknlcemaaGreatDoor.blk.lt hp) (fun hh => ?_)]
 ·exact hp
 ·rcases h.2 with ⟨hv,_⟩ | ⟨g,cap,cur,hv,_,hc,_⟩
  ·rw [hv] at hh; cases hh
  ·have e1:g=p:=by rw [hv] at hh; simpa [Value.ownBlock] using hh.symm
   rw [e1,hp] at hc
   simp only [Option.some.injEq,Obj.cells.injEq] at hc
   exact hE hc.2.1
theorem ka {e ty:TypeId} {cs:Array Bool} {base:Nat} {i:TypeInfo} {z:Value} {bytes s:Nat} {L:List α} {x:α} {av:Option Addr} {n c g c2:Nat} (ht:P.underlying t=some (.slice e)) (hi:P.info? e=some i) (hz:i.zero=some z)
  (hsize:i.size=s) (hby:i.bytes=bytes) (hzs:z.cells.size=s) (hs0:0 < s) (hs:∀ x,(enc x).length=s) (hown:w.ownsRow base e s (.slice av n c) n (L.flatMap enc)) (hy:Go.Proofs.YtgpfkmdknlcemaaGreatDoor.blk w g e (enc x)) (h1:∀ u ∈ enc x,u.oneCell'=true)
  (hbytes:(n+1) * bytes≤140737488355328) (h63:n+1≤9223372036854775807) (hbase:base≤w.heap.size)
  (h:∀ a' c' w',w'.ownsRow base e s (.slice a' (n+1) c') (n+1) ((L++[x]).flatMap enc)→w.grownBy w' (Value.slice av n c).ownBlock→Below base w w'→((Value.slice a' (n+1) c').ownBlock=(Value.slice av n c).ownBlock∨(Value.slice a' (n+1) c').ownBlock=some w.heap.size)→K (.slice a' (n+1) c') w') :
  blt P .append #[t,t] ty cs #[.slice av n c,.slice (some ⟨g,0,none⟩) 1 c2] K w:=by
 refine IK (m:=1) (ys:=enc x) ht hi hz hsize hby hzs hs0 hown hy (by rw [hs]; omega) h1 hbytes h63 hbase fun a' c' w' h2 h3 h4 => ?_
 refine h a' c' w' ?_ h3 (ce h3 hbase (fun k hk=>(World.ownsRow.lt hown k hk).1)) h4
 rw [List.flatMap_append]
 simpa using h2
theorem DL {K:KV} {T:TypeId} {N t:Nat} {cs0 cs:List Value} {v:Value} {d:TypeDesc} (hu:P.underlying T=some d) (hd:d.isRow=true) (hi:(P.info? T).map (·.size)=some N) (ht:Go.Proofs.YtgpfkmdknlcemaaGreatDoor.blk w t T cs0) (h0:cs0.length=N) (hl:cs.length=N) (h1:∀ v ∈ cs,v.oneCell'=true)
  (h:∀ w',Oth t w w'→K (.tuple #[.agg cs.toArray,v]) w') :
  sto P T (.pointer (some ⟨t,0,none⟩)) (.agg cs.toArray) (fun _t w=>aH P [(some T,.pointer (some ⟨t,0,none⟩)),(none,v)] K w) w:=by
 refine eM (n:=N) (vs:=cs) hi hl ht (by omega) h1 fun w1 hq1 o1 => ?_
 have hq1:Go.Proofs.YtgpfkmdknlcemaaGreatDoor.blk w1 t T cs:=by
  rw [List.take_zero,List.nil_append,List.drop_of_length_le (by omega),List.append_nil] at hq1
  exact hq1
 have hr:=run_loadVar_mid (P:=P) w1 t 0 T cs _ (fun j v hj=>by rw [hq1.cell,Nat.zero_add]; exact hj) hu hd (by rw [hl]; exact hi)
 have e:(dD [(some T,.pointer (some ⟨t,0,none⟩)),(none,v)]).run P w1=.ok (.tuple #[.agg cs.toArray,v]) w1:=by
  simp [dD,asAddr,Sem.run_bind,hr]
 unfold aH
 rw [e]
 exact ⟨rfl,h w1 o1⟩
theorem Opn.sto {K:KV} {cur:List Value} {i:Nat} {x:α} (hs:∀ x,(enc x).length=s) (op:Opn w B e s n c g cur (L.flatMap enc)) (hl:L.length=n) (hi:i < n) (hf:(P.info? e).map (·.size)=some s) (h1:∀ v ∈ enc x,v.oneCell'=true)
  (h:∀ w',Oth g w w'→w'.ownsRow B e s (.slice (some ⟨g,0,none⟩) n c) n ((L.set i x).flatMap enc)→K undef w'):sto P e (.pointer (some ⟨g,0+((i:Nat):Int).toNat * s,none⟩)) (.agg (enc x).toArray) K w:=by
 have hi1:(i+1) * s≤n * s:=Nat.mul_le_mul_right _ hi
 have hi2:n * s≤c * s:=Nat.mul_le_mul_right _ op.nc
 rw [Nat.succ_mul] at hi1
 have hcl:=op.len
 rw [Int.toNat_natCast,Nat.zero_add]
 refine eM (n:=s) (vs:=enc x) hf (hs x) op.blk (by omega) h1 fun w' hb ho => ?_
 exact h w' ho (Opn.own (Opn.set hs op hl hi hb))
end
end Go.Proofs.YtgpfkmdknlcemaaGreatDoor
namespace Go.Proofs.YtgpfkmdknlcemaaGreatDoor
set_option maxRecDepth 100000
open Go.RowKit
section
variable {P:Program} {K:KV} {w:World} {t:TypeId}
theorem GE {ats:Array TypeId} {ty:TypeId} {cs:Array Bool} {k k':IntKind} {x y:Int} (h:K (.int k (if y < x then y else x)) w):blt P .min ats ty cs #[.int k x,.int k' y] K w :=
 gN (v:=.int k (if y < x then y else x)) (w':=w) (by rw [BigFrame.builtin_min]; simp [Builtin.min_,Builtin.min2,Sem.run_pure]) h
end
section
variable {P:Program} {t:TypeId} {w:World} {K:KV} {cx cy:Bool}
end
end Go.Proofs.YtgpfkmdknlcemaaGreatDoor
namespace Go.Proofs.YtgpfkmdknlcemaaGreatDoor
set_option maxRecDepth 100000
open Go.RowKit
def mvC (m:Int × Int × Int):List Value:=[iv m.1,iv m.2.1,iv m.2.2]
theorem np (m:Int × Int × Int):(mvC m).length=3:=rfl
theorem xA (m:Int × Int × Int):∀ u ∈ mvC m,u.oneCell'=true:=by simp [mvC,iv,Value.oneCell']
theorem IL {h:List Int} {i n:Nat} {x:Int} (hi:i < n) (hn:n≤6) (hl:h.length=n):(hK h n).set i (iv x)=hK (h.set i x) n:=by
 apply List.ext_getElem?
 intro j
 by_cases hj:j < 6
 ·rw [List.getElem?_set]
  by_cases hij:i=j
  ·subst hij
   rw [if_pos rfl,if_pos (by rw [eP]; omega),wi hj hi,pj (by omega),if_pos rfl]
  ·rw [if_neg hij]
   by_cases hjn:j < n
   ·rw [wi hj hjn,wi hj hjn,pj (by omega),if_neg (by omega)]
   ·simp [hK,hj,hjn]
 ·rw [List.getElem?_eq_none (by simp [eP]; omega),List.getElem?_eq_none (by rw [eP]; omega)]
theorem HB {a:Option Addr} {n c i:Nat} {cnt x:Int} {h:List Int} {S:List Value} (hi:i < n) (hn:n≤6) (hl:h.length=n):(cP a n c cnt (hK h n) S).set (2+i) (iv x)=cP a n c cnt (hK (h.set i x) n) S:=by
 rw [← IL hi hn hl]
 unfold cP
 rw [show 2+i=i+1+1 by omega,List.set_cons_succ,List.set_cons_succ,List.set_append_left _ _ (by rw [eP]; omega)]
def kD (l:List Int):Prop := ∀ k,0≤nB l k∧nB l k≤MXA+1
theorem IM {l:List Int} {k:Nat} (hk:k < l.length):nB l k ∈ l:=by
 rw [show nB l k=l[k] by simp [nB,List.getD,hk]]; exact List.getElem_mem hk
theorem DM {l:List Int} {k:Nat} (hk : ¬ k < l.length):nB l k=0:=by simp [nB,List.getD,show l.length≤k by omega]
theorem yo {s:STA} {id:Int} {has sh:List Int} (h:eO s id=some (has,sh)):kD has∧kD sh:=by
 unfold eO at h
 cases hx:s.nodes[posN s.nodes id]? with
 | none=>rw [hx] at h; cases h
 | some x =>
  cases hl:bS s.I s.L 6 with
  | nil=>rw [hx,hl] at h; cases h
  | cons i r =>
   rw [hx,hl] at h
   simp only at h
   split at h
   ·cases h
   ·rename_i all ha
    cases h
    obtain ⟨a1,a2,a3⟩:=Bs (Int.le_refl 0) (by decide) ha
    refine ⟨fun k => ?_,fun k => ?_⟩
    ·by_cases hk:k < (iS x.A (i::r)).length
     ·have:=a3 _ (IM hk); omega
     ·rw [DM hk]; exact ⟨Int.le_refl _,by decide⟩
    ·by_cases hk:k < (shL all (i::r).length).length
     ·rw [xB] at hk
      rw [Ac hk]
      unfold shr
      have hc:(0:Int) < ((i::r).length:Nat):=by rw [List.length_cons]; omega
      have h1:=Int.ediv_nonneg a1 (Int.le_of_lt hc)
      have h2:all / (((i::r).length:Nat):Int)≤all:=Int.ediv_le_self _ a1
      split <;> omega
     ·rw [DM hk]; exact ⟨Int.le_refl _,by decide⟩
theorem DN {h s:List Int} {i j:Nat} (hh:kD h) (hs:kD s) (hi:i < h.length) (hj:j < h.length) (hr:dq h s i=true) (hp:di h s j=true):kD (mvH h i j (mvX h s i j)):=by
 have hij:i≠j:=by
  rintro rfl
  have h1:=of_decide_eq_true hr
  have h2:=of_decide_eq_true hp
  omega
 have h1:=of_decide_eq_true hr
 have h2:=of_decide_eq_true hp
 intro k
 rw [yS hi hj hij]
 have a:=hh i
 have b:=hh j
 have c:=hh k
 have d:=hs i
 have e:=hs j
 have hx:mvX h s i j≤nB h i - nB s i∧mvX h s i j≤nB s j - nB h j∧0 < mvX h s i j:=⟨Int.min_le_left _ _,Int.min_le_right _ _,xt hr hp⟩
 split
 ·omega
 ·split <;> omega
structure MG (w0 w:World) (r:Nat) (a:Option Addr) (n c:Nat) (lv h sh:List Int) (ao:Option Addr) (co:Nat) (O:List (Int × Int × Int)):Prop where
 row:blk w r 108 (cP a n c n (hK h n) (hK sh n))
 lvs:ON w w0.heap.size a n c lv
 out:w.ownsRow w0.heap.size 69 3 (.slice ao O.length co) O.length (O.flatMap mvC)
 bel:Below w0.heap.size w0 w
 lo:w0.heap.size≤r
theorem MG.fresh {w0 w w':World} {r n c co:Nat} {a ao:Option Addr} {lv h sh:List Int} {O:List (Int × Int × Int)} (g:MG w0 w r a n c lv h sh ao co O) (hb:Below w.heap.size w w'):MG w0 w' r a n c lv h sh ao co O :=
 ⟨ae hb g.row g.row.lt,bj g.lvs fun k hk=>hb.block k (World.ownsRow.lt g.lvs k hk).2,bj g.out fun k hk=>hb.block k (World.ownsRow.lt g.out k hk).2,g.bel.trans (hb.mono g.bel.size),g.lo⟩
theorem MG.drew {w0 w:World} {r n c co:Nat} {a ao:Option Addr} {lv h sh:List Int} {O:List (Int × Int × Int)} (g:MG w0 w r a n c lv h sh ao co O):MG w0 w.drew r a n c lv h sh ao co O:=g.fresh (Below.refl _ w).drew
attribute [local irreducible] bin un conv call bl blt slc aa fld af idx lkp bL bP eSt rng nxt ent ext alc box bld aJ ld sto aj bm mkS ifc pick rdy wts au sti cond aH Gives ac aW bA cOp
section
variable {w:World} {K:KV}
theorem MG.sto {w0:World} {r n c co i:Nat} {a ao:Option Addr} {lv h sh:List Int} {O:List (Int × Int × Int)} {x:Int} (g:MG w0 w r a n c lv h sh ao co O) (hi:i < n) (hn:n≤6) (hl:h.length=n)
  (hk:∀ w',MG w0 w' r a n c lv (h.set i x) sh ao co O→K undef w'):sto Tryz.prog 2 (.pointer (some ⟨r,0+2+((i:Nat):Int).toNat * 1,none⟩)) (iv x) K w:=by
 rw [Int.toNat_natCast,Nat.mul_one,Nat.zero_add]
 refine eD (fun _=>by kernel_rfl) g.row (by rw [kq (eP _ _) (eP _ _)]; omega) rfl fun w' hb ho => ?_
 rw [HB hi hn hl] at hb
 exact hk w' ⟨hb,bR g.lvs g.row (by decide) ho,bR g.out g.row (by decide) ho,bN g.bel ho g.lo,g.lo⟩
theorem MG.ldH {w0:World} {K2:Value→KV} {r n c co i:Nat} {a ao:Option Addr} {lv h sh:List Int} {O:List (Int × Int × Int)} (g:MG w0 w r a n c lv h sh ao co O) (hi:i < n) (hn:n≤6) (hk:K2 (.pointer (some ⟨r,0+2+((i:Nat):Int).toNat * 1,none⟩)) (iv (nB h i)) w) :
  af Tryz.prog 33 (.pointer (some ⟨r,0+2,none⟩)) (.int .i64 (i:Nat)) (fun t w=>ld Tryz.prog 2 t (K2 t) w) w:=by
 refine aT Tryz.underlying33 (s:=1) (fun _=>by kernel_rfl) (by omega) (by omega) ?_
 exact ld1 (fun _=>by kernel_rfl) g.row (by rw [show 0+2+((i:Nat):Int).toNat * 1=2+i by omega]; exact CL (by omega) hi) hk
variable {w0:World} {r n c co:Nat} {a ao:Option Addr} {lv h0 sh:List Int} {id:Int} {s:STA}
theorem DO:(Tryz.prog.info? 69).map (fun i=>(i.zero,i.size,i.bytes))=some (some (.agg #[iv 0,iv 0,iv 0]),3,24):=by kernel_rfl
theorem yU {lv:List Int} {k n:Nat} (hl:lv.length=n) (hk:k < n):(lv.map iv)[k]? = some (iv (nB lv k)):=by simp [nB,List.getD,show k < lv.length by omega]
variable {hh:List Int} {ao:Option Addr} {O:List (Int × Int × Int)}
set_option maxHeartbeats 8000000 in
theorem zV {s0 node1 s2 node3 t4 r5 is6 out7 rich8 poor9 x10 t11 t12 t13 t14 t15 t16 t17 t18 t19 t20 t21 t22 t23 t24 t25 t26 t27 t28 t29 t30 t31 t32 t33 t34 t35 t36 t37 t38 t39 t40 t41 t42 t43 t44 t45 t46 t47 t48 t49 t50 t51 t52 t53 t54 t55 t56 t57 t58 t59 t60 t61 t62 t63 t64 t65 t66 t67 t68 t69 t70 t71 t72 t73 t74 t75 t76 t77 t78 t79 t80 t81 t82 t83 t84 t85 t86 t87 t88 t89 t90 t91 t92 t93 t94 t95 t96 t97 t98 t99 t100 t101 t102 t103 t104 t105 t106 t107 t108 t109 t110 t111 t112 t113 : Value} {B1 : KE} {i j : Nat} (hn : n ≤ 6) (hlv : lv.length = n) (hhl : hh.length = n) (hsl : sh.length = n) (hb : kD hh) (hbs : kD sh) (hO : O.length ≤ 100) (g : MG w0 w r a n c lv hh sh ao co O)
    (hi : fs (dq hh sh) n 0 = i) (hj : fs (di hh sh) n 0 = j) (e1 : r5 = .pointer (some ⟨r, 0, none⟩)) (e2 : out7 = .slice ao O.length co) (e3 : rich8 = .int .i64 (i : Nat)) (e4 : poor9 = .int .i64 (j : Nat))
    (hdone : fI hh sh = [] → K (.slice ao O.length co) w)
    (hnext : ∀ (e2 : List Value) (w2 : World) (ao' : Option Addr) (co' : Nat), i < n → j < n → fI hh sh = (i, j, mvX hh sh i j) :: fI (mvH hh i j (mvX hh sh i j)) sh → odd (mvH hh i j (mvX hh sh i j)) sh < odd hh sh → gd e2 7 = .slice ao' (O.length + 1) co' → gd e2 8 = .int .i64 (i : Nat) → gd e2 9 = .int .i64 (j : Nat) →
      MG w0 w2 r a n c lv (mvH hh i j (mvX hh sh i j)) sh ao' co' (O ++ [(nB lv i, nB lv j, mvX hh sh i j)]) → B1 e2 w2) :
    eY K B1 ((s0 :: node1 :: s2 :: node3 :: t4 :: r5 :: is6 :: out7 :: rich8 :: poor9 :: x10 :: t11 :: t12 :: t13 :: t14 :: t15 :: t16 :: t17 :: t18 :: t19 :: t20 :: t21 :: t22 :: t23 :: t24 :: t25 :: t26 :: t27 :: t28 :: t29 :: t30 :: t31 :: t32 :: t33 :: t34 :: t35 :: t36 :: t37 :: t38 :: t39 :: t40 :: t41 :: t42 :: t43 :: t44 :: t45 :: t46 :: t47 :: t48 :: t49 :: t50 :: t51 :: t52 :: t53 :: t54 :: t55 :: t56 :: t57 :: t58 :: t59 :: t60 :: t61 :: t62 :: t63 :: t64 :: t65 :: t66 :: t67 :: t68 :: t69 :: t70 :: t71 :: t72 :: t73 :: t74 :: t75 :: t76 :: t77 :: t78 :: t79 :: t80 :: t81 :: t82 :: t83 :: t84 :: t85 :: t86 :: t87 :: t88 :: t89 :: t90 :: t91 :: t92 :: t93 :: t94 :: t95 :: t96 :: t97 :: t98 :: t99 :: t100 :: t101 :: t102 :: t103 :: t104 :: t105 :: t106 :: t107 :: t108 :: t109 :: t110 :: t111 :: t112 :: t113 :: [])) w := by
  subst e1 e2 e3 e4
  have s1 := fQ (p := dq hh sh) (n := n) _ 0 rfl (Nat.zero_le _)
  have s2 := fQ (p := di hh sh) (n := n) _ 0 rfl (Nat.zero_le _)
  rw [hi] at s1
  rw [hj] at s2
  refine wt ?_
  refine iW ?_
  refine ld1 (v := .int .i64 (n : Nat)) (fun _ => by kernel_rfl) g.row rfl ?_
  refine aN ?_
  by_cases hin : i = n
  · have hin' : ((i : Nat) : Int) = n := by omega
    refine de hin' ?_
    refine bp hin' ?_
    refine aR ?_
    exact hdone (qi (by rw [hsl]; left; omega))
  have hin' : ¬ ((i : Nat) : Int) = n := by omega
  refine cE hin' ?_
  refine iW ?_
  refine ld1 (v := .int .i64 (n : Nat)) (fun _ => by kernel_rfl) g.row rfl ?_
  refine aN ?_
  refine bt hin' ?_
  by_cases hjn : j = n
  · have hjn' : ((j : Nat) : Int) = n := by omega
    refine ai hjn' ?_
    exact hdone (qi (by rw [hsl]; right; omega))
  have hjn' : ¬ ((j : Nat) : Int) = n := by omega
  refine ag hjn' ?_
  have hi6 : i < n := by omega
  have hj6 : j < n := by omega
  have hr := s1.2.2.2 hi6
  have hp := s2.2.2.2 hj6
  have hstep := yk (h := hh) (s := sh) (i := i) (j := j) (by omega) (by rw [hsl]; exact hi) (by rw [hsl]; exact hj) (by omega) (by omega)
  have hodd := sc (h := hh) (s := sh) (by omega) (show i < sh.length by omega) (show j < sh.length by omega) hr hp
  have hij : i ≠ j := by
    rintro rfl
    have h1 := of_decide_eq_true hr
    have h2 := of_decide_eq_true hp
    omega
  have b1 := hb i
  have b2 := hb j
  have b3 := hbs i
  have b4 := hbs j
  have hM : MXA = 1125899906842624 := rfl
  rw [hM] at b1 b2 b3 b4
  have hx : mvX hh sh i j ≤ nB hh i - nB sh i ∧ mvX hh sh i j ≤ nB sh j - nB hh j ∧ 0 < mvX hh sh i j := ⟨Int.min_le_left _ _, Int.min_le_right _ _, xt hr hp⟩
  have rowH : ∀ {x : World}, blk x r 108 (cP a n c n (hK hh n) (hK sh n)) → ∀ {k : Nat}, k < n → ∀ (K : KV), K (iv (nB hh k)) x → ld Tryz.prog 2 (.pointer (some ⟨r, 0 + 2 + ((k : Nat) : Int).toNat * 1, none⟩)) K x := fun hx k hk K hK =>
    ld1 (fun _ => by kernel_rfl) hx (by rw [show 0 + 2 + ((k : Nat) : Int).toNat * 1 = 2 + k by omega]; exact CL (by omega) hk) hK
  have rowS : ∀ {x : World}, blk x r 108 (cP a n c n (hK hh n) (hK sh n)) → ∀ {k : Nat}, k < n → ∀ (K : KV), K (iv (nB sh k)) x → ld Tryz.prog 2 (.pointer (some ⟨r, 0 + 8 + ((k : Nat) : Int).toNat * 1, none⟩)) K x := fun hx k hk K hK =>
    ld1 (fun _ => by kernel_rfl) hx (by rw [show 0 + 8 + ((k : Nat) : Int).toNat * 1 = 8 + k by omega]; exact yT (by omega) hk) hK
  have ix : ∀ {x : World} {o k : Nat} (K : KV), k < n → K (.pointer (some ⟨r, o + ((k : Nat) : Int).toNat * 1, none⟩)) x → af Tryz.prog 33 (.pointer (some ⟨r, o, none⟩)) (.int .i64 (k : Nat)) K x := fun K hk hK =>
    aT Tryz.underlying33 (s := 1) (fun _ => by kernel_rfl) (by omega) (by omega) hK
  have gd := g.drew
  refine aC (fun x => blk x r 108 (cP a n c n (hK hh n) (hK sh n))) gd.row ?_
  refine ab (fun x hx K hK => iX hK) ?_
  refine ab (fun x hx K hK => ix K hi6 hK) ?_
  refine ab (v := iv (nB hh i)) (fun x hx K hK => rowH hx hi6 K hK) ?_
  refine ab (fun x hx K hK => jE hK) ?_
  refine ab (fun x hx K hK => ix K hi6 hK) ?_
  refine ab (v := iv (nB sh i)) (fun x hx K hK => rowS hx hi6 K hK) ?_
  refine ab (v := .int .i64 (nB hh i - nB sh i)) (fun x hx K hK => bo (by omega) (by omega) hK) ?_
  refine ab (fun x hx K hK => jE hK) ?_
  refine ab (fun x hx K hK => ix K hj6 hK) ?_
  refine ab (v := iv (nB sh j)) (fun x hx K hK => rowS hx hj6 K hK) ?_
  refine ab (fun x hx K hK => iX hK) ?_
  refine ab (fun x hx K hK => ix K hj6 hK) ?_
  refine ab (v := iv (nB hh j)) (fun x hx K hK => rowH hx hj6 K hK) ?_
  refine ab (v := .int .i64 (nB sh j - nB hh j)) (fun x hx K hK => bo (by omega) (by omega) hK) ?_
  refine GE ?_
  have hmin : (if nB sh j - nB hh j < nB hh i - nB sh i then nB sh j - nB hh j else nB hh i - nB sh i) = mvX hh sh i j := by
    unfold mvX
    rw [Int.min_def]
    split <;> split <;> omega
  rw [hmin]
  refine aC (fun _ => True) trivial ?_
  refine ww ?_
  refine iX ?_
  refine gd.ldH hi6 hn ?_
  unfold iv
  refine bo (by omega) (by omega) ?_
  refine iX ?_
  refine ix _ hi6 ?_
  refine gd.sto hi6 hn hhl fun w2 g2 => ?_
  have hl2 : (hh.set i (nB hh i - mvX hh sh i j)).length = n := by simpa using hhl
  have hj2 : nB (hh.set i (nB hh i - mvX hh sh i j)) j = nB hh j := by rw [pj (by omega), if_neg (by omega)]
  refine iX ?_
  refine g2.ldH hj6 hn ?_
  rw [hj2]
  unfold iv
  refine aF (by omega) (by omega) ?_
  refine iX ?_
  refine ix _ hj6 ?_
  refine g2.sto hj6 hn hl2 fun w3 g3 => ?_
  have hmv : (hh.set i (nB hh i - mvX hh sh i j)).set j (nB hh j + mvX hh sh i j) = mvH hh i j (mvX hh sh i j) := rfl
  rw [hmv] at g3
  have g3 := g3.drew
  have hrv : RV w3.drew a n c (lv.map iv) := OV.rv g3.lvs
  refine aC (fun x => blk x r 108 (cP a n c n (hK (mvH hh i j (mvX hh sh i j)) n) (hK sh n)) ∧ RV x a n c (lv.map iv)) ⟨g3.row, hrv⟩ ?_
  refine ab (fun x hx K hK => og hK) ?_
  refine ab (v := .slice a n c) (fun x hx K hK => ld1 (fun _ => by kernel_rfl) hx.1 rfl hK) ?_
  refine ab (v := .pointer (some (gu a ((i : Nat) : Int).toNat))) (fun x hx K hK => fD Tryz.underlying56 (fun _ => by kernel_rfl) (by omega) (by omega) hx.2.some_ hK) ?_
  rw [Int.toNat_natCast]
  refine ab (v := iv (nB lv i)) (fun x hx K hK => dp (fun _ => by kernel_rfl) (hx.2.cell _ _ (yU hlv hi6)) hK) ?_
  refine ab (fun x hx K hK => og hK) ?_
  refine ab (v := .slice a n c) (fun x hx K hK => ld1 (fun _ => by kernel_rfl) hx.1 rfl hK) ?_
  refine ab (v := .pointer (some (gu a ((j : Nat) : Int).toNat))) (fun x hx K hK => fD Tryz.underlying56 (fun _ => by kernel_rfl) (by omega) (by omega) hx.2.some_ hK) ?_
  rw [Int.toNat_natCast]
  refine ab (v := iv (nB lv j)) (fun x hx K hK => dp (fun _ => by kernel_rfl) (hx.2.cell _ _ (yU hlv hj6)) hK) ?_
  refine ab (v := .agg (mvC (nB lv i, nB lv j, mvX hh sh i j)).toArray) (fun x hx K hK => eE (by kernel_rfl) hK) ?_
  refine hH (vs := [.agg (mvC (nB lv i, nB lv j, mvX hh sh i j)).toArray]) Tryz.underlying65 (s := 3) (by kernel_rfl) (by kernel_rfl) (by omega) rfl (by simp) (by simp) (by simp) (by simp [Value.cells, mvC]) fun w4 h4 b4 s4 => ?_
  have h4 : blk w4 w3.drew.heap.size 69 (mvC (nB lv i, nB lv j, mvX hh sh i j)) := by simpa [Value.cells] using h4
  have g4 := g3.fresh b4
  obtain ⟨ii, hi', hz, hsz, hby⟩ := info_parts DO
  refine aC (fun _ => True) trivial ?_
  refine ka (base := w0.heap.size) (x := (nB lv i, nB lv j, mvX hh sh i j)) Tryz.underlying65 hi' hz hsz hby rfl (by omega) np g4.out h4 (xA _) (by omega) (by omega) g4.bel.size fun ao' co' w5 ho5 hgr b5 _ => ?_
  refine aC (fun _ => True) trivial ?_
  refine hnext _ w5 ao' co' hi6 hj6 hstep hodd rfl rfl rfl ⟨dv g4.row g4.out (by decide) hgr, gh g4.lvs g4.out (by decide) hgr, ?_, g4.bel.trans b5, g4.lo⟩
  rw [List.length_append]
  exact ho5
end
end Go.Proofs.YtgpfkmdknlcemaaGreatDoor
namespace Go.Proofs.YtgpfkmdknlcemaaGreatDoor
set_option maxRecDepth 100000
open Go.RowKit
def mvO (lv:List Int) (l:List (Nat × Nat × Int)):List (Int × Int × Int):=l.map fun m=>(nB lv m.1,nB lv m.2.1,m.2.2)
theorem yp {s:STA} {id:Int} {has sh:List Int} (h:eO s id=some (has,sh)):dr s id=mvO (bS s.I s.L 6) (fI has sh):=by
 unfold dr
 rw [h]; rfl
theorem DP (h s:List Int):odd h s≤s.length:=by
 unfold odd
 exact Nat.le_trans (List.length_filter_le _ _) (by simp)
attribute [local irreducible] bin un conv call bl blt slc aa fld af idx lkp bL bP eSt rng nxt ent ext alc box bld aJ ld sto aj bm mkS ifc pick rdy wts au sti cond aH Gives ac aW bA cOp
section
variable {w:World} {K:KV}
variable {w0:World} {r n c co:Nat} {a:Option Addr} {lv sh:List Int}
variable {hh:List Int} {ao:Option Addr} {O:List (Int × Int × Int)}
theorem MG.rowS {x:World} {cc:List Value} {k:Nat} (hb:blk x r 108 (cP a n c n (hK hh n) (hK sh n))) (hk:k < n) (hn:n≤6) {K:KV} (hK':K (iv (nB sh k)) x):ld Tryz.prog 2 (.pointer (some ⟨r,0+8+((k:Nat):Int).toNat * 1,none⟩)) K x :=
 ld1 (fun _=>by kernel_rfl) hb (by rw [show 0+8+((k:Nat):Int).toNat * 1=8+k by omega]; exact yT (by omega) hk) hK'
theorem GF {x:World} {k:Nat} (hb:blk x r 108 (cP a n c n (hK hh n) (hK sh n))) (hk:k < n) (hn:n≤6) {K:KV} (hK':K (iv (nB hh k)) x):ld Tryz.prog 2 (.pointer (some ⟨r,0+2+((k:Nat):Int).toNat * 1,none⟩)) K x :=
 ld1 (fun _=>by kernel_rfl) hb (by rw [show 0+2+((k:Nat):Int).toNat * 1=2+k by omega]; exact CL (by omega) hk) hK'
theorem GG {x:World} {k:Nat} (hb:blk x r 108 (cP a n c n (hK hh n) (hK sh n))) (hk:k < n) (hn:n≤6) {K:KV} (hK':K (iv (nB sh k)) x):ld Tryz.prog 2 (.pointer (some ⟨r,0+8+((k:Nat):Int).toNat * 1,none⟩)) K x :=
 ld1 (fun _=>by kernel_rfl) hb (by rw [show 0+8+((k:Nat):Int).toNat * 1=8+k by omega]; exact yT (by omega) hk) hK'
theorem ixx {x:World} {o k:Nat} {K:KV} (hk:k < n) (hn:n≤6) (hK':K (.pointer (some ⟨r,o+((k:Nat):Int).toNat * 1,none⟩)) x):af Tryz.prog 33 (.pointer (some ⟨r,o,none⟩)) (.int .i64 (k:Nat)) K x :=
 aT Tryz.underlying33 (s:=1) (fun _=>by kernel_rfl) (by omega) (by omega) hK'
theorem yV {p:Nat→Bool} {k n:Nat} (hb:∀ q,q < k→p q=false) (hk:k≤n) (ht:k < n→p k=true):fs p n 0=k:=by
 rw [Hv hb hk]
 by_cases hkn:k < n
 ·rw [lg hkn,ht hkn,if_pos rfl]
 ·rw [vY (by omega)]; omega
set_option maxHeartbeats 4000000 in
theorem zW {s0 node1 s2 node3 t4 r5 is6 out7 rich8 poor9 x10 t11 t12 t13 t14 t15 t16 t17 t18 t19 t20 t21 t22 t23 t24 t25 t26 t27 t28 t29 t30 t31 t32 t33 t34 t35 t36 t37 t38 t39 t40 t41 t42 t43 t44 t45 t46 t47 t48 t49 t50 t51 t52 t53 t54 t55 t56 t57 t58 t59 t60 t61 t62 t63 t64 t65 t66 t67 t68 t69 t70 t71 t72 t73 t74 t75 t76 t77 t78 t79 t80 t81 t82 t83 t84 t85 t86 t87 t88 t89 t90 t91 t92 t93 t94 t95 t96 t97 t98 t99 t100 t101 t102 t103 t104 t105 t106 t107 t108 t109 t110 t111 t112 t113:Value} {B1:KE} {i j0:Nat} (hn:n≤6) (hlv:lv.length=n) (hhl:hh.length=n) (hsl:sh.length=n) (hb:kD hh) (hbs:kD sh) (hO:O.length≤100) (g:MG w0 w r a n c lv hh sh ao co O)
  (hi:fs (dq hh sh) n 0=i) (hj0:j0≤n) (hj:∀ q,q < j0→di hh sh q=false) (e1:r5=.pointer (some ⟨r,0,none⟩)) (e2:out7=.slice ao O.length co) (e3:rich8=.int .i64 (i:Nat)) (e4:poor9=.int .i64 (j0:Nat))
  (hdone:∀ w',MG w0 w' r a n c lv hh sh ao co O→fI hh sh=[]→K (.slice ao O.length co) w')
  (hnext:∀ (e2:List Value) (w2:World) (ao':Option Addr) (co':Nat) (j:Nat),i < n→j < n→fs (di hh sh) n 0=j→fI hh sh=(i,j,mvX hh sh i j)::fI (mvH hh i j (mvX hh sh i j)) sh→odd (mvH hh i j (mvX hh sh i j)) sh < odd hh sh→gd e2 7=.slice ao' (O.length+1) co'→gd e2 8=.int .i64 (i:Nat)→gd e2 9=.int .i64 (j:Nat) →
   MG w0 w2 r a n c lv (mvH hh i j (mvX hh sh i j)) sh ao' co' (O++[(nB lv i,nB lv j,mvX hh sh i j)])→B1 e2 w2) :
  eX K B1 ((s0::node1::s2::node3::t4::r5::is6::out7::rich8::poor9::x10::t11::t12::t13::t14::t15::t16::t17::t18::t19::t20::t21::t22::t23::t24::t25::t26::t27::t28::t29::t30::t31::t32::t33::t34::t35::t36::t37::t38::t39::t40::t41::t42::t43::t44::t45::t46::t47::t48::t49::t50::t51::t52::t53::t54::t55::t56::t57::t58::t59::t60::t61::t62::t63::t64::t65::t66::t67::t68::t69::t70::t71::t72::t73::t74::t75::t76::t77::t78::t79::t80::t81::t82::t83::t84::t85::t86::t87::t88::t89::t90::t91::t92::t93::t94::t95::t96::t97::t98::t99::t100::t101::t102::t103::t104::t105::t106::t107::t108::t109::t110::t111::t112::t113::[])) w:=by
 subst e1 e2 e3 e4
 refine wo ?_
 refine wq (Inv:=fun pv _ _ _ _ _ _ _ _ _ wr => ∃ k:Nat,pv=.int .i64 (k:Nat)∧k≤n∧(∀ q,q < k→di hh sh q=false)∧MG w0 wr r a n c lv hh sh ao co O)
  (μ:=fun pv _ _ _ _ _ _ _ _ _ _=>n - (intOf pv).toNat) ⟨j0,rfl,hj0,hj,g⟩ ?_
 rintro _ _ _ _ _ _ _ _ _ _ dd w1 m ⟨k,rfl,hk,hpk,g1⟩ hmm
 have g2:=g1.drew
 have hrow:blk w1.drew r 108 (cP a n c n (hK hh n) (hK sh n)):=g2.row
 refine a8 (fun _=>iW) <|a8 (v:=.int .i64 (n:Nat)) (fun _=>ld1 (fun _=>by kernel_rfl) hrow rfl) <|a8 (fun _=>aD) ?_
 by_cases hkn:k < n
 ·have hkn':((k:Nat):Int) < n:=by omega
  refine dz hkn' <|a8 (fun _=>iX) <|a8 (fun _=>ixx hkn hn) <|a8 (fun _=>GF hrow hkn hn) <|a8 (fun _=>jE) <|a8 (fun _=>ixx hkn hn) <|a8 (fun _=>GG hrow hkn hn) ?_
  unfold iv
  refine a8 (fun _=>dI) <|a8 (fun _=>bp hkn') ?_
  by_cases hge:nB sh k≤nB hh k
  ·refine ai hge <|aF (by omega) (by omega) ?_
   refine ⟨⟨k+1,by simp,by omega,fun q hq => ?_,g2⟩,by rw [hmm]; simp [intOf]; omega⟩
   by_cases hqk:q=k
   ·subst hqk; unfold di; exact decide_eq_false (by omega)
   ·exact hpk q (by omega)
  ·refine ag hge ?_
   have hfs:fs (di hh sh) n 0=k:=yV hpk hk (fun _=>decide_eq_true (by omega))
   exact zV hn hlv hhl hsl hb hbs hO g2 hi hfs rfl rfl rfl rfl (hdone _ g2) fun e2 w2 ao' co' h1 h2 h3 h4 h5 h6 h7 h8=>hnext e2 w2 ao' co' k h1 h2 hfs h3 h4 h5 h6 h7 h8
 ·have hkn' : ¬ ((k:Nat):Int) < n:=by omega
  refine eK hkn' <|a8 (fun _=>bt hkn') <|cW ?_
  have hfs:fs (di hh sh) n 0=k:=yV hpk hk (fun h=>absurd h hkn)
  exact zV hn hlv hhl hsl hb hbs hO g2 hi hfs rfl rfl rfl rfl (hdone _ g2) fun e2 w2 ao' co' h1 h2 h3 h4 h5 h6 h7 h8=>hnext e2 w2 ao' co' k h1 h2 hfs h3 h4 h5 h6 h7 h8
set_option maxHeartbeats 4000000 in
theorem BE {s:STA} {id:Int} (hs:SK w s) (h:∀ w' a c,w'.ownsRow w.heap.size 69 3 (.slice a (dr s id).length c) (dr s id).length ((dr s id).flatMap mvC)→Below w.heap.size w w'→(dr s id).length≤6→K (.slice a (dr s id).length c) w') :
  call Tryz.prog 17 #[.agg (saC s).toArray,.int .u64 id] K w:=by
 refine aE yP (yO ?_)
 refine bh fun w1 hb b1 s1 => ?_
 have hb:blk w1 w.heap.size 30 (saC s):=by simpa [Value.cells] using hb
 have cutS:((saC s).drop 0).take 20=saC s:=by rw [List.drop_zero,List.take_of_length_le (by rw [hs.len]; omega)]
 refine ldA (n:=20) (vs:=saC s) Tryz.underlying30 rfl (by kernel_rfl) hb cutS hs.len ?_
 refine DS (hs.bel b1 (Nat.le_refl _)) fun w2 v b2 hv => ?_
 have B2:Below w.heap.size w w2:=b1.trans (b2.mono (by omega))
 have hll:(bS s.I s.L 6).length≤6:=iV _ _ 6
 cases hq:eO s id with
 | none =>
  rw [hq] at hv
  subst hv
  refine fy ?_
  refine fz ?_
  refine cH (z:=.agg row0.toArray) (by kernel_rfl) fun w3 hr b3 s3 => ?_
  have hr:blk w3 w2.heap.size 108 row0:=hr
  refine eM (n:=14) (vs:=row0) (by kernel_rfl) rfl hr (by simp [row0,cP,z6]) (ls (by simp [z6,iv,Value.oneCell']) (by simp [z6,iv,Value.oneCell'])) fun w4 hr4 o4 => ?_
  refine cU ?_
  refine aR ?_
  have hm:dr s id=[]:=by unfold dr; rw [hq]
  rw [hm] at h
  exact h w4 none 0 (World.ownsRow_nil _ _ _ _) (B2.trans ((b3.trans o4.below).mono B2.size)) (by simp)
 | some p =>
  obtain ⟨has,sh⟩:=p
  rw [hq] at hv
  obtain ⟨a,c,ho,rfl⟩:=hv
  have hln:=oM hq
  obtain ⟨hb0,hbs⟩:=yo hq
  rw [yp hq] at h
  refine fy ?_
  refine fz ?_
  generalize bS s.I s.L 6=lv at *
  generalize hn:lv.length=n at *
  refine cH (z:=.agg row0.toArray) (by kernel_rfl) fun w3 hr b3 s3 => ?_
  have hr:blk w3 w2.heap.size 108 row0:=hr
  have hrl:(cP a n c n (hK has n) (hK sh n)).length=14:=kq (eP _ _) (eP _ _)
  refine eM (n:=14) (vs:=cP a n c n (hK has n) (hK sh n)) (by kernel_rfl) hrl hr (by simp [row0,cP,z6]) (ls (pG _ _) (pG _ _)) fun w4 hr4 o4 => ?_
  have hr4:blk w4 w2.heap.size 108 (cP a n c n (hK has n) (hK sh n)):=by
   rw [List.take_zero,List.nil_append,List.drop_of_length_le (by simp [row0,cP,z6]),List.append_nil] at hr4
   exact hr4
  have b24:Below w2.heap.size w2 w4:=b3.trans o4.below
  have ho4:=ho.bel b24
  have B4:Below w.heap.size w w4:=B2.trans (b24.mono B2.size)
  refine cU ?_
  refine cW ?_
  have ho4:ON w4 w.heap.size a n c lv:=by
   refine ⟨ho4.1, ?_⟩
   rcases ho4.2 with h2 | ⟨g,cap,cur,hv,hg,r⟩
   ·exact .inl h2
   ·exact .inr ⟨g,cap,cur,hv,by omega,r⟩
  have g0:MG w w4 w2.heap.size a n c lv has sh none 0 []:=⟨hr4,ho4,World.ownsRow_nil _ _ _ _,B4,B2.size⟩
  generalize w2.heap.size=r at *
  refine wm (Inv:=fun out rv pv _ _ _ _ _ _ _ _ _ _ _ _ _ _ _ _ _ _ _ _ _ _ wr => ∃ (i j:Nat) (hh:List Int) (O:List (Int × Int × Int)) (ao:Option Addr) (co:Nat),out=.slice ao O.length co∧rv=.int .i64 (i:Nat)∧pv=.int .i64 (j:Nat)∧i≤n∧j≤n∧hh.length=n∧kD hh ∧
    MG w wr r a n c lv hh sh ao co O∧(∀ q,q < i→dq hh sh q=false)∧(∀ q,q < j→di hh sh q=false)∧O++mvO lv (fI hh sh)=mvO lv (fI has sh)∧O.length+odd hh sh≤6)
   (μ:=fun out _ _ _ _ _ _ _ _ _ _ _ _ _ _ _ _ _ _ _ _ _ _ _ _ _=>7 - slN out) ⟨0,0,has,[],none,0,rfl,rfl,rfl,by omega,by omega,by omega,hb0,g0,(fun q hq=>by omega),(fun q hq=>by omega),rfl,by have:=DP has sh; simp; omega⟩ ?_
  rintro _ _ _ _ _ _ _ _ _ _ _ _ _ _ _ _ _ _ _ _ _ _ _ _ _ dd w5 m ⟨i,j,hh,O,ao,co,rfl,rfl,rfl,hi,hj,hhl,hbh,g5,hri,hpj,hM,hodd⟩ hmm
  -- the dq one
  refine wn (Inv:=fun rv _ _ _ _ _ _ _ _ _ wr => ∃ k:Nat,rv=.int .i64 (k:Nat)∧k≤n∧(∀ q,q < k→dq hh sh q=false)∧MG w wr r a n c lv hh sh ao co O)
   (μ:=fun rv _ _ _ _ _ _ _ _ _ _=>n - (intOf rv).toNat) ⟨i,rfl,hi,hri,g5⟩ ?_
  rintro _ _ _ _ _ _ _ _ _ _ dd2 w6 m2 ⟨k,rfl,hk,hrk,g6⟩ hmm2
  have g7:=g6.drew
  have hrow:blk w6.drew r 108 (cP a n c n (hK hh n) (hK sh n)):=g7.row
  have hdone:∀ w',MG w w' r a n c lv hh sh ao co O→fI hh sh=[]→K (.slice ao O.length co) w':=by
   intro w' g' hz
   rw [hz] at hM
   have hM:O=mvO lv (fI has sh):=by simpa [mvO] using hM
   rw [← hM] at h
   exact h w' ao co g'.out g'.bel (by omega)
  have next:∀ {e2:List Value} {w2:World} {ao':Option Addr} {co' j':Nat},k < n→j' < n→fs (dq hh sh) n 0=k→fs (di hh sh) n 0=j'→fI hh sh=(k,j',mvX hh sh k j')::fI (mvH hh k j' (mvX hh sh k j')) sh→odd (mvH hh k j' (mvX hh sh k j')) sh < odd hh sh →
    MG w w2 r a n c lv (mvH hh k j' (mvX hh sh k j')) sh ao' co' (O++[(nB lv k,nB lv j',mvX hh sh k j')]) →
    ∃ (i2 j2:Nat) (hh2:List Int) (O2:List (Int × Int × Int)) (ao2:Option Addr) (co2:Nat),(Value.slice ao' (O.length+1) co')=.slice ao2 O2.length co2∧Value.int .i64 (k:Nat)=.int .i64 (i2:Nat)∧Value.int .i64 (j':Nat)=.int .i64 (j2:Nat)∧i2≤n∧j2≤n∧hh2.length=n∧kD hh2 ∧
     MG w w2 r a n c lv hh2 sh ao2 co2 O2∧(∀ q,q < i2→dq hh2 sh q=false)∧(∀ q,q < j2→di hh2 sh q=false)∧O2++mvO lv (fI hh2 sh)=mvO lv (fI has sh)∧O2.length+odd hh2 sh≤6:=by
   intro e2 w2 ao' co' j' hk1 hj1 hf1 hf2 hst hod g'
   have s1:=fQ (p:=dq hh sh) (n:=n) _ 0 rfl (Nat.zero_le _)
   have s2:=fQ (p:=di hh sh) (n:=n) _ 0 rfl (Nat.zero_le _)
   rw [hf1] at s1
   rw [hf2] at s2
   have hr:=s1.2.2.2 hk1
   have hp:=s2.2.2.2 hj1
   refine ⟨k,j',_,_,ao',co',by simp,rfl,rfl,by omega,by omega,by rw [Br]; exact hhl,DN hbh hbs (by omega) (by omega) hr hp,g',fun q hq=>Hs (by omega) (by omega) (by omega) hr hp (s1.2.2.1 q (Nat.zero_le _) hq),fun q hq=>Hu (by omega) (by omega) (by omega) hr hp (s2.2.2.1 q (Nat.zero_le _) hq), ?_,by simp; omega⟩
   rw [← hM,hst,List.append_assoc]
   rfl
  refine a8 (fun _=>iW) ?_
  refine a8 (v:=.int .i64 (n:Nat)) (fun _=>ld1 (fun _=>by kernel_rfl) hrow rfl) ?_
  refine a8 (fun _=>aD) ?_
  by_cases hkn:k < n
  ·have hkn':((k:Nat):Int) < n:=by omega
   refine dz hkn' ?_
   refine a8 (fun _=>iX) ?_
   refine a8 (fun _=>ixx hkn hll) ?_
   refine a8 (fun _=>GF hrow hkn hll) ?_
   refine a8 (fun _=>jE) ?_
   refine a8 (fun _=>ixx hkn hll) ?_
   refine a8 (fun _=>GG hrow hkn hll) ?_
   unfold iv
   refine a8 (fun _=>fB) ?_
   refine a8 (fun _=>bp hkn') ?_
   by_cases hge:nB hh k≤nB sh k
   ·refine ai hge ?_
    refine aF (by omega) (by omega) ?_
    refine ⟨⟨k+1,by simp,by omega,fun q hq => ?_,g7⟩,by rw [hmm2]; simp [intOf]; omega⟩
    by_cases hqk:q=k
    ·subst hqk; unfold dq; exact decide_eq_false (by omega)
    ·exact hrk q (by omega)
   ·refine ag hge ?_
    have hfs:fs (dq hh sh) n 0=k:=yV hrk hk (fun _=>decide_eq_true (by omega))
    refine zW hll hn hhl (by omega) hbh hbs (by omega) g7 hfs hj hpj rfl rfl rfl rfl hdone fun e2 w2 ao' co' j' h1 h2 hf2 h3 h4 h5 h6 h7 h8 => ?_
    rw [h5,h6,h7]
    exact ⟨next (e2:=e2) h1 h2 hfs hf2 h3 h4 h8,by rw [hmm]; show 7 - (O.length+1) < 7 - O.length; omega⟩
  ·have hkn' : ¬ ((k:Nat):Int) < n:=by omega
   refine eK hkn' ?_
   refine a8 (fun _=>bt hkn') ?_
   refine cW ?_
   have hfs:fs (dq hh sh) n 0=k:=yV hrk hk (fun h=>absurd h hkn)
   refine zW hll hn hhl (by omega) hbh hbs (by omega) g7 hfs hj hpj rfl rfl rfl rfl hdone fun e2 w2 ao' co' j' h1 h2 hf2 h3 h4 h5 h6 h7 h8 => ?_
   rw [h5,h6,h7]
   exact ⟨next (e2:=e2) h1 h2 hfs hf2 h3 h4 h8,by rw [hmm]; show 7 - (O.length+1) < 7 - O.length; omega⟩
end
end Go.Proofs.YtgpfkmdknlcemaaGreatDoor
