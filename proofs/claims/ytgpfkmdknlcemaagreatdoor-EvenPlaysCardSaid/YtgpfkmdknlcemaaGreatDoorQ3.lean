/- Laid together: EvQ3 EvP2 SEvn EvL SR07 R07 R07b R07c R07d SR25 R25 R25b R25c SR19. -/
import Derived.Test.YtgpfkmdknlcemaaGreatDoorQ2
namespace Go.Proofs.YtgpfkmdknlcemaaGreatDoor
set_option maxRecDepth 100000
open Go.RowKit
abbrev ON (w:World) (B:Nat) (a:Option Addr) (n c:Nat) (l:List Int):Prop:=w.ownsRow B 3 1 (.slice a n c) n (l.map iv)
theorem ON.nil (w:World) (B:Nat):ON w B none 0 0 []:=World.ownsRow_nil w B _ 1
theorem ON.bel {w w':World} {B n c:Nat} {a:Option Addr} {l:List Int} (h:ON w B a n c l) (hb:Below w.heap.size w w'):ON w' B a n c l:=bj h fun k hk=>hb.block k (World.ownsRow.lt h k hk).2
theorem ON.len {w:World} {B n c:Nat} {a:Option Addr} {l:List Int} (h:ON w B a n c l):l.length=n:=by have h1:=h.1; simpa using h1
theorem ON.mono {w:World} {B B' n c:Nat} {a:Option Addr} {l:List Int} (h:ON w B a n c l) (hb:B'≤B):ON w B' a n c l:=by
 refine ⟨h.1, ?_⟩
 rcases h.2 with h2 | ⟨g,cap,cur,hv,hg,r⟩
 ·exact .inl h2
 ·exact .inr ⟨g,cap,cur,hv,by omega,r⟩
theorem FM:(Tryz.prog.info? 3).map (fun i=>(i.zero,i.size,i.bytes))=some (some (.int .i64 0),1,8):=by kernel_rfl
theorem mh (I L:List Bool) (k:Nat):bS I L (k+1)=bS I L k++if I.getD k false && !L.getD k false then [((k:Nat):Int)+1] else []:=by
 unfold bS
 rw [List.range_succ,List.filter_append,List.map_append]
 congr 1
 cases h:I.getD k false && !L.getD k false with
 | false=>rw [List.filter_cons_of_neg (by rw [h]; simp)]; rfl
 | true=>rw [List.filter_cons_of_pos (by rw [h])]; rfl
theorem iV (I L:List Bool):∀ k,(bS I L k).length≤k
 | 0=>by simp [bS]
 | k+1=>by
  have:=iV I L k
  rw [mh,List.length_append]
  split <;> simp <;> omega
attribute [local irreducible] bin un conv call bl blt slc aa fld af idx lkp bL bP eSt rng nxt ent ext alc box bld aJ ld sto aj bm mkS ifc pick rdy wts au sti cond aH Gives ac aW bA cOp
section
variable {w:World} {K:KV}
theorem JH {P:Program} {t e:TypeId} {n i:Nat} {k:IntKind} {cs:List Value} {v:Value} (ht:P.underlying t=some (.array n e)) (ha:∀ w,(isAgg e).run P w=.ok false w) (hs:∀ w,(sizeOf e).run P w=.ok 1 w) (hi:i < n) (hv:cs[i]? = some v) (h:K v w) :
  idx P t (.agg cs.toArray) (.int k (i:Nat)) K w:=by
 unfold idx
 refine bF (w':=w) (v:=v) ?_ h
 have h1:(0:Int)≤(i:Int):=by omega
 have h2:(i:Int) < (n:Int):=by omega
 simp only [Instr.index,asIntOf,Sem.run_bind,Sem.run_pure,Result.andThen_ok,run_underlying ht,h1,h2,and_self,if_true,hs,part,ha,Int.toNat_natCast,Nat.mul_one]
 simp [hv]
theorem IN {x:Int} (h:∀ w',blk w' w.heap.size 3 [iv x]→Below w.heap.size w w'→w'.heap.size=w.heap.size+1→K (.slice (some ⟨w.heap.size,0,none⟩) 1 1) w'):aJ Tryz.prog 56 1 #[(0,iv x)] K w :=
 hH (vs:=[iv x]) Tryz.underlying56 (s:=1) (by kernel_rfl) (by kernel_rfl) (by omega) rfl (by simp) (by simp) (by simp) (by simp [Value.cells,iv]) fun w' hb b s=>h w' (by simpa [iv,Value.cells] using hb) b s
theorem apN {cs:Array Bool} {ty:TypeId} {B n c g:Nat} {a:Option Addr} {l:List Int} {x:Int} (ho:ON w B a n c l) (hg:blk w g 3 [iv x]) (hB:B≤w.heap.size) (hn:n≤100000)
  (h:∀ a' c' w',ON w' B a' (n+1) c' (l++[x])→Below B w w'→K (.slice a' (n+1) c') w') :
  blt Tryz.prog .append #[56,56] ty cs #[.slice a n c,.slice (some ⟨g,0,none⟩) 1 1] K w:=by
 obtain ⟨i,hi,hz,hsz,hby⟩:=info_parts FM
 refine Fm (base:=B) (s:=1) (m:=1) (ys:=[iv x]) Tryz.underlying56 hi hz hsz hby rfl (by omega) ho hg rfl (by simp [iv,Value.oneCell']) (by omega) (by omega) hB ?_
 intro a' c' w' ho' hgr _
 refine h a' c' w' (by simpa [ON] using ho') (ce hgr hB (fun k hk => ?_))
 exact (World.ownsRow.lt ho k hk).1
set_option maxHeartbeats 2000000 in
theorem IP {s:STA} (hs:SK w s) (h:∀ w' a c,ON w' w.heap.size a (bS s.I s.L 6).length c (bS s.I s.L 6)→Below w.heap.size w w'→K (.slice a (bS s.I s.L 6).length c) w'):call Tryz.prog 12 #[.agg (saC s).toArray] K w:=by
 refine aE xe (xd ?_)
 refine bh fun w1 hb b1 s1 => ?_
 have hb:blk w1 w.heap.size 30 (saC s):=by simpa [Value.cells] using hb
 refine kX ?_
 refine ldA (n:=6) (vs:=s.I.map .bool) Tryz.underlying23 rfl (by kernel_rfl) hb (by
  rw [List.drop_zero]
  unfold saC
  rw [List.append_assoc,List.append_assoc,List.take_left' (by simp [hs.i6])]) (by simp [hs.i6]) ?_
 refine uN (Inv:=fun l i _ _ _ _ _ wr => ∃ (k n:Nat) (a:Option Addr) (c:Nat),l=.slice a n c∧i=.int .i64 (k:Nat)∧k≤6∧ON wr w1.heap.size a n c (bS s.I s.L k)∧Below w1.heap.size w1 wr) (μ:=fun _ i _ _ _ _ _ _=>6 - (intOf i).toNat)
  ⟨0,0,none,0,rfl,rfl,by omega,ON.nil _ _,Below.refl _ _⟩ ?_
 rintro _ _ _ _ _ _ _ dd w2 m ⟨k,n,a,c,rfl,rfl,hk6,ho,b2⟩ hm
 have hb2:=ae b2 hb hb.lt
 have hln:=ho.len
 have hll:=iV s.I s.L k
 have hsz:=b2.size
 refine aD ?_
 by_cases hk:k < 6
 ·refine ai (by omega) ?_
  refine uO ?_
  refine JH (v:=.bool (s.I.getD k false)) Tryz.underlying23 (fun _=>by kernel_rfl) (fun _=>by kernel_rfl) hk (by
   have:=hs.i6
   rw [List.getElem?_map,List.getElem?_eq_getElem (by omega)]
   simp [List.getD,show k < s.I.length by omega]) ?_
  have step:∀ (w3:World) (a':Option Addr) (n' c':Nat),ON w3 w1.heap.size a' n' c' (bS s.I s.L (k+1))→Below w1.heap.size w1 w3 →
    (∃ (k' n:Nat) (a:Option Addr) (c:Nat),Value.slice a' n' c'=.slice a n c∧Value.int .i64 ((k:Int)+1)=.int .i64 (k':Nat)∧k'≤6∧ON w3 w1.heap.size a n c (bS s.I s.L k')∧Below w1.heap.size w1 w3)∧6 - (intOf (.int .i64 ((k:Int)+1))).toNat < m :=
   fun w3 a' n' c' h1 h2=>⟨⟨k+1,n',a',c',rfl,by simp,by omega,h1,h2⟩,by rw [hm]; simp [intOf]; omega⟩
  have no:(s.I.getD k false && !s.L.getD k false)=false→bS s.I s.L (k+1)=bS s.I s.L k:=fun hq=>by rw [mh,hq]; simp
  cases hI:s.I.getD k false with
  | false =>
   refine kx ?_
   refine fe ?_
   refine cW ?_
   refine km ?_
   refine aF (by omega) (by omega) ?_
   exact step w2 a n c (by rw [no (by rw [hI]; rfl)]; exact ho) b2
  | true =>
   refine jo ?_
   refine pX ?_
   refine aT Tryz.underlying23 (s:=1) (fun _=>by kernel_rfl) (by omega) (by omega) ?_
   refine ld1 (v:=.bool (s.L.getD k false)) (fun _=>by kernel_rfl) hb2 (by rw [show 0+6+(k:Int).toNat * 1=6+k by omega]; exact GA hs hk) ?_
   refine cU ?_
   refine bI ?_
   cases hL:s.L.getD k false with
   | true =>
    refine cW ?_
    refine km ?_
    refine aF (by omega) (by omega) ?_
    exact step w2 a n c (by rw [no (by rw [hI,hL]; rfl)]; exact ho) b2
   | false =>
    refine aR ?_
    refine aF (by omega) (by omega) ?_
    refine IN fun w3 g3 b3 s3 => ?_
    refine apN (ho.bel b3) g3 (by omega) (by omega) fun a' c' w4 ho4 b4 => ?_
    refine km ?_
    refine aF (by omega) (by omega) ?_
    exact step w4 a' (n+1) c' (by rw [mh,hI,hL]; exact ho4) ((b2.trans (b3.mono hsz)).trans b4)
 ·refine ag (by omega) ?_
  obtain rfl:k=6:=by omega
  refine uP ?_
  have:=h w2 a c (by rw [hln]; exact ho.mono (by omega)) (b1.trans (b2.mono (by omega)))
  rw [hln] at this
  exact this
end
end Go.Proofs.YtgpfkmdknlcemaaGreatDoor
namespace Go.Proofs.YtgpfkmdknlcemaaGreatDoor
set_option maxRecDepth 100000
def eO (s:STA) (id:Int):Option (List Int × List Int) :=
 match s.nodes[posN s.nodes id]?,bS s.I s.L 6 with
 | none,_=>none
 | some _,[]=>none
 | some x,i::r=>match lf (iS x.A (i::r)) 0 with
  | none=>none
  | some all=>some (iS x.A (i::r),shL all (i::r).length)
def dr (s:STA) (id:Int):List (Int × Int × Int):=match eO s id with
 | none=>[]
 | some (has,sh)=>(fI has sh).map fun m=>((bS s.I s.L 6).getD m.1 0,(bS s.I s.L 6).getD m.2.1 0,m.2.2)
def jV (s:STA) (id i:Int):Int:=match eO s id with
 | none=>0
 | some (_,sh)=>sh.getD ((bS s.I s.L 6).findIdx (· == i)) 0
def gA (s:STA) (i:Int):List (Int × Int × Int):=s.nodes.flatMap fun x=>(dr s x.id).filterMap fun m=>if m.1=i then some (x.id,m.2.1,m.2.2) else none
theorem xB (all:Int) (c:Nat):(shL all c).length=c:=by simp [shL]
theorem vf (A live:List Int):(iS A live).length=live.length:=by simp [iS]
theorem oM {s:STA} {id:Int} {has sh:List Int} (h:eO s id=some (has,sh)):has.length=(bS s.I s.L 6).length∧sh.length=(bS s.I s.L 6).length:=by
 unfold eO at h
 cases hx:s.nodes[posN s.nodes id]? with
 | none=>rw [hx] at h; cases h
 | some x =>
  cases hl:bS s.I s.L 6 with
  | nil=>rw [hx,hl] at h; cases h
  | cons i r =>
   rw [hx,hl] at h
   simp only at h
   split at h
   ·cases h
   ·cases h
    exact ⟨vf _ _,xB _ _⟩
end Go.Proofs.YtgpfkmdknlcemaaGreatDoor
namespace Go.Proofs.YtgpfkmdknlcemaaGreatDoor
open Go.RowKit
set_option maxRecDepth 100000
def jB (K:KV):KE:=ac Q (cd Tryz.f32 [1,1,1,1,1,1]) (rk Tryz.f32 K) xf (rk Tryz.f32 K)
def gk (K:KV):KE:=ac Q (cd Tryz.f32 [1,1,1,1,1,1,1]) (rk Tryz.f32 K) xf (rk Tryz.f32 K)
def kE (K:KV):KE:=ac Q (cd Tryz.f32 [1,1,1,1,1,1,0,1,0]) (gk K) (xx xf (gk K) 0) (rk Tryz.f32 K)
def dN (K:KV):KE:=ac Q (cd Tryz.f32 [1,1,1,1,1,1,1,1]) (rk Tryz.f32 K) xf (rk Tryz.f32 K)
def kF (K:KV):KE:=ac Q (cd Tryz.f32 [1,1,1,1,1,1,1,0,1,0]) (dN K) (xx xf (dN K) 2) (rk Tryz.f32 K)
def gm (K:KV) (B1:KE):KE:=ac Q (cd Tryz.f32 [1,1,1,1,1,1,1,0,1,0,0,1,1,1]) B1 (xx xf (dN K) 2) (rk Tryz.f32 K)
def jC (K:KV) (B1:KE):KE:=ac Q (cd Tryz.f32 [1,1,1,1,1,1,1,0,1,0,0,1,1,0]) (gm K B1) (xx xf (dN K) 2) (rk Tryz.f32 K)
theorem zX {K:KV} {s0 node1:Value} {w:World}
  (h:box Q 30 s0 (fun s2=>alc Q 108 fun A0=>ld Q 30 s2 fun A8=>call Q 12 #[A8] fun A9=>bld Q 108 #[(0,A9)] fun C0=>alc Q 108 fun r6=>sto Q 108 r6 C0 fun _=>ld Q 30 s2 fun C2=>call Q 50 #[C2,node1] fun C4=>ext Q C4 0 fun C5=>ext Q C4 1 fun C6=>alc Q 135 fun q7=>sto Q 135 q7 C5 fun _=>aa Q 108 r6 0 fun C7=>ld Q 56 C7 fun C8=>blt Q Builtin.len #[56] 3 #[false] #[C8] fun C9=>aa Q 108 r6 1 fun D0=>sto Q 3 D0 C9 fun _=>bin Q BinOp.neq 49 false true C6 (ci 0) fun D2 w=>au D2 false (fun k30=>aa Q 108 r6 1 (fun D4=>ld Q 3 D4 fun D5=>bin Q BinOp.eql 3 false true D5 (ci 0) fun D6=>k30 [D4,D5,D6]) w) (fun k=>k [undef,undef,undef] w) fun us30=>pick D2 cT (gd us30 2) fun D7 w=>cond D7 (bld Q 108 #[] (fun D8=>sto Q 108 A0 D8 fun _=>aH Q [(some 108,A0),(none,cF)] K) w) (jB K (s0::node1::s2::undef::A0::cF::r6::q7::C6::(ci 0)::undef::undef::undef::undef::A8::A9::C0::C4::C2::node1::C4::C5::C6::C7::C8::C9::D0::C6::D2::D2::(gd us30 0)::(gd us30 1)::(gd us30 2)::D7::undef::undef::undef::undef::undef::undef::undef::undef::undef::undef::undef::undef::undef::undef::undef::undef::undef::undef::undef::undef::undef::undef::undef::undef::undef::undef::undef::undef::undef::undef::undef::undef::undef::undef::undef::undef::undef::undef::undef::undef::undef::undef::undef::undef::undef::undef::undef::undef::undef::undef::undef::undef::undef::undef::undef::undef::undef::undef::[]) w)) w) :
  Gives Q 32 #[s0,node1] w K:=by
 refine aK Tryz.func32 (by kernel_rfl) <|Eq.mp (congrArg (fun c=>ac Q c _ _ _ _ w) (by kernel_rfl:(rep [1,1,1,1,1,1] (cd Tryz.f32 [1,1,1,1,1,1]) (cd Tryz.f32 []))=(cd Tryz.f32 []))) ?_
 revert h
 delta jB
 generalize (cd Tryz.f32 [1,1,1,1,1,1])=xc0
 exact fun h=>Eq.mp (by kernel_rfl) h
theorem zY:bD Q 32:=⟨_,Tryz.func32,by kernel_rfl,by kernel_rfl⟩
section
variable {s0 node1 s2 node3 A0 A1 r6 q7 e8 all9 k_10 i11 x12 k_13 A8 A9 C0 C1 C2 C3 C4 C5 C6 C7 C8 C9 D0 D1 D2 D3 D4 D5 D6 D7 D8 D9 E0 E1 E2 E3 E4 E5 E6 E7 E8 E9 F0 F1 F2 F3 F4 F5 F6 F7 F8 F9 G0 G1 G2 G3 G4 G5 G6 G7 G8 G9 H0 H1 H2 H3 H4 H5 H6 H7 H8 H9 I0 I1 I2 I3 I4 I5 I6 I7 I8 I9 J0 J1 J2 J3 J4 J5:Value}
theorem xC {K:KV} {w:World}
  (h:aa Q 108 r6 0 (fun D9=>ld Q 56 D9 fun E0=>blt Q Builtin.len #[56] 3 #[false] #[E0] fun E1=>kE K (s0::node1::s2::node3::A0::A1::r6::q7::e8::all9::k_10::i11::x12::k_13::A8::A9::C0::C1::C2::C3::C4::C5::C6::C7::C8::C9::D0::D1::D2::D3::D4::D5::D6::D7::D8::D9::E0::E1::(ci 0)::E3::E4::E5::E6::E7::E8::E9::F0::F1::F2::F3::F4::F5::F6::F7::F8::F9::G0::G1::G2::G3::G4::G5::G6::G7::G8::G9::H0::H1::H2::H3::H4::H5::H6::H7::H8::H9::I0::I1::I2::I3::I4::I5::I6::I7::I8::I9::J0::J1::J2::J3::J4::J5::[])) w) :
  jB K (s0::node1::s2::node3::A0::A1::r6::q7::e8::all9::k_10::i11::x12::k_13::A8::A9::C0::C1::C2::C3::C4::C5::C6::C7::C8::C9::D0::D1::D2::D3::D4::D5::D6::D7::D8::D9::E0::E1::E2::E3::E4::E5::E6::E7::E8::E9::F0::F1::F2::F3::F4::F5::F6::F7::F8::F9::G0::G1::G2::G3::G4::G5::G6::G7::G8::G9::H0::H1::H2::H3::H4::H5::H6::H7::H8::H9::I0::I1::I2::I3::I4::I5::I6::I7::I8::I9::J0::J1::J2::J3::J4::J5::[]) w:=by
 delta jB
 revert h
 delta kE gk
 exact fun h=>Eq.mp (by kernel_rfl) h
theorem xD {K:KV} {w:World} (Inv:Value→Value→Value→Value→Value→Value→World→Prop) (μ:Value→Value→Value→Value→Value→Value→World→Nat) (h0:Inv all9 E2 F5 F6 F7 F8 w)
  (hs:∀ (all9' E2' F5' F6' F7' F8':Value) (dd:Nat→Value) (w:World) (m:Nat),Inv all9' E2' F5' F6' F7' F8' w→m=μ all9' E2' F5' F6' F7' F8' w →
  bin Q BinOp.lss 3 false false E2' E1 (fun E3 w=>cond E3 (af Q 56 E0 E2' (fun E5=>ld Q 3 E5 fun E6=>bin Q BinOp.sub 3 false true E6 (ci 1) fun E8=>aa Q 135 q7 2 fun E9=>af Q 33 E9 E8 fun F0=>ld Q 2 F0 fun F1=>bin Q BinOp.lss 2 false true F1 (ci 0) fun F3 w=>au F3 false (fun k51=>bin Q BinOp.sub 2 true false (ci 1125899906842624) all9' (fun F7=>bin Q BinOp.gtr 2 false false F1 F7 fun F8=>k51 [F1,all9',F7,F8]) w) (fun k=>k [undef,undef,undef,undef] w) fun us51=>pick F3 cT (gd us51 3) fun F9 w=>cond F9 (bld Q 108 #[] (fun G0=>sto Q 108 A0 G0 fun _=>aH Q [(some 108,A0),(none,cF)] K) w) (aa Q 108 r6 2 (fun G3=>af Q 33 G3 E2' fun G4=>sto Q 2 G4 F1 fun _=>bin Q BinOp.add 2 false false all9' F1 fun G7=>bin Q BinOp.add 3 false true E2' (ci 1) fun G8 w=>(Inv G7 G8 (gd us51 0) (gd us51 1) (gd us51 2) (gd us51 3) w)∧((μ G7 G8 (gd us51 0) (gd us51 1) (gd us51 2) (gd us51 3) w)<m)) w)) w) (gk K (s0::node1::s2::node3::A0::(dd 5)::r6::q7::e8::all9'::(dd 10)::(dd 11)::(dd 12)::k_13::A8::A9::C0::C1::C2::C3::C4::C5::C6::C7::C8::C9::D0::D1::D2::D3::D4::D5::D6::D7::D8::D9::E0::E1::E2'::E3::(dd 40)::(dd 41)::(dd 42)::(dd 43)::(dd 44)::(dd 45)::(dd 46)::(dd 47)::(dd 48)::(dd 49)::(dd 50)::F5'::F6'::F7'::F8'::(dd 55)::(dd 56)::(dd 57)::(dd 58)::(dd 59)::(dd 60)::(dd 61)::(dd 62)::(dd 63)::(dd 64)::G9::H0::H1::H2::H3::H4::H5::H6::H7::H8::H9::I0::I1::I2::I3::I4::I5::I6::I7::I8::I9::J0::J1::J2::J3::J4::J5::[]) w)) w) :
  kE K (s0::node1::s2::node3::A0::A1::r6::q7::e8::all9::k_10::i11::x12::k_13::A8::A9::C0::C1::C2::C3::C4::C5::C6::C7::C8::C9::D0::D1::D2::D3::D4::D5::D6::D7::D8::D9::E0::E1::E2::E3::E4::E5::E6::E7::E8::E9::F0::F1::F2::F3::F4::F5::F6::F7::F8::F9::G0::G1::G2::G3::G4::G5::G6::G7::G8::G9::H0::H1::H2::H3::H4::H5::H6::H7::H8::H9::I0::I1::I2::I3::I4::I5::I6::I7::I8::I9::J0::J1::J2::J3::J4::J5::[]) w:=by
 refine aB (cd Tryz.f32 [1,1,1,1,1,1,0,1,0,0]) [5,9,10,11,12,38,39,40,41,42,43,44,45,46,47,48,49,50,51,52,53,54,55,56,57,58,59,60,61,62,63,64] (by kernel_rfl) (fun e2 w2=>Inv (gd e2 9) (gd e2 38) (gd e2 51) (gd e2 52) (gd e2 53) (gd e2 54) w2) (fun e2 w2=>μ (gd e2 9) (gd e2 38) (gd e2 51) (gd e2 52) (gd e2 53) (gd e2 54) w2) h0 ?_
 intro e' w' hI
 have h:=hs (gd e' 9) (gd e' 38) (gd e' 51) (gd e' 52) (gd e' 53) (gd e' 54) (fun i=>gd e' i) w' _ hI rfl
 revert h
 generalize (gk K)=qc0
 exact fun h=>Eq.mp (by kernel_rfl) h
theorem xE {K:KV} {w:World}
  (h:aa Q 108 r6 1 (fun G9=>ld Q 3 G9 fun H0=>kF K (s0::node1::s2::node3::A0::A1::r6::q7::e8::all9::k_10::i11::x12::k_13::A8::A9::C0::C1::C2::C3::C4::C5::C6::C7::C8::C9::D0::D1::D2::D3::D4::D5::D6::D7::D8::D9::E0::E1::E2::E3::E4::E5::E6::E7::E8::E9::F0::F1::F2::F3::F4::F5::F6::F7::F8::F9::G0::G1::G2::G3::G4::G5::G6::G7::G8::G9::H0::(ci 0)::H2::H3::H4::H5::H6::H7::H8::H9::I0::I1::I2::I3::I4::I5::I6::I7::I8::I9::J0::J1::J2::J3::J4::J5::[])) w) :
  gk K (s0::node1::s2::node3::A0::A1::r6::q7::e8::all9::k_10::i11::x12::k_13::A8::A9::C0::C1::C2::C3::C4::C5::C6::C7::C8::C9::D0::D1::D2::D3::D4::D5::D6::D7::D8::D9::E0::E1::E2::E3::E4::E5::E6::E7::E8::E9::F0::F1::F2::F3::F4::F5::F6::F7::F8::F9::G0::G1::G2::G3::G4::G5::G6::G7::G8::G9::H0::H1::H2::H3::H4::H5::H6::H7::H8::H9::I0::I1::I2::I3::I4::I5::I6::I7::I8::I9::J0::J1::J2::J3::J4::J5::[]) w:=by
 delta gk
 revert h
 delta kF dN
 exact fun h=>Eq.mp (by kernel_rfl) h
theorem xF {K:KV} {w:World} (Inv:Value→World→Prop) (μ:Value→World→Nat) (h0:Inv H1 w)
  (hs:∀ (H1':Value) (dd:Nat→Value) (w:World) (m:Nat),Inv H1' w→m=μ H1' w →
  bin Q BinOp.lss 3 false false H1' H0 (fun H2 w=>cond H2 (jC K (fun e2 w2=>(Inv (gd e2 67) w2)∧((μ (gd e2 67) w2)<m)) (s0::node1::s2::node3::A0::A1::r6::q7::e8::all9::k_10::i11::x12::(dd 13)::A8::A9::C0::C1::C2::C3::C4::C5::C6::C7::C8::C9::D0::D1::D2::D3::D4::D5::D6::D7::D8::D9::E0::E1::E2::E3::E4::E5::E6::E7::E8::E9::F0::F1::F2::F3::F4::F5::F6::F7::F8::F9::G0::G1::G2::G3::G4::G5::G6::G7::G8::G9::H0::H1'::H2::(dd 69)::(dd 70)::(dd 71)::(dd 72)::(dd 73)::(dd 74)::(dd 75)::(dd 76)::(dd 77)::(dd 78)::(dd 79)::(dd 80)::(dd 81)::(dd 82)::(dd 83)::(dd 84)::(dd 85)::(dd 86)::(dd 87)::(dd 88)::(dd 89)::(dd 90)::J5::[]) w) (dN K (s0::node1::s2::node3::A0::A1::r6::q7::e8::all9::k_10::i11::x12::(dd 13)::A8::A9::C0::C1::C2::C3::C4::C5::C6::C7::C8::C9::D0::D1::D2::D3::D4::D5::D6::D7::D8::D9::E0::E1::E2::E3::E4::E5::E6::E7::E8::E9::F0::F1::F2::F3::F4::F5::F6::F7::F8::F9::G0::G1::G2::G3::G4::G5::G6::G7::G8::G9::H0::H1'::H2::(dd 69)::(dd 70)::(dd 71)::(dd 72)::(dd 73)::(dd 74)::(dd 75)::(dd 76)::(dd 77)::(dd 78)::(dd 79)::(dd 80)::(dd 81)::(dd 82)::(dd 83)::(dd 84)::(dd 85)::(dd 86)::(dd 87)::(dd 88)::(dd 89)::(dd 90)::J5::[]) w)) w) :
  kF K (s0::node1::s2::node3::A0::A1::r6::q7::e8::all9::k_10::i11::x12::k_13::A8::A9::C0::C1::C2::C3::C4::C5::C6::C7::C8::C9::D0::D1::D2::D3::D4::D5::D6::D7::D8::D9::E0::E1::E2::E3::E4::E5::E6::E7::E8::E9::F0::F1::F2::F3::F4::F5::F6::F7::F8::F9::G0::G1::G2::G3::G4::G5::G6::G7::G8::G9::H0::H1::H2::H3::H4::H5::H6::H7::H8::H9::I0::I1::I2::I3::I4::I5::I6::I7::I8::I9::J0::J1::J2::J3::J4::J5::[]) w:=by
 refine aB (cd Tryz.f32 [1,1,1,1,1,1,1,0,1,0,0]) [13,67,68,69,70,71,72,73,74,75,76,77,78,79,80,81,82,83,84,85,86,87,88,89,90] (by kernel_rfl) (fun e2 w2=>Inv (gd e2 67) w2) (fun e2 w2=>μ (gd e2 67) w2) h0 ?_
 intro e' w' hI
 have h:=hs (gd e' 67) (fun i=>gd e' i) w' _ hI rfl
 refine Eq.mp (congrArg (fun c=>ac Q c _ _ _ _ w') (by kernel_rfl:(rep [1,1,0] (cd Tryz.f32 [1,1,1,1,1,1,1,0,1,0,0,1,1,0]) (cd Tryz.f32 [1,1,1,1,1,1,1,0,1,0,0]))=(cd Tryz.f32 [1,1,1,1,1,1,1,0,1,0,0]))) ?_
 revert h
 delta jC gm
 generalize (cd Tryz.f32 [1,1,1,1,1,1,1,0,1,0,0,1,1,0])=xc0
 generalize (dN K)=qc0
 exact fun h=>Eq.mp (by kernel_rfl) h
theorem xH {K:KV} {B1:KE} {w:World}
  (h:aa Q 108 r6 1 (fun H6=>ld Q 3 H6 fun H7=>bin Q BinOp.quo 2 false false all9 H7 fun H8=>aa Q 108 r6 3 fun H9=>af Q 33 H9 H1 fun I0=>sto Q 2 I0 H8 fun _=>aa Q 108 r6 1 fun I3=>ld Q 3 I3 fun I4=>bin Q BinOp.rem 2 false false all9 I4 fun I5=>bin Q BinOp.lss 2 false false H1 I5 fun I6 w=>cond I6 (aa Q 108 r6 3 (fun I8=>af Q 33 I8 H1 fun I9=>ld Q 2 I9 fun J0=>bin Q BinOp.add 2 false true J0 (ci 1) fun J1=>aa Q 108 r6 3 fun J2=>af Q 33 J2 H1 fun J3=>sto Q 2 J3 J1 fun _=>gm K B1 (s0::node1::s2::node3::A0::A1::r6::q7::e8::all9::k_10::i11::x12::H1::A8::A9::C0::C1::C2::C3::C4::C5::C6::C7::C8::C9::D0::D1::D2::D3::D4::D5::D6::D7::D8::D9::E0::E1::E2::E3::E4::E5::E6::E7::E8::E9::F0::F1::F2::F3::F4::F5::F6::F7::F8::F9::G0::G1::G2::G3::G4::G5::G6::G7::G8::G9::H0::H1::H2::H1::H1::all9::H6::H7::H8::H9::I0::H1::all9::I3::I4::I5::I6::H1::I8::I9::J0::J1::J2::J3::J4::J5::[])) w) (gm K B1 (s0::node1::s2::node3::A0::A1::r6::q7::e8::all9::k_10::i11::x12::H1::A8::A9::C0::C1::C2::C3::C4::C5::C6::C7::C8::C9::D0::D1::D2::D3::D4::D5::D6::D7::D8::D9::E0::E1::E2::E3::E4::E5::E6::E7::E8::E9::F0::F1::F2::F3::F4::F5::F6::F7::F8::F9::G0::G1::G2::G3::G4::G5::G6::G7::G8::G9::H0::H1::H2::H1::H1::all9::H6::H7::H8::H9::I0::H1::all9::I3::I4::I5::I6::I7::I8::I9::J0::J1::J2::J3::J4::J5::[]) w)) w) :
  jC K B1 (s0::node1::s2::node3::A0::A1::r6::q7::e8::all9::k_10::i11::x12::k_13::A8::A9::C0::C1::C2::C3::C4::C5::C6::C7::C8::C9::D0::D1::D2::D3::D4::D5::D6::D7::D8::D9::E0::E1::E2::E3::E4::E5::E6::E7::E8::E9::F0::F1::F2::F3::F4::F5::F6::F7::F8::F9::G0::G1::G2::G3::G4::G5::G6::G7::G8::G9::H0::H1::H2::H3::H4::H5::H6::H7::H8::H9::I0::I1::I2::I3::I4::I5::I6::I7::I8::I9::J0::J1::J2::J3::J4::J5::[]) w:=by
 delta jC
 revert h
 generalize (gm K B1)=qc0
 generalize (dN K)=qc1
 exact fun h=>Eq.mp (by kernel_rfl) h
theorem xI {K:KV} {w:World}
  (h:ld Q 108 r6 (fun J5=>sto Q 108 A0 J5 fun _=>aH Q [(some 108,A0),(none,cT)] K) w) :
  dN K (s0::node1::s2::node3::A0::A1::r6::q7::e8::all9::k_10::i11::x12::k_13::A8::A9::C0::C1::C2::C3::C4::C5::C6::C7::C8::C9::D0::D1::D2::D3::D4::D5::D6::D7::D8::D9::E0::E1::E2::E3::E4::E5::E6::E7::E8::E9::F0::F1::F2::F3::F4::F5::F6::F7::F8::F9::G0::G1::G2::G3::G4::G5::G6::G7::G8::G9::H0::H1::H2::H3::H4::H5::H6::H7::H8::H9::I0::I1::I2::I3::I4::I5::I6::I7::I8::I9::J0::J1::J2::J3::J4::J5::[]) w:=by
 delta dN
 revert h
 exact fun h=>Eq.mp (by kernel_rfl) h
theorem pE {K:KV} {B1:KE} {w:World}
  (h:bin Q BinOp.add 3 false true H1 (ci 1) (fun J4=>B1 (s0::node1::s2::node3::A0::A1::r6::q7::e8::all9::k_10::i11::x12::k_13::A8::A9::C0::C1::C2::C3::C4::C5::C6::C7::C8::C9::D0::D1::D2::D3::D4::D5::D6::D7::D8::D9::E0::E1::E2::E3::E4::E5::E6::E7::E8::E9::F0::F1::F2::F3::F4::F5::F6::F7::F8::F9::G0::G1::G2::G3::G4::G5::G6::G7::G8::G9::H0::J4::H2::H3::H4::H5::H6::H7::H8::H9::I0::I1::I2::I3::I4::I5::I6::I7::I8::I9::J0::J1::J2::J3::J4::J5::[])) w) :
  gm K B1 (s0::node1::s2::node3::A0::A1::r6::q7::e8::all9::k_10::i11::x12::k_13::A8::A9::C0::C1::C2::C3::C4::C5::C6::C7::C8::C9::D0::D1::D2::D3::D4::D5::D6::D7::D8::D9::E0::E1::E2::E3::E4::E5::E6::E7::E8::E9::F0::F1::F2::F3::F4::F5::F6::F7::F8::F9::G0::G1::G2::G3::G4::G5::G6::G7::G8::G9::H0::H1::H2::H3::H4::H5::H6::H7::H8::H9::I0::I1::I2::I3::I4::I5::I6::I7::I8::I9::J0::J1::J2::J3::J4::J5::[]) w:=by
 delta gm
 revert h
 generalize (dN K)=qc0
 exact fun h=>Eq.mp (by kernel_rfl) h
attribute [irreducible] jB gk kE dN kF gm jC
def fG (K:KV):KE:=ac Q (cd Tryz.f16 [1,1,1,1]) (rk Tryz.f16 K) xf (rk Tryz.f16 K)
def ke (K:KV):KE:=ac Q (cd Tryz.f16 [1,1,1,0,1,0]) (fG K) (xx xf (fG K) 0) (rk Tryz.f16 K)
end
theorem yM {K:KV} {s0 node1 i2:Value} {w:World}
  (h:box Q 30 s0 (fun s3=>ld Q 30 s3 fun A6=>call Q 32 #[A6,node1] fun A8=>ext Q A8 0 fun A9=>ext Q A8 1 fun C0=>alc Q 108 fun r7=>sto Q 108 r7 A9 fun _=>un Q UnOp.not C0 fun C2 w=>cond C2 (K (ci 0) w) (aa Q 108 r7 0 (fun C3=>ld Q 56 C3 fun C4=>blt Q Builtin.len #[56] 3 #[false] #[C4] fun C5=>ke K [s0,node1,i2,s3,undef,undef,ci 0,r7,C0,undef,undef,A8,A6,node1,A8,A9,C0,C0,C2,C3,C4,C5,ci 0,undef,undef,undef,undef,undef,undef,undef,undef,undef,undef,undef,undef]) w)) w) :
  Gives Q 16 #[s0,node1,i2] w K:=by
 refine aK Tryz.func16 (by kernel_rfl) ?_
 revert h
 delta ke fG
 exact fun h=>Eq.mp (by kernel_rfl) h
theorem yN:bD Q 16:=⟨_,Tryz.func16,by kernel_rfl,by kernel_rfl⟩
theorem wj {K:KV} {s0 node1 i2 s3 node4 i5 A2 r7 is8 k_9 j10 A5 A6 A7 A8 A9 C0 C1 C2 C3 C4 C5 C6 C7 C8 C9 D0 D1 D2 D3 D4 D5 D6 D7 D8:Value} {w:World} (Inv:Value→World→Prop) (μ:Value→World→Nat) (h0:Inv C6 w)
  (hs:∀ (C6':Value) (dd:Nat→Value) (w:World) (m:Nat),Inv C6' w→m=μ C6' w →
  bin Q BinOp.lss 3 false false C6' C5 (fun C7 w=>cond C7 (af Q 56 C4 C6' (fun C9=>ld Q 3 C9 fun D0=>bin Q BinOp.eql 3 false false D0 i2 fun D3 w=>cond D3 (aa Q 108 r7 3 (fun D5=>af Q 33 D5 C6' fun D6=>ld Q 2 D6 K) w) (bin Q BinOp.add 3 false true C6' (ci 1) (fun D8 w=>(Inv D8 w)∧((μ D8 w)<m)) w)) w) (fG K [s0,node1,i2,s3,node4,i5,dd 6,r7,is8,dd 9,dd 10,A5,A6,A7,A8,A9,C0,C1,C2,C3,C4,C5,C6',C7,dd 24,dd 25,dd 26,dd 27,dd 28,dd 29,dd 30,dd 31,dd 32,dd 33,dd 34] w)) w) :
  ke K [s0,node1,i2,s3,node4,i5,A2,r7,is8,k_9,j10,A5,A6,A7,A8,A9,C0,C1,C2,C3,C4,C5,C6,C7,C8,C9,D0,D1,D2,D3,D4,D5,D6,D7,D8] w:=by
 refine aB (cd Tryz.f16 [1,1,1,0,1,0,0]) [6,9,10,22,23,24,25,26,27,28,29,30,31,32,33,34] (by kernel_rfl) (fun e2 w2=>Inv (gd e2 22) w2) (fun e2 w2=>μ (gd e2 22) w2) h0 ?_
 intro e' w' hI
 have h:=hs (gd e' 22) (fun i=>gd e' i) w' _ hI rfl
 revert h
 generalize (fG K)=qc0
 exact fun h=>Eq.mp (by kernel_rfl) h
theorem wl {K:KV} {s0 node1 i2 s3 node4 i5 A2 r7 is8 k_9 j10 A5 A6 A7 A8 A9 C0 C1 C2 C3 C4 C5 C6 C7 C8 C9 D0 D1 D2 D3 D4 D5 D6 D7 D8:Value} {w:World}
  (h:K (ci 0) w) :
  fG K [s0,node1,i2,s3,node4,i5,A2,r7,is8,k_9,j10,A5,A6,A7,A8,A9,C0,C1,C2,C3,C4,C5,C6,C7,C8,C9,D0,D1,D2,D3,D4,D5,D6,D7,D8] w:=by
 delta fG
 revert h
 exact fun h=>Eq.mp (by kernel_rfl) h
attribute [irreducible] fG ke
def kf (K:KV):KE:=ac Q (cd Tryz.f17 [1,1,1,1,1,0]) (rk Tryz.f17 K) (xx xf (rk Tryz.f17 K) 0) (rk Tryz.f17 K)
def eX (K:KV) (B1:KE):KE:=ac Q (cd Tryz.f17 [1,1,1,1,1,0,0,0,1]) B1 (xx (xx xf (rk Tryz.f17 K) 0) B1 1) (rk Tryz.f17 K)
def kg (K:KV) (B1:KE):KE:=ac Q (cd Tryz.f17 [1,1,1,1,1,0,0,0,0,0]) (eX K B1) (xx (xx (xx xf (rk Tryz.f17 K) 0) B1 1) (eX K B1) 2) (rk Tryz.f17 K)
def eY (K:KV) (B1:KE):KE:=ac Q (cd Tryz.f17 [1,1,1,1,1,0,0,0,1,1]) B1 (xx (xx xf (rk Tryz.f17 K) 0) B1 1) (rk Tryz.f17 K)
def kh (K:KV) (B1:KE):KE:=ac Q (cd Tryz.f17 [1,1,1,1,1,0,0,0,1,0,0]) (eY K B1) (xx (xx (xx xf (rk Tryz.f17 K) 0) B1 1) (eY K B1) 4) (rk Tryz.f17 K)
def ja (K:KV) (B1:KE):KE:=ac Q (cd Tryz.f17 [1,1,1,1,1,0,0,0,1,1,1,1]) B1 (xx (xx xf (rk Tryz.f17 K) 0) B1 1) (rk Tryz.f17 K)
theorem yO {K:KV} {s0 node1:Value} {w:World}
  (h:box Q 30 s0 (fun s2=>ld Q 30 s2 fun A6=>call Q 32 #[A6,node1] fun A8=>ext Q A8 0 fun A9=>ext Q A8 1 fun C0=>alc Q 108 fun r5=>sto Q 108 r5 A9 fun _=>un Q UnOp.not C0 fun C2 w=>cond C2 (K cN w) (kf K (s0::node1::s2::undef::cN::r5::C0::cN::(ci 0)::(ci 0)::undef::A8::A6::node1::A8::A9::C0::C0::C2::undef::undef::undef::undef::undef::undef::undef::undef::undef::undef::undef::undef::undef::undef::undef::undef::undef::undef::undef::undef::undef::undef::undef::undef::undef::undef::undef::undef::undef::undef::undef::undef::undef::undef::undef::undef::undef::undef::undef::undef::undef::undef::undef::undef::undef::undef::undef::undef::undef::undef::undef::undef::undef::undef::undef::undef::undef::undef::undef::undef::undef::undef::undef::undef::undef::undef::undef::undef::undef::undef::undef::undef::undef::undef::undef::undef::undef::undef::undef::undef::undef::undef::undef::undef::undef::undef::undef::undef::undef::undef::undef::undef::undef::undef::undef::[]) w)) w) :
  Gives Q 17 #[s0,node1] w K:=by
 refine aK Tryz.func17 (by kernel_rfl) ?_
 revert h
 delta kf
 exact fun h=>Eq.mp (by kernel_rfl) h
theorem yP:bD Q 17:=⟨_,Tryz.func17,by kernel_rfl,by kernel_rfl⟩
section
variable {s0 node1 s2 node3 A0 r5 is6 out7 rich8 poor9 x10 A5 A6 A7 A8 A9 C0 C1 C2 C3 C4 C5 C6 C7 C8 C9 D0 D1 D2 D3 D4 D5 D6 D7 D8 D9 E0 E1 E2 E3 E4 E5 E6 E7 E8 E9 F0 F1 F2 F3 F4 F5 F6 F7 F8 F9 G0 G1 G2 G3 G4 G5 G6 G7 G8 G9 H0 H1 H2 H3 H4 H5 H6 H7 H8 H9 I0 I1 I2 I3 I4 I5 I6 I7 I8 I9 J0 J1 J2 J3 J4 J5 J6 J7 J8 J9 L0 L1 L2 L3 L4 L5 L6 L7 L8 L9 M0 M1 M2 M3 M4 M5 M6 M7:Value}
theorem wm {K:KV} {w:World} (Inv:Value→Value→Value→Value→Value→Value→Value→Value→Value→Value→Value→Value→Value→Value→Value→Value→Value→Value→Value→Value→Value→Value→Value→Value→Value→World→Prop) (μ:Value→Value→Value→Value→Value→Value→Value→Value→Value→Value→Value→Value→Value→Value→Value→Value→Value→Value→Value→Value→Value→Value→Value→Value→Value→World→Nat) (h0:Inv out7 rich8 poor9 C8 C9 D0 D1 D2 D3 D4 D5 D6 E5 E6 E7 E8 E9 F0 F1 F2 F3 G2 G3 G4 G5 w)
  (hs:∀ (out7' rich8' poor9' C8' C9' D0' D1' D2' D3' D4' D5' D6' E5' E6' E7' E8' E9' F0' F1' F2' F3' G2' G3' G4' G5':Value) (dd:Nat→Value) (w:World) (m:Nat),Inv out7' rich8' poor9' C8' C9' D0' D1' D2' D3' D4' D5' D6' E5' E6' E7' E8' E9' F0' F1' F2' F3' G2' G3' G4' G5' w→m=μ out7' rich8' poor9' C8' C9' D0' D1' D2' D3' D4' D5' D6' E5' E6' E7' E8' E9' F0' F1' F2' F3' G2' G3' G4' G5' w →
  kg K (fun e2 w2=>(Inv (gd e2 7) (gd e2 8) (gd e2 9) (gd e2 24) (gd e2 25) (gd e2 26) (gd e2 27) (gd e2 28) (gd e2 29) (gd e2 30) (gd e2 31) (gd e2 32) (gd e2 41) (gd e2 42) (gd e2 43) (gd e2 44) (gd e2 45) (gd e2 46) (gd e2 47) (gd e2 48) (gd e2 49) (gd e2 58) (gd e2 59) (gd e2 60) (gd e2 61) w2)∧((μ (gd e2 7) (gd e2 8) (gd e2 9) (gd e2 24) (gd e2 25) (gd e2 26) (gd e2 27) (gd e2 28) (gd e2 29) (gd e2 30) (gd e2 31) (gd e2 32) (gd e2 41) (gd e2 42) (gd e2 43) (gd e2 44) (gd e2 45) (gd e2 46) (gd e2 47) (gd e2 48) (gd e2 49) (gd e2 58) (gd e2 59) (gd e2 60) (gd e2 61) w2)<m)) (s0::node1::s2::node3::(dd 4)::r5::is6::out7'::rich8'::poor9'::(dd 10)::A5::A6::A7::A8::A9::C0::C1::C2::(dd 19)::(dd 20)::(dd 21)::(dd 22)::(dd 23)::C8'::C9'::D0'::D1'::D2'::D3'::D4'::D5'::D6'::(dd 33)::(dd 34)::(dd 35)::(dd 36)::(dd 37)::(dd 38)::(dd 39)::(dd 40)::E5'::E6'::E7'::E8'::E9'::F0'::F1'::F2'::F3'::(dd 50)::(dd 51)::(dd 52)::(dd 53)::(dd 54)::(dd 55)::(dd 56)::(dd 57)::G2'::G3'::G4'::G5'::(dd 62)::(dd 63)::(dd 64)::(dd 65)::(dd 66)::(dd 67)::(dd 68)::(dd 69)::(dd 70)::(dd 71)::(dd 72)::(dd 73)::(dd 74)::(dd 75)::(dd 76)::(dd 77)::(dd 78)::(dd 79)::(dd 80)::(dd 81)::(dd 82)::(dd 83)::(dd 84)::(dd 85)::(dd 86)::(dd 87)::(dd 88)::(dd 89)::(dd 90)::(dd 91)::(dd 92)::(dd 93)::(dd 94)::(dd 95)::(dd 96)::(dd 97)::(dd 98)::(dd 99)::(dd 100)::(dd 101)::(dd 102)::(dd 103)::(dd 104)::(dd 105)::(dd 106)::(dd 107)::(dd 108)::(dd 109)::(dd 110)::(dd 111)::(dd 112)::(dd 113)::[]) w) :
  kf K (s0::node1::s2::node3::A0::r5::is6::out7::rich8::poor9::x10::A5::A6::A7::A8::A9::C0::C1::C2::C3::C4::C5::C6::C7::C8::C9::D0::D1::D2::D3::D4::D5::D6::D7::D8::D9::E0::E1::E2::E3::E4::E5::E6::E7::E8::E9::F0::F1::F2::F3::F4::F5::F6::F7::F8::F9::G0::G1::G2::G3::G4::G5::G6::G7::G8::G9::H0::H1::H2::H3::H4::H5::H6::H7::H8::H9::I0::I1::I2::I3::I4::I5::I6::I7::I8::I9::J0::J1::J2::J3::J4::J5::J6::J7::J8::J9::L0::L1::L2::L3::L4::L5::L6::L7::L8::L9::M0::M1::M2::M3::M4::M5::M6::M7::[]) w:=by
 refine aB (cd Tryz.f17 [1,1,1,1,1,0,0]) [4,7,8,9,10,19,20,21,22,23,24,25,26,27,28,29,30,31,32,33,34,35,36,37,38,39,40,41,42,43,44,45,46,47,48,49,50,51,52,53,54,55,56,57,58,59,60,61,62,63,64,65,66,67,68,69,70,71,72,73,74,75,76,77,78,79,80,81,82,83,84,85,86,87,88,89,90,91,92,93,94,95,96,97,98,99,100,101,102,103,104,105,106,107,108,109,110,111,112,113] (by kernel_rfl) (fun e2 w2=>Inv (gd e2 7) (gd e2 8) (gd e2 9) (gd e2 24) (gd e2 25) (gd e2 26) (gd e2 27) (gd e2 28) (gd e2 29) (gd e2 30) (gd e2 31) (gd e2 32) (gd e2 41) (gd e2 42) (gd e2 43) (gd e2 44) (gd e2 45) (gd e2 46) (gd e2 47) (gd e2 48) (gd e2 49) (gd e2 58) (gd e2 59) (gd e2 60) (gd e2 61) w2) (fun e2 w2=>μ (gd e2 7) (gd e2 8) (gd e2 9) (gd e2 24) (gd e2 25) (gd e2 26) (gd e2 27) (gd e2 28) (gd e2 29) (gd e2 30) (gd e2 31) (gd e2 32) (gd e2 41) (gd e2 42) (gd e2 43) (gd e2 44) (gd e2 45) (gd e2 46) (gd e2 47) (gd e2 48) (gd e2 49) (gd e2 58) (gd e2 59) (gd e2 60) (gd e2 61) w2) h0 ?_
 intro e' w' hI
 have h:=hs (gd e' 7) (gd e' 8) (gd e' 9) (gd e' 24) (gd e' 25) (gd e' 26) (gd e' 27) (gd e' 28) (gd e' 29) (gd e' 30) (gd e' 31) (gd e' 32) (gd e' 41) (gd e' 42) (gd e' 43) (gd e' 44) (gd e' 45) (gd e' 46) (gd e' 47) (gd e' 48) (gd e' 49) (gd e' 58) (gd e' 59) (gd e' 60) (gd e' 61) (fun i=>gd e' i) w' _ hI rfl
 revert h
 delta kg eX
 exact fun h=>Eq.mp (by kernel_rfl) h
theorem wn {K:KV} {B1:KE} {w:World} (Inv:Value→Value→Value→Value→Value→Value→Value→Value→Value→Value→World→Prop) (μ:Value→Value→Value→Value→Value→Value→Value→Value→Value→Value→World→Nat) (h0:Inv rich8 C8 C9 D0 D1 D2 D3 D4 D5 D6 w)
  (hs:∀ (rich8' C8' C9' D0' D1' D2' D3' D4' D5' D6':Value) (dd:Nat→Value) (w:World) (m:Nat),Inv rich8' C8' C9' D0' D1' D2' D3' D4' D5' D6' w→m=μ rich8' C8' C9' D0' D1' D2' D3' D4' D5' D6' w →
  sti (aa Q 108 r5 1) (fun C4=>sti (ld Q 3 C4) fun C5=>sti (bin Q BinOp.lss 3 false false rich8' C5) fun C6 w=>au C6 true (fun k24=>sti (aa Q 108 r5 2) (fun C9=>sti (af Q 33 C9 rich8') fun D0=>sti (ld Q 2 D0) fun D1=>sti (aa Q 108 r5 3) fun D3=>sti (af Q 33 D3 rich8') fun D4=>sti (ld Q 2 D4) fun D5=>sti (bin Q BinOp.leq 2 false false D1 D5) fun D6=>k24 [rich8',C9,D0,D1,rich8',D3,D4,D5,D6]) w) (fun k=>k [undef,undef,undef,undef,undef,undef,undef,undef,undef] w) fun us24=>sti (pick C6 (gd us24 8) cF) fun D7 w=>cond D7 (bin Q BinOp.add 3 false true rich8' (ci 1) (fun D9 w=>(Inv D9 (gd us24 0) (gd us24 1) (gd us24 2) (gd us24 3) (gd us24 4) (gd us24 5) (gd us24 6) (gd us24 7) (gd us24 8) w)∧((μ D9 (gd us24 0) (gd us24 1) (gd us24 2) (gd us24 3) (gd us24 4) (gd us24 5) (gd us24 6) (gd us24 7) (gd us24 8) w)<m)) w) (eX K B1 (s0::node1::s2::node3::A0::r5::is6::out7::rich8'::poor9::x10::A5::A6::A7::A8::A9::C0::C1::C2::rich8'::C4::C5::C6::C6::(gd us24 0)::(gd us24 1)::(gd us24 2)::(gd us24 3)::(gd us24 4)::(gd us24 5)::(gd us24 6)::(gd us24 7)::(gd us24 8)::D7::(dd 34)::(dd 35)::E0::E1::E2::E3::E4::E5::E6::E7::E8::E9::F0::F1::F2::F3::F4::F5::F6::F7::F8::F9::G0::G1::G2::G3::G4::G5::G6::G7::G8::G9::H0::H1::H2::H3::H4::H5::H6::H7::H8::H9::I0::I1::I2::I3::I4::I5::I6::I7::I8::I9::J0::J1::J2::J3::J4::J5::J6::J7::J8::J9::L0::L1::L2::L3::L4::L5::L6::L7::L8::L9::M0::M1::M2::M3::M4::M5::M6::M7::[]) w)) w.drew) :
  kg K B1 (s0::node1::s2::node3::A0::r5::is6::out7::rich8::poor9::x10::A5::A6::A7::A8::A9::C0::C1::C2::C3::C4::C5::C6::C7::C8::C9::D0::D1::D2::D3::D4::D5::D6::D7::D8::D9::E0::E1::E2::E3::E4::E5::E6::E7::E8::E9::F0::F1::F2::F3::F4::F5::F6::F7::F8::F9::G0::G1::G2::G3::G4::G5::G6::G7::G8::G9::H0::H1::H2::H3::H4::H5::H6::H7::H8::H9::I0::I1::I2::I3::I4::I5::I6::I7::I8::I9::J0::J1::J2::J3::J4::J5::J6::J7::J8::J9::L0::L1::L2::L3::L4::L5::L6::L7::L8::L9::M0::M1::M2::M3::M4::M5::M6::M7::[]) w:=by
 refine aB (cd Tryz.f17 [1,1,1,1,1,0,0,0,0,0,0]) [8,19,20,21,22,23,24,25,26,27,28,29,30,31,32,33,34,35] (by kernel_rfl) (fun e2 w2=>Inv (gd e2 8) (gd e2 24) (gd e2 25) (gd e2 26) (gd e2 27) (gd e2 28) (gd e2 29) (gd e2 30) (gd e2 31) (gd e2 32) w2) (fun e2 w2=>μ (gd e2 8) (gd e2 24) (gd e2 25) (gd e2 26) (gd e2 27) (gd e2 28) (gd e2 29) (gd e2 30) (gd e2 31) (gd e2 32) w2) h0 ?_
 intro e' w' hI
 have h:=hs (gd e' 8) (gd e' 24) (gd e' 25) (gd e' 26) (gd e' 27) (gd e' 28) (gd e' 29) (gd e' 30) (gd e' 31) (gd e' 32) (fun i=>gd e' i) w' _ hI rfl
 revert h
 generalize (eX K B1)=qc0
 exact fun h=>Eq.mp (by kernel_rfl) h
theorem wo {K:KV} {B1:KE} {w:World}
  (h:kh K B1 (s0::node1::s2::node3::A0::r5::is6::out7::rich8::poor9::x10::A5::A6::A7::A8::A9::C0::C1::C2::C3::C4::C5::C6::C7::C8::C9::D0::D1::D2::D3::D4::D5::D6::D7::D8::D9::E0::E1::E2::E3::E4::E5::E6::E7::E8::E9::F0::F1::F2::F3::F4::F5::F6::F7::F8::F9::G0::G1::G2::G3::G4::G5::G6::G7::G8::G9::H0::H1::H2::H3::H4::H5::H6::H7::H8::H9::I0::I1::I2::I3::I4::I5::I6::I7::I8::I9::J0::J1::J2::J3::J4::J5::J6::J7::J8::J9::L0::L1::L2::L3::L4::L5::L6::L7::L8::L9::M0::M1::M2::M3::M4::M5::M6::M7::[]) w) :
  eX K B1 (s0::node1::s2::node3::A0::r5::is6::out7::rich8::poor9::x10::A5::A6::A7::A8::A9::C0::C1::C2::C3::C4::C5::C6::C7::C8::C9::D0::D1::D2::D3::D4::D5::D6::D7::D8::D9::E0::E1::E2::E3::E4::E5::E6::E7::E8::E9::F0::F1::F2::F3::F4::F5::F6::F7::F8::F9::G0::G1::G2::G3::G4::G5::G6::G7::G8::G9::H0::H1::H2::H3::H4::H5::H6::H7::H8::H9::I0::I1::I2::I3::I4::I5::I6::I7::I8::I9::J0::J1::J2::J3::J4::J5::J6::J7::J8::J9::L0::L1::L2::L3::L4::L5::L6::L7::L8::L9::M0::M1::M2::M3::M4::M5::M6::M7::[]) w:=by
 delta eX
 revert h
 delta kh eY
 exact fun h=>Eq.mp (by kernel_rfl) h
theorem wq {K:KV} {B1:KE} {w:World} (Inv:Value→Value→Value→Value→Value→Value→Value→Value→Value→Value→World→Prop) (μ:Value→Value→Value→Value→Value→Value→Value→Value→Value→Value→World→Nat) (h0:Inv poor9 E5 E6 E7 E8 E9 F0 F1 F2 F3 w)
  (hs:∀ (poor9' E5' E6' E7' E8' E9' F0' F1' F2' F3':Value) (dd:Nat→Value) (w:World) (m:Nat),Inv poor9' E5' E6' E7' E8' E9' F0' F1' F2' F3' w→m=μ poor9' E5' E6' E7' E8' E9' F0' F1' F2' F3' w →
  sti (aa Q 108 r5 1) (fun E1=>sti (ld Q 3 E1) fun E2=>sti (bin Q BinOp.lss 3 false false poor9' E2) fun E3 w=>au E3 true (fun k41=>sti (aa Q 108 r5 2) (fun E6=>sti (af Q 33 E6 poor9') fun E7=>sti (ld Q 2 E7) fun E8=>sti (aa Q 108 r5 3) fun F0=>sti (af Q 33 F0 poor9') fun F1=>sti (ld Q 2 F1) fun F2=>sti (bin Q BinOp.geq 2 false false E8 F2) fun F3=>k41 [poor9',E6,E7,E8,poor9',F0,F1,F2,F3]) w) (fun k=>k [undef,undef,undef,undef,undef,undef,undef,undef,undef] w) fun us41=>sti (pick E3 (gd us41 8) cF) fun F4 w=>cond F4 (bin Q BinOp.add 3 false true poor9' (ci 1) (fun F6 w=>(Inv F6 (gd us41 0) (gd us41 1) (gd us41 2) (gd us41 3) (gd us41 4) (gd us41 5) (gd us41 6) (gd us41 7) (gd us41 8) w)∧((μ F6 (gd us41 0) (gd us41 1) (gd us41 2) (gd us41 3) (gd us41 4) (gd us41 5) (gd us41 6) (gd us41 7) (gd us41 8) w)<m)) w) (eY K B1 (s0::node1::s2::node3::A0::r5::is6::out7::rich8::poor9'::x10::A5::A6::A7::A8::A9::C0::C1::C2::C3::C4::C5::C6::C7::C8::C9::D0::D1::D2::D3::D4::D5::D6::D7::D8::D9::poor9'::E1::E2::E3::E3::(gd us41 0)::(gd us41 1)::(gd us41 2)::(gd us41 3)::(gd us41 4)::(gd us41 5)::(gd us41 6)::(gd us41 7)::(gd us41 8)::F4::(dd 51)::(dd 52)::F7::F8::F9::G0::G1::G2::G3::G4::G5::G6::G7::G8::G9::H0::H1::H2::H3::H4::H5::H6::H7::H8::H9::I0::I1::I2::I3::I4::I5::I6::I7::I8::I9::J0::J1::J2::J3::J4::J5::J6::J7::J8::J9::L0::L1::L2::L3::L4::L5::L6::L7::L8::L9::M0::M1::M2::M3::M4::M5::M6::M7::[]) w)) w.drew) :
  kh K B1 (s0::node1::s2::node3::A0::r5::is6::out7::rich8::poor9::x10::A5::A6::A7::A8::A9::C0::C1::C2::C3::C4::C5::C6::C7::C8::C9::D0::D1::D2::D3::D4::D5::D6::D7::D8::D9::E0::E1::E2::E3::E4::E5::E6::E7::E8::E9::F0::F1::F2::F3::F4::F5::F6::F7::F8::F9::G0::G1::G2::G3::G4::G5::G6::G7::G8::G9::H0::H1::H2::H3::H4::H5::H6::H7::H8::H9::I0::I1::I2::I3::I4::I5::I6::I7::I8::I9::J0::J1::J2::J3::J4::J5::J6::J7::J8::J9::L0::L1::L2::L3::L4::L5::L6::L7::L8::L9::M0::M1::M2::M3::M4::M5::M6::M7::[]) w:=by
 refine aB (cd Tryz.f17 [1,1,1,1,1,0,0,0,1,0,0,0]) [9,36,37,38,39,40,41,42,43,44,45,46,47,48,49,50,51,52] (by kernel_rfl) (fun e2 w2=>Inv (gd e2 9) (gd e2 41) (gd e2 42) (gd e2 43) (gd e2 44) (gd e2 45) (gd e2 46) (gd e2 47) (gd e2 48) (gd e2 49) w2) (fun e2 w2=>μ (gd e2 9) (gd e2 41) (gd e2 42) (gd e2 43) (gd e2 44) (gd e2 45) (gd e2 46) (gd e2 47) (gd e2 48) (gd e2 49) w2) h0 ?_
 intro e' w' hI
 have h:=hs (gd e' 9) (gd e' 41) (gd e' 42) (gd e' 43) (gd e' 44) (gd e' 45) (gd e' 46) (gd e' 47) (gd e' 48) (gd e' 49) (fun i=>gd e' i) w' _ hI rfl
 revert h
 generalize (eY K B1)=qc0
 exact fun h=>Eq.mp (by kernel_rfl) h
theorem wt {K:KV} {B1:KE} {w:World}
  (h:aa Q 108 r5 1 (fun F8=>ld Q 3 F8 fun F9=>bin Q BinOp.eql 3 false false rich8 F9 fun G0 w=>au G0 false (fun k58=>aa Q 108 r5 1 (fun G3=>ld Q 3 G3 fun G4=>bin Q BinOp.eql 3 false false poor9 G4 fun G5=>k58 [poor9,G3,G4,G5]) w) (fun k=>k [undef,undef,undef,undef] w) fun us58=>pick G0 cT (gd us58 3) fun G6 w=>cond G6 (K out7 w) (aX (fun S w=>hld S (aa Q 108 r5 2) fun G9=>hld S (af Q 33 G9 rich8) fun H0=>hld S (ld Q 2 H0) fun H1=>hld S (aa Q 108 r5 3) fun H3=>hld S (af Q 33 H3 rich8) fun H4=>hld S (ld Q 2 H4) fun H5=>hld (fun _=>True) (bin Q BinOp.sub 2 false false H1 H5) fun H6=>hld S (aa Q 108 r5 3) fun H8=>hld S (af Q 33 H8 poor9) fun H9=>hld S (ld Q 2 H9) fun I0=>hld S (aa Q 108 r5 2) fun I2=>hld S (af Q 33 I2 poor9) fun I3=>hld S (ld Q 2 I3) fun I4=>hld (fun _=>True) (bin Q BinOp.sub 2 false false I0 I4) fun I5=>blt Q Builtin.min #[2,2] 2 #[false,false] #[H6,I5] (fun I6=>aX fun _=>ja K B1 (s0::node1::s2::node3::A0::r5::is6::out7::rich8::poor9::I6::A5::A6::A7::A8::A9::C0::C1::C2::C3::C4::C5::C6::C7::C8::C9::D0::D1::D2::D3::D4::D5::D6::D7::D8::D9::E0::E1::E2::E3::E4::E5::E6::E7::E8::E9::F0::F1::F2::F3::F4::F5::F6::rich8::F8::F9::G0::G0::(gd us58 0)::(gd us58 1)::(gd us58 2)::(gd us58 3)::G6::G7::rich8::G9::H0::H1::rich8::H3::H4::H5::H6::poor9::H8::H9::I0::poor9::I2::I3::I4::I5::I6::I7::I8::I9::J0::J1::J2::J3::J4::J5::J6::J7::J8::J9::L0::L1::L2::L3::L4::L5::L6::L7::L8::L9::M0::M1::M2::M3::M4::M5::M6::M7::[])) w) w.drew)) w) :
  eY K B1 (s0::node1::s2::node3::A0::r5::is6::out7::rich8::poor9::x10::A5::A6::A7::A8::A9::C0::C1::C2::C3::C4::C5::C6::C7::C8::C9::D0::D1::D2::D3::D4::D5::D6::D7::D8::D9::E0::E1::E2::E3::E4::E5::E6::E7::E8::E9::F0::F1::F2::F3::F4::F5::F6::F7::F8::F9::G0::G1::G2::G3::G4::G5::G6::G7::G8::G9::H0::H1::H2::H3::H4::H5::H6::H7::H8::H9::I0::I1::I2::I3::I4::I5::I6::I7::I8::I9::J0::J1::J2::J3::J4::J5::J6::J7::J8::J9::L0::L1::L2::L3::L4::L5::L6::L7::L8::L9::M0::M1::M2::M3::M4::M5::M6::M7::[]) w:=by
 delta eY
 refine Eq.mp (congrArg (fun c=>ac Q c _ _ _ _ w) (by kernel_rfl:(rep [1,1] (cd Tryz.f17 [1,1,1,1,1,0,0,0,1,1,1,1]) (cd Tryz.f17 [1,1,1,1,1,0,0,0,1,1]))=(cd Tryz.f17 [1,1,1,1,1,0,0,0,1,1]))) ?_
 revert h
 delta ja
 generalize (cd Tryz.f17 [1,1,1,1,1,0,0,0,1,1,1,1])=xc0
 exact fun h=>Eq.mp (by kernel_rfl) h
theorem ww {K:KV} {B1:KE} {w:World}
  (h:aa Q 108 r5 2 (fun I8=>af Q 33 I8 rich8 fun I9=>ld Q 2 I9 fun J0=>bin Q BinOp.sub 2 false false J0 x10 fun J2=>aa Q 108 r5 2 fun J3=>af Q 33 J3 rich8 fun J4=>sto Q 2 J4 J2 fun _=>aa Q 108 r5 2 fun J6=>af Q 33 J6 poor9 fun J7=>ld Q 2 J7 fun J8=>bin Q BinOp.add 2 false false J8 x10 fun L0=>aa Q 108 r5 2 fun L1=>af Q 33 L1 poor9 fun L2=>sto Q 2 L2 L0 fun _ w=>aX (fun S w=>hld S (aa Q 108 r5 0) fun L4=>hld S (ld Q 56 L4) fun L5=>hld S (af Q 56 L5 rich8) fun L7=>hld S (ld Q 3 L7) fun L8=>hld S (aa Q 108 r5 0) fun L9=>hld S (ld Q 56 L9) fun M0=>hld S (af Q 56 M0 poor9) fun M2=>hld S (ld Q 3 M2) fun M3=>hld S (bld Q 69 #[(0,L8),(1,M3),(2,x10)]) fun M5=>aJ Q 65 1 #[(0,M5)] (fun M6=>aX fun _=>blt Q Builtin.append #[65,65] 65 #[false,false] #[out7,M6] fun M7=>aX fun _=>B1 (s0::node1::s2::node3::A0::r5::is6::M7::rich8::poor9::x10::A5::A6::A7::A8::A9::C0::C1::C2::C3::C4::C5::C6::C7::C8::C9::D0::D1::D2::D3::D4::D5::D6::D7::D8::D9::E0::E1::E2::E3::E4::E5::E6::E7::E8::E9::F0::F1::F2::F3::F4::F5::F6::F7::F8::F9::G0::G1::G2::G3::G4::G5::G6::G7::G8::G9::H0::H1::H2::H3::H4::H5::H6::H7::H8::H9::I0::I1::I2::I3::I4::I5::I6::rich8::I8::I9::J0::x10::J2::J3::J4::poor9::J6::J7::J8::x10::L0::L1::L2::out7::L4::L5::rich8::L7::L8::L9::M0::poor9::M2::M3::x10::M5::M6::M7::[])) w) w.drew) w) :
  ja K B1 (s0::node1::s2::node3::A0::r5::is6::out7::rich8::poor9::x10::A5::A6::A7::A8::A9::C0::C1::C2::C3::C4::C5::C6::C7::C8::C9::D0::D1::D2::D3::D4::D5::D6::D7::D8::D9::E0::E1::E2::E3::E4::E5::E6::E7::E8::E9::F0::F1::F2::F3::F4::F5::F6::F7::F8::F9::G0::G1::G2::G3::G4::G5::G6::G7::G8::G9::H0::H1::H2::H3::H4::H5::H6::H7::H8::H9::I0::I1::I2::I3::I4::I5::I6::I7::I8::I9::J0::J1::J2::J3::J4::J5::J6::J7::J8::J9::L0::L1::L2::L3::L4::L5::L6::L7::L8::L9::M0::M1::M2::M3::M4::M5::M6::M7::[]) w:=by
 delta ja
 revert h
 exact fun h=>Eq.mp (by kernel_rfl) h
attribute [irreducible] kf eX kg eY kh ja
def cO (K:KV):KE:=ac Q (cd Tryz.f13 [1,1,1]) (rk Tryz.f13 K) xf (rk Tryz.f13 K)
def kH (K:KV):KE:=ac Q (cd Tryz.f13 [1,1,0,1,0]) (cO K) (xx xf (cO K) 0) (rk Tryz.f13 K)
def db (K:KV) (B1:KE):KE:=ac Q (cd Tryz.f13 [1,1,0,1,0,0,1,1,1]) B1 (xx xf (cO K) 0) (rk Tryz.f13 K)
def kI (K:KV) (B1:KE):KE:=ac Q (cd Tryz.f13 [1,1,0,1,0,0,1,1,0,0,1,1,0]) (db K B1) (xx (xx (xx xf (cO K) 0) (db K B1) 1) (db K B1) 2) (rk Tryz.f13 K)
def gp (K:KV) (B1:KE) (B2:KE):KE:=ac Q (cd Tryz.f13 [1,1,0,1,0,0,1,1,0,0,1,1,0,0,1,1,1]) B2 (xx (xx (xx xf (cO K) 0) (db K B1) 1) (db K B1) 2) (rk Tryz.f13 K)
def jD (K:KV) (B1:KE) (B2:KE):KE:=ac Q (cd Tryz.f13 [1,1,0,1,0,0,1,1,0,0,1,1,0,0,1,1,0]) (gp K B1 B2) (xx (xx (xx xf (cO K) 0) (db K B1) 1) (db K B1) 2) (rk Tryz.f13 K)
end
theorem zZ {K:KV} {s0 i1:Value} {w:World}
  (h:box Q 30 s0 (fun s2=>aa Q 30 s2 3 fun A4=>ld Q 27 A4 fun A5=>blt Q Builtin.len #[27] 3 #[false] #[A5] fun A6=>kH K [s0,i1,s2,undef,cN,cN,undef,undef,undef,undef,A4,A5,A6,ci 0,undef,undef,undef,undef,undef,undef,undef,undef,undef,undef,undef,undef,undef,undef,undef,undef,undef,undef,undef,undef,undef,undef,undef,undef,undef,undef,undef,undef,undef]) w) :
  Gives Q 13 #[s0,i1] w K:=by
 refine aK Tryz.func13 (by kernel_rfl) ?_
 revert h
 delta kH cO
 exact fun h=>Eq.mp (by kernel_rfl) h
theorem Aa:bD Q 13:=⟨_,Tryz.func13,by kernel_rfl,by kernel_rfl⟩
theorem xJ {K:KV} {s0 i1 s2 i3 A0 out5 A2 n7 A3 m9 A4 A5 A6 A7 A8 A9 C0 C1 C2 C3 C4 C5 C6 C7 C8 C9 D0 D1 D2 D3 D4 D5 D6 D7 D8 D9 E0 E1 E2 E3 E4 E5 E6:Value} {w:World} (Inv:Value→Value→World→Prop) (μ:Value→Value→World→Nat) (h0:Inv out5 A7 w)
  (hs:∀ (out5' A7':Value) (dd:Nat→Value) (w:World) (m:Nat),Inv out5' A7' w→m=μ out5' A7' w →
  bin Q BinOp.lss 3 false false A7' A6 (fun A8 w=>cond A8 (af Q 27 A5 A7' (fun A9=>ld Q 38 A9 fun C0=>alc Q 38 fun n7=>sto Q 38 n7 C0 fun _=>ld Q 30 s2 fun C1=>aa Q 38 n7 0 fun C2=>ld Q 24 C2 fun C3=>call Q 17 #[C1,C3] fun C4=>blt Q Builtin.len #[65] 3 #[false] #[C4] fun C5=>kI K (fun e2 w2=>(Inv (gd e2 5) (gd e2 13) w2)∧((μ (gd e2 5) (gd e2 13) w2)<m)) [s0,i1,s2,i3,A0,out5',A2,n7,A3,dd 9,A4,A5,A6,A7',A8,A9,C0,C1,C2,C3,C4,C5,ci 0,dd 23,dd 24,dd 25,dd 26,dd 27,dd 28,dd 29,dd 30,dd 31,dd 32,dd 33,dd 34,dd 35,dd 36,dd 37,dd 38,dd 39,dd 40,dd 41,E6]) w) (cO K [s0,i1,s2,i3,A0,out5',A2,dd 7,A3,dd 9,A4,A5,A6,A7',A8,dd 15,dd 16,dd 17,dd 18,dd 19,dd 20,dd 21,dd 22,dd 23,dd 24,dd 25,dd 26,dd 27,dd 28,dd 29,dd 30,dd 31,dd 32,dd 33,dd 34,dd 35,dd 36,dd 37,dd 38,dd 39,dd 40,dd 41,E6] w)) w) :
  kH K [s0,i1,s2,i3,A0,out5,A2,n7,A3,m9,A4,A5,A6,A7,A8,A9,C0,C1,C2,C3,C4,C5,C6,C7,C8,C9,D0,D1,D2,D3,D4,D5,D6,D7,D8,D9,E0,E1,E2,E3,E4,E5,E6] w:=by
 refine aB (cd Tryz.f13 [1,1,0,1,0,0]) [5,7,9,13,14,15,16,17,18,19,20,21,22,23,24,25,26,27,28,29,30,31,32,33,34,35,36,37,38,39,40,41] (by kernel_rfl) (fun e2 w2=>Inv (gd e2 5) (gd e2 13) w2) (fun e2 w2=>μ (gd e2 5) (gd e2 13) w2) h0 ?_
 intro e' w' hI
 have h:=hs (gd e' 5) (gd e' 13) (fun i=>gd e' i) w' _ hI rfl
 revert h
 delta kI db
 generalize (cO K)=qc0
 exact fun h=>Eq.mp (by kernel_rfl) h
theorem xK {K:KV} {B1:KE} {s0 i1 s2 i3 A0 out5 A2 n7 A3 m9 A4 A5 A6 A7 A8 A9 C0 C1 C2 C3 C4 C5 C6 C7 C8 C9 D0 D1 D2 D3 D4 D5 D6 D7 D8 D9 E0 E1 E2 E3 E4 E5 E6:Value} {w:World} (Inv:Value→Value→World→Prop) (μ:Value→Value→World→Nat) (h0:Inv out5 C6 w)
  (hs:∀ (out5' C6':Value) (dd:Nat→Value) (w:World) (m:Nat),Inv out5' C6' w→m=μ out5' C6' w →
  bin Q BinOp.lss 3 false false C6' C5 (fun C7 w=>cond C7 (jD K B1 (fun e2 w2=>(Inv (gd e2 5) (gd e2 22) w2)∧((μ (gd e2 5) (gd e2 22) w2)<m)) [s0,i1,s2,i3,A0,out5',A2,n7,A3,dd 9,A4,A5,A6,A7,A8,A9,C0,C1,C2,C3,C4,C5,C6',C7,dd 24,dd 25,dd 26,dd 27,dd 28,dd 29,dd 30,dd 31,dd 32,dd 33,dd 34,dd 35,dd 36,dd 37,dd 38,dd 39,dd 40,E5,E6] w) (db K B1 [s0,i1,s2,i3,A0,out5',A2,n7,A3,dd 9,A4,A5,A6,A7,A8,A9,C0,C1,C2,C3,C4,C5,C6',C7,dd 24,dd 25,dd 26,dd 27,dd 28,dd 29,dd 30,dd 31,dd 32,dd 33,dd 34,dd 35,dd 36,dd 37,dd 38,dd 39,dd 40,E5,E6] w)) w) :
  kI K B1 [s0,i1,s2,i3,A0,out5,A2,n7,A3,m9,A4,A5,A6,A7,A8,A9,C0,C1,C2,C3,C4,C5,C6,C7,C8,C9,D0,D1,D2,D3,D4,D5,D6,D7,D8,D9,E0,E1,E2,E3,E4,E5,E6] w:=by
 refine aB (cd Tryz.f13 [1,1,0,1,0,0,1,1,0,0,1,1,0,0]) [5,9,22,23,24,25,26,27,28,29,30,31,32,33,34,35,36,37,38,39,40] (by kernel_rfl) (fun e2 w2=>Inv (gd e2 5) (gd e2 22) w2) (fun e2 w2=>μ (gd e2 5) (gd e2 22) w2) h0 ?_
 intro e' w' hI
 have h:=hs (gd e' 5) (gd e' 22) (fun i=>gd e' i) w' _ hI rfl
 refine Eq.mp (congrArg (fun c=>ac Q c _ _ _ _ w') (by kernel_rfl:(rep [1,1,0] (cd Tryz.f13 [1,1,0,1,0,0,1,1,0,0,1,1,0,0,1,1,0]) (cd Tryz.f13 [1,1,0,1,0,0,1,1,0,0,1,1,0,0]))=(cd Tryz.f13 [1,1,0,1,0,0,1,1,0,0,1,1,0,0]))) ?_
 revert h
 delta jD gp
 generalize (cd Tryz.f13 [1,1,0,1,0,0,1,1,0,0,1,1,0,0,1,1,0])=xc0
 generalize (cO K)=qc0
 generalize (db K B1)=qc1
 exact fun h=>Eq.mp (by kernel_rfl) h
theorem xL {K:KV} {s0 i1 s2 i3 A0 out5 A2 n7 A3 m9 A4 A5 A6 A7 A8 A9 C0 C1 C2 C3 C4 C5 C6 C7 C8 C9 D0 D1 D2 D3 D4 D5 D6 D7 D8 D9 E0 E1 E2 E3 E4 E5 E6:Value} {w:World}
  (h:K out5 w) :
  cO K [s0,i1,s2,i3,A0,out5,A2,n7,A3,m9,A4,A5,A6,A7,A8,A9,C0,C1,C2,C3,C4,C5,C6,C7,C8,C9,D0,D1,D2,D3,D4,D5,D6,D7,D8,D9,E0,E1,E2,E3,E4,E5,E6] w:=by
 delta cO
 revert h
 exact fun h=>Eq.mp (by kernel_rfl) h
theorem xM {K:KV} {B1:KE} {B2:KE} {s0 i1 s2 i3 A0 out5 A2 n7 A3 m9 A4 A5 A6 A7 A8 A9 C0 C1 C2 C3 C4 C5 C6 C7 C8 C9 D0 D1 D2 D3 D4 D5 D6 D7 D8 D9 E0 E1 E2 E3 E4 E5 E6:Value} {w:World}
  (h:af Q 65 C4 C6 (fun C8=>ld Q 69 C8 fun C9=>alc Q 69 fun m9=>sto Q 69 m9 C9 fun _=>aa Q 69 m9 0 fun D0=>ld Q 3 D0 fun D1=>bin Q BinOp.eql 3 false false D1 i1 fun D3 w=>cond D3 (aa Q 38 n7 0 (fun D5=>ld Q 24 D5 fun D6=>aa Q 69 m9 1 fun D7=>ld Q 3 D7 fun D8=>aa Q 69 m9 2 fun D9=>ld Q 2 D9 fun E0=>bld Q 61 #[(0,cb 5),(1,D6),(2,D8),(3,E0)] fun E1=>aJ Q 58 1 #[(0,E1)] fun E2=>blt Q Builtin.append #[58,58] 58 #[false,false] #[out5,E2] fun E3=>gp K B1 B2 [s0,i1,s2,i3,A0,E3,A2,n7,A3,m9,A4,A5,A6,A7,A8,A9,C0,C1,C2,C3,C4,C5,C6,C7,C8,C9,D0,D1,i1,D3,out5,D5,D6,D7,D8,D9,E0,E1,E2,E3,E4,E5,E6]) w) (gp K B1 B2 [s0,i1,s2,i3,A0,out5,A2,n7,A3,m9,A4,A5,A6,A7,A8,A9,C0,C1,C2,C3,C4,C5,C6,C7,C8,C9,D0,D1,i1,D3,D4,D5,D6,D7,D8,D9,E0,E1,E2,E3,E4,E5,E6] w)) w) :
  jD K B1 B2 [s0,i1,s2,i3,A0,out5,A2,n7,A3,m9,A4,A5,A6,A7,A8,A9,C0,C1,C2,C3,C4,C5,C6,C7,C8,C9,D0,D1,D2,D3,D4,D5,D6,D7,D8,D9,E0,E1,E2,E3,E4,E5,E6] w:=by
 delta jD
 revert h
 generalize (gp K B1 B2)=qc0
 generalize (cO K)=qc1
 generalize (db K B1)=qc2
 exact fun h=>Eq.mp (by kernel_rfl) h
theorem xN {K:KV} {B1:KE} {s0 i1 s2 i3 A0 out5 A2 n7 A3 m9 A4 A5 A6 A7 A8 A9 C0 C1 C2 C3 C4 C5 C6 C7 C8 C9 D0 D1 D2 D3 D4 D5 D6 D7 D8 D9 E0 E1 E2 E3 E4 E5 E6:Value} {w:World}
  (h:bin Q BinOp.add 3 false true A7 (ci 1) (fun E5=>B1 [s0,i1,s2,i3,A0,out5,A2,n7,A3,m9,A4,A5,A6,E5,A8,A9,C0,C1,C2,C3,C4,C5,C6,C7,C8,C9,D0,D1,D2,D3,D4,D5,D6,D7,D8,D9,E0,E1,E2,E3,E4,E5,E6]) w) :
  db K B1 [s0,i1,s2,i3,A0,out5,A2,n7,A3,m9,A4,A5,A6,A7,A8,A9,C0,C1,C2,C3,C4,C5,C6,C7,C8,C9,D0,D1,D2,D3,D4,D5,D6,D7,D8,D9,E0,E1,E2,E3,E4,E5,E6] w:=by
 delta db
 revert h
 generalize (cO K)=qc0
 exact fun h=>Eq.mp (by kernel_rfl) h
theorem pF {K:KV} {B1:KE} {B2:KE} {s0 i1 s2 i3 A0 out5 A2 n7 A3 m9 A4 A5 A6 A7 A8 A9 C0 C1 C2 C3 C4 C5 C6 C7 C8 C9 D0 D1 D2 D3 D4 D5 D6 D7 D8 D9 E0 E1 E2 E3 E4 E5 E6:Value} {w:World}
  (h:bin Q BinOp.add 3 false true C6 (ci 1) (fun E4=>B2 [s0,i1,s2,i3,A0,out5,A2,n7,A3,m9,A4,A5,A6,A7,A8,A9,C0,C1,C2,C3,C4,C5,E4,C7,C8,C9,D0,D1,D2,D3,D4,D5,D6,D7,D8,D9,E0,E1,E2,E3,E4,E5,E6]) w) :
  gp K B1 B2 [s0,i1,s2,i3,A0,out5,A2,n7,A3,m9,A4,A5,A6,A7,A8,A9,C0,C1,C2,C3,C4,C5,C6,C7,C8,C9,D0,D1,D2,D3,D4,D5,D6,D7,D8,D9,E0,E1,E2,E3,E4,E5,E6] w:=by
 delta gp
 revert h
 generalize (cO K)=qc0
 generalize (db K B1)=qc1
 exact fun h=>Eq.mp (by kernel_rfl) h
attribute [irreducible] cO kH db kI gp jD
end Go.Proofs.YtgpfkmdknlcemaaGreatDoor
namespace Go.Proofs.YtgpfkmdknlcemaaGreatDoor
set_option maxRecDepth 100000
open Go.RowKit
def hK (l:List Int) (k:Nat):List Value:=(List.range 6).map fun j=>iv (if j < k then nB l j else 0)
def cP (a:Option Addr) (n c:Nat) (cnt:Int) (H S:List Value):List Value:=.slice a n c::iv cnt::(H++S)
theorem eP (l:List Int) (k:Nat):(hK l k).length=6:=by simp [hK]
theorem FN {a:Option Addr} {n c k:Nat} {cnt:Int} {l:List Int} {S:List Value} (hk:k < 6):(cP a n c cnt (hK l k) S).set (2+k) (iv (nB l k))=cP a n c cnt (hK l (k+1)) S:=by
 match k,hk with
 | 0,_=>rfl
 | 1,_=>rfl
 | 2,_=>rfl
 | 3,_=>rfl
 | 4,_=>rfl
 | 5,_=>rfl
theorem FO {a:Option Addr} {n c k m:Nat} {cnt:Int} {l h:List Int} (hk:k < 6):(cP a n c cnt (hK h m) (hK l k)).set (8+k) (iv (nB l k))=cP a n c cnt (hK h m) (hK l (k+1)):=by
 match k,hk with
 | 0,_=>rfl
 | 1,_=>rfl
 | 2,_=>rfl
 | 3,_=>rfl
 | 4,_=>rfl
 | 5,_=>rfl
theorem kq {a:Option Addr} {n c:Nat} {cnt:Int} {H S:List Value} (h1:H.length=6) (h2:S.length=6):(cP a n c cnt H S).length=14:=by simp [cP,h1,h2]
def z6:List Value:=List.replicate 6 (iv 0)
def row0:List Value:=cP none 0 0 0 z6 z6
theorem Ab {I L:List Bool} {k:Nat} {x:Int} (h:x ∈ bS I L k):1≤x∧x≤k:=by
 simp only [bS,List.mem_map,List.mem_filter,List.mem_range] at h
 obtain ⟨j,⟨hj,_⟩,rfl⟩:=h
 omega
theorem DQ {l:List Int} {k:Nat} {a:Int} (hk:k < l.length):lf (l.drop k) a=if nB l k < 0∨nB l k > MXA - a then none else lf (l.drop (k+1)) (a+nB l k):=by
 rw [List.drop_eq_getElem_cons hk]
 have:nB l k=l[k]:=by simp [nB,List.getD,hk]
 rw [this]; rfl
theorem Ac {all:Int} {c k:Nat} (hk:k < c):nB (shL all c) k=shr all c k:=by simp [nB,shL,List.getD,hk]
theorem BF {A live:List Int} {k:Nat} (hk:k < live.length):nB (iS A live) k=jR A (nB live k - 1).toNat:=by simp [nB,iS,List.getD,hk]
theorem BG (L:List ND) (id:Int):(ofN L id).1.length=8:=by unfold ofN; split <;> simp [quA,qz]
theorem BH (L:List ND) (id:Int):∀ v ∈ (ofN L id).1,v.oneCell'=true:=by
 unfold ofN
 split
 ·simp only [quA,List.mem_cons,List.mem_map]
  rintro v (rfl | rfl | ⟨k,_,rfl⟩) <;> rfl
 ·simp [qz,iv,Value.oneCell']
theorem ls {a:Option Addr} {n c:Nat} {cnt:Int} {H S:List Value} (h1:∀ v ∈ H,v.oneCell'=true) (h2:∀ v ∈ S,v.oneCell'=true):∀ v ∈ cP a n c cnt H S,v.oneCell'=true:=by
 simp only [cP,List.mem_cons,List.mem_append]
 rintro v (rfl | rfl | h | h)
 ·rfl
 ·rfl
 ·exact h1 v h
 ·exact h2 v h
theorem pG (l:List Int) (k:Nat):∀ v ∈ hK l k,v.oneCell'=true:=by
 simp only [hK,List.mem_map]
 rintro v ⟨j,_,rfl⟩
 rfl
theorem DR {A:List Int} {j:Nat} (hj:j < 6):(quA A)[2+j]? = some (iv (jR A j)):=by
 rw [show 2+j=j+1+1 by omega]
 simp [quA,hj]
theorem og {w:World} {K:KV} {b o:Nat} (h:K (.pointer (some ⟨b,o+0,none⟩)) w):aa Tryz.prog 108 (.pointer (some ⟨b,o,none⟩)) 0 K w:=aq (by kernel_rfl) h
theorem iW {w:World} {K:KV} {b o:Nat} (h:K (.pointer (some ⟨b,o+1,none⟩)) w):aa Tryz.prog 108 (.pointer (some ⟨b,o,none⟩)) 1 K w:=aq (by kernel_rfl) h
theorem iX {w:World} {K:KV} {b o:Nat} (h:K (.pointer (some ⟨b,o+2,none⟩)) w):aa Tryz.prog 108 (.pointer (some ⟨b,o,none⟩)) 2 K w:=aq (by kernel_rfl) h
theorem jE {w:World} {K:KV} {b o:Nat} (h:K (.pointer (some ⟨b,o+8,none⟩)) w):aa Tryz.prog 108 (.pointer (some ⟨b,o,none⟩)) 3 K w:=aq (by kernel_rfl) h
attribute [local irreducible] bin un conv call bl blt slc aa fld af idx lkp bL bP eSt rng nxt ent ext alc box bld aJ ld sto aj bm mkS ifc pick rdy wts au sti cond aH Gives ac aW bA cOp
section
variable {w:World} {K:KV}
theorem IQ {t:Nat} {cs0 cs:List Value} {v:Bool} (ht:blk w t 108 cs0) (h0:cs0.length=14) (hl:cs.length=14) (h1:∀ v ∈ cs,v.oneCell'=true) (h:∀ w',Oth t w w'→K (.tuple #[.agg cs.toArray,.bool v]) w') :
  sto Tryz.prog 108 (.pointer (some ⟨t,0,none⟩)) (.agg cs.toArray) (fun _t w=>aH Tryz.prog [(some 108,.pointer (some ⟨t,0,none⟩)),(none,.bool v)] K w) w:=by
 refine eM (n:=14) (vs:=cs) (by kernel_rfl) hl ht (by omega) h1 fun w1 hq1 o1 => ?_
 have hq1:blk w1 t 108 cs:=by
  rw [List.take_zero,List.nil_append,List.drop_of_length_le (by omega),List.append_nil] at hq1
  exact hq1
 have hr:=run_loadVar_mid (P:=Tryz.prog) w1 t 0 108 cs _ (fun j v hj=>by rw [hq1.cell,Nat.zero_add]; exact hj) Tryz.underlying108 rfl (by rw [hl]; kernel_rfl)
 have e:(dD [(some 108,.pointer (some ⟨t,0,none⟩)),(none,.bool v)]).run Tryz.prog w1=.ok (.tuple #[.agg cs.toArray,.bool v]) w1:=by
  simp [dD,asAddr,Sem.run_bind,hr]
 unfold aH
 rw [e]
 exact ⟨rfl,h w1 o1⟩
set_option maxHeartbeats 4000000 in
theorem DS {s:STA} {id:Int} (hs:SK w s)
  (h:∀ w' v,Below w.heap.size w w'→(match eO s id with | none=>v=.tuple #[.agg row0.toArray,.bool false] | some (has,sh) => ∃ a c,ON w' w.heap.size a (bS s.I s.L 6).length c (bS s.I s.L 6)∧v=.tuple #[.agg (cP a (bS s.I s.L 6).length c (bS s.I s.L 6).length (hK has (bS s.I s.L 6).length) (hK sh (bS s.I s.L 6).length)).toArray,.bool true])→K v w') :
  call Tryz.prog 32 #[.agg (saC s).toArray,.int .u64 id] K w:=by
 refine aE zY (zX ?_)
 refine bh fun w1 hb b1 s1 => ?_
 have hb:blk w1 w.heap.size 30 (saC s):=by simpa [Value.cells] using hb
 refine cH (z:=.agg row0.toArray) (by kernel_rfl) fun w2 ht b2 s2 => ?_
 have ht:blk w2 w1.heap.size 108 row0:=ht
 have hb2:=ae b2 hb hb.lt
 have B2:Below w.heap.size w w2:=b1.trans (b2.mono (by omega))
 have cutS:((saC s).drop 0).take 20=saC s:=by rw [List.drop_zero,List.take_of_length_le (by rw [hs.len]; omega)]
 refine ldA (n:=20) (vs:=saC s) Tryz.underlying30 rfl (by kernel_rfl) hb2 cutS hs.len ?_
 refine IP (hs.bel B2 (Nat.le_refl _)) fun w3 a c ho b3 => ?_
 have hll:(bS s.I s.L 6).length≤6:=iV _ _ 6
 have hrng:∀ x ∈ bS s.I s.L 6,1≤x∧x≤6:=fun x hx=>Ab hx
 generalize hlv:bS s.I s.L 6=lv at *
 generalize hn:lv.length=n at *
 refine eE (vs:=cP a n c 0 z6 z6) (by kernel_rfl) ?_
 refine cH (z:=.agg row0.toArray) (by kernel_rfl) fun w4 hr b4 s4 => ?_
 have hr:blk w4 w3.heap.size 108 row0:=hr
 refine eM (n:=14) (vs:=cP a n c 0 z6 z6) (by kernel_rfl) rfl hr (by simp [row0,cP,z6]) (ls (by simp [z6,iv,Value.oneCell']) (by simp [z6,iv,Value.oneCell'])) fun w5 hr5 o5 => ?_
 have hr5:blk w5 w3.heap.size 108 (cP a n c 0 z6 z6):=hr5
 have hlt5:=hr5.lt
 have b35:Below w3.heap.size w3 w5:=b4.trans o5.below
 have hsz3:=b3.size
 have B3:Below w.heap.size w w3:=B2.trans (b3.mono B2.size)
 have B5:Below w.heap.size w w5:=B3.trans (b35.mono B3.size)
 have hb5:=ae b35 (ae b3 hb2 hb2.lt) (by omega)
 refine ldA (n:=20) (vs:=saC s) Tryz.underlying30 rfl (by kernel_rfl) hb5 cutS hs.len ?_
 refine Jz (hs.bel B5 (Nat.le_refl _)) fun w6 b6 => ?_
 refine fy ?_
 refine fz ?_
 refine cH (z:=.agg qz.toArray) (by kernel_rfl) fun w7 hq b7 s7 => ?_
 have hq:blk w7 w6.heap.size 135 qz:=hq
 have hol:=BG s.nodes id
 refine eM (n:=8) (vs:=(ofN s.nodes id).1) (by kernel_rfl) hol hq (by simp [qz]) (BH _ _) fun w8 hq8 o8 => ?_
 have hq8:blk w8 w6.heap.size 135 (ofN s.nodes id).1:=by
  rw [List.take_zero,List.nil_append,List.drop_of_length_le (by simp [qz]),List.append_nil] at hq8
  exact hq8
 have b68:Below w6.heap.size w6 w8:=b7.trans o8.below
 have b58:Below w5.heap.size w5 w8:=b6.trans (b68.mono b6.size)
 have hr8:=ae b58 hr5 hr5.lt
 have hsz5:=b35.size
 have hsz6:=b6.size
 have hsz8:=b68.size
 have b38:Below w3.heap.size w3 w8:=b35.trans (b58.mono hsz5)
 have ho8:ON w8 w2.heap.size a n c lv:=ho.bel b38
 have ht8:=ae b38 (ae b3 ht ht.lt) (by omega)
 have B8:Below w.heap.size w w8:=B5.trans (b58.mono B5.size)
 refine og ?_
 refine ld1 (v:=.slice a n c) (fun _=>by kernel_rfl) hr8 rfl ?_
 refine aI Tryz.underlying56 ?_
 refine iW ?_
 refine eD (fun _=>by kernel_rfl) hr8 (by simp [cP]) rfl fun w9 hr9 o9 => ?_
 have hr9:blk w9 w3.heap.size 108 (cP a n c n z6 z6):=hr9
 have hq9:=o9.blk hq8 (by omega)
 have ht9:=o9.blk ht8 (by omega)
 have ho9:ON w9 w2.heap.size a n c lv:=bj ho8 fun k hk=>o9.other k (by have:=World.ownsRow.lt ho k hk; omega)
 have hlt9:w3.heap.size < w9.heap.size:=hr9.lt
 have B9:Below w.heap.size w w9:=B8.trans (o9.below.mono (by omega))
 have no:∀ w',blk w' w1.heap.size 108 row0→Below w.heap.size w w'→eO s id=none→bld Tryz.prog 108 #[] (fun t w=>sto Tryz.prog 108 (.pointer (some ⟨w1.heap.size,0,none⟩)) t (fun _t w=>aH Tryz.prog [(some 108,.pointer (some ⟨w1.heap.size,0,none⟩)),(none,.bool false)] K w) w) w':=by
  intro w' h1 h2 h3
  refine eE (vs:=row0) (by kernel_rfl) ?_
  refine IQ h1 rfl rfl (ls (by simp [z6,iv,Value.oneCell']) (by simp [z6,iv,Value.oneCell'])) fun w'' b'' => ?_
  refine h w'' _ (h2.trans (b''.below.mono (by omega))) ?_
  rw [h3]
 refine dn ?_
 cases hx:s.nodes[posN s.nodes id]? with
 | none =>
  have hof:ofN s.nodes id=(qz,9):=by unfold ofN; rw [hx]
  rw [hof]
  refine de (by decide) ?_
  refine bp (by decide) ?_
  refine aR ?_
  exact no w9 ht9 B9 (by unfold eO; rw [hx])
 | some x =>
  have hof:ofN s.nodes id=(quA x.A,0):=by unfold ofN; rw [hx]
  rw [hof] at hq9
  rw [hof]
  refine cE (show ¬ ((0:Int)≠0) by decide) ?_
  refine iW ?_
  refine ld1 (v:=.int .i64 (n:Nat)) (fun _=>by kernel_rfl) hr9 rfl ?_
  refine aN ?_
  refine bt (show ¬ ((0:Int)≠0) by decide) ?_
  by_cases hn0:(n:Int)=0
  ·refine ai hn0 ?_
   have:lv=[]:=List.length_eq_zero_iff.1 (by omega)
   exact no w9 ht9 B9 (by unfold eO; rw [hx,hlv,this])
  refine ag hn0 ?_
  refine xC ?_
  refine og ?_
  refine ld1 (v:=.slice a n c) (fun _=>by kernel_rfl) hr9 rfl ?_
  refine aI Tryz.underlying56 ?_
  have hlook:eO s id=match lf (iS x.A lv) 0 with | none=>none | some all=>some (iS x.A lv,shL all n):=by
   unfold eO
   rw [hx,hlv]
   cases lv with
   | nil=>simp at hn; omega
   | cons i r =>
    simp only [hn] <;> (cases lf (iS x.A (i::r)) 0 <;> rfl)
  have hhl:(iS x.A lv).length=n:=by rw [vf,hn]
  have hat:∀ k,k < n→nB (iS x.A lv) k=jR x.A (nB lv k - 1).toNat:=fun k hk=>BF (by omega)
  generalize iS x.A lv=has at *
  refine xD (Inv:=fun al kv _ _ _ _ wr => ∃ (k:Nat) (A:Int),al=iv A∧kv=.int .i64 (k:Nat)∧k≤n∧0≤A∧A≤MXA∧lf has 0=lf (has.drop k) A∧blk wr w3.heap.size 108 (cP a n c n (hK has k) z6)∧blk wr w6.heap.size 135 (quA x.A)∧blk wr w1.heap.size 108 row0∧ON wr w2.heap.size a n c lv∧Below w.heap.size w wr)
   (μ:=fun _ kv _ _ _ _ _=>n - (intOf kv).toNat) ⟨0,0,rfl,rfl,by omega,by omega,by decide,rfl,hr9,hq9,ht9,ho9,B9⟩ ?_
  rintro _ _ _ _ _ _ dd wr m ⟨k,A,rfl,rfl,hk,hA0,hA1,hadd,hrr,hqq,htt,hoo,BB⟩ hmm
  refine aD ?_
  by_cases hkn:k < n
  ·refine ai (by omega) ?_
   have hrv:RV wr a n c (lv.map iv):=OV.rv hoo
   refine fD Tryz.underlying56 (fun _=>by kernel_rfl) (by omega) (by omega) hrv.some_ ?_
   rw [Int.toNat_natCast]
   have hxk:(lv.map iv)[k]? = some (iv (nB lv k)):=by simp [nB,List.getD,show k < lv.length by omega]
   refine dp (fun _=>by kernel_rfl) (hrv.cell _ _ hxk) ?_
   have hmem:nB lv k ∈ lv:=by
    have:nB lv k=lv[k]'(by omega):=by simp [nB,List.getD,show k < lv.length by omega]
    rw [this]; exact List.getElem_mem _
   have hr16:=hrng _ hmem
   unfold iv
   refine bo (by omega) (by omega) ?_
   refine pY ?_
   refine aT Tryz.underlying33 (s:=1) (fun _=>by kernel_rfl) (by omega) (by omega) ?_
   refine ld1 (v:=iv (nB has k)) (fun _=>by kernel_rfl) hqq (by rw [hat k hkn,show 0+2+(nB lv k - 1).toNat * 1=2+(nB lv k - 1).toNat by omega]; exact DR (by omega)) ?_
   have hd:=DQ (l:=has) (k:=k) (a:=A) (by omega)
   have bad:nB has k < 0∨nB has k > MXA - A→eO s id=none:=fun hq=>by
    rw [hlook,hadd,hd,if_pos hq]
   simp only [MXA] at hd bad hA1
   unfold iv
   refine aD ?_
   by_cases h1:nB has k < 0
   ·refine de h1 ?_
    refine bp h1 ?_
    refine aR ?_
    exact no wr htt BB (bad (.inl h1))
   ·refine cE h1 ?_
    refine bo (by omega) (by omega) ?_
    refine cD ?_
    refine bt h1 ?_
    by_cases h2:1125899906842624 - A < nB has k
    ·refine ai h2 ?_
     exact no wr htt BB (bad (.inr h2))
    ·refine ag h2 ?_
     refine iX ?_
     refine aT Tryz.underlying33 (s:=1) (fun _=>by kernel_rfl) (by omega) (by omega) ?_
     refine eD (fun _=>by kernel_rfl) hrr (by rw [kq (eP _ _) rfl]; omega) rfl fun wz hrz oz => ?_
     rw [show 0+2+(k:Int).toNat * 1=2+k by omega] at hrz
     have hrz:blk wz w3.heap.size 108 (cP a n c n (hK has (k+1)) z6):=by
      have e:=FN (a:=a) (n:=n) (c:=c) (cnt:=(n:Int)) (l:=has) (S:=z6) (k:=k) (by omega)
      unfold iv at e
      rw [← e]; exact hrz
     refine aF (by omega) (by omega) ?_
     refine aF (by omega) (by omega) ?_
     refine ⟨⟨k+1,A+nB has k,rfl,by simp,by omega,by omega,by simp only [MXA]; omega, ?_,hrz,oz.blk hqq (by omega),oz.blk htt (by omega),bj hoo fun q hq=>oz.other q (by have:=World.ownsRow.lt ho q hq; omega),BB.trans (oz.below.mono (by omega))⟩,by rw [hmm]; simp [intOf]; omega⟩
     rw [hadd,hd,if_neg (by omega)]
  ·refine ag (by omega) ?_
   obtain rfl:k=n:=by omega
   rw [List.drop_of_length_le (by omega)] at hadd
   have hlk2:eO s id=some (has,shL A k):=by rw [hlook,hadd]; rfl
   clear hlook
   refine xE ?_
   refine iW ?_
   refine ld1 (v:=.int .i64 (k:Nat)) (fun _=>by kernel_rfl) hrr rfl ?_
   generalize hsh:shL A k=sh at *
   have hsat:∀ j,j < k→nB sh j=shr A k j:=fun j hj=>by rw [← hsh]; exact Ac hj
   refine xF (Inv:=fun jv wr => ∃ j:Nat,jv=.int .i64 (j:Nat)∧j≤k∧blk wr w3.heap.size 108 (cP a k c k (hK has k) (hK sh j))∧blk wr w1.heap.size 108 row0∧ON wr w2.heap.size a k c lv∧Below w.heap.size w wr) (μ:=fun jv _=>k - (intOf jv).toNat)
    ⟨0,rfl,by omega,hrr,htt,hoo,BB⟩ ?_
   rintro _ dd2 wu m2 ⟨j,rfl,hj,hru,htu,hou,BU⟩ hm2
   refine aD ?_
   by_cases hjk:j < k
   ·refine ai (by omega) ?_
    have hdv:A.tdiv (k:Nat)=A / (k:Nat):=Int.tdiv_eq_ediv_of_nonneg hA0
    have hmd:A.tmod (k:Nat)=A % (k:Nat):=Int.tmod_eq_emod_of_nonneg hA0
    have hd0:0≤A / (k:Nat):=Int.ediv_nonneg hA0 (by omega)
    have hd1:A / (k:Nat)≤A:=Int.ediv_le_self _ hA0
    simp only [MXA] at hA1
    have fin:∀ wv,blk wv w3.heap.size 108 (cP a k c k (hK has k) (hK sh (j+1)))→Oth w3.heap.size wu wv→(∃ j':Nat,Value.int .i64 ((j:Int)+1)=.int .i64 (j':Nat)∧j'≤k∧blk wv w3.heap.size 108 (cP a k c k (hK has k) (hK sh j'))∧blk wv w1.heap.size 108 row0∧ON wv w2.heap.size a k c lv∧Below w.heap.size w wv)∧k - (intOf (.int .i64 ((j:Int)+1))).toNat < m2:=by
     intro wv h1 ov
     exact ⟨⟨j+1,by simp,by omega,h1,ov.blk htu (by omega),bj hou fun q hq=>ov.other q (by have:=World.ownsRow.lt ho q hq; omega),BU.trans (ov.below.mono (by omega))⟩,by rw [hm2]; simp [intOf]; omega⟩
    have hrl:(cP a k c k (hK has k) (hK sh j)).length=14:=kq (eP _ _) (eP _ _)
    have hset:=FO (a:=a) (n:=k) (c:=c) (cnt:=(k:Int)) (l:=sh) (h:=has) (m:=k) (k:=j) (by omega)
    have hsj:nB sh j=A / (k:Nat)+if (j:Int) < A % (k:Nat) then 1 else 0:=hsat j hjk
    refine xH ?_
    refine iW ?_
    refine ld1 (v:=.int .i64 (k:Nat)) (fun _=>by kernel_rfl) hru rfl ?_
    unfold iv
    refine Bl hn0 ?_
    rw [hdv,f5 (by omega) (by omega)]
    refine jE ?_
    refine aT Tryz.underlying33 (s:=1) (fun _=>by kernel_rfl) (by omega) (by omega) ?_
    rw [show 0+8+(j:Int).toNat * 1=8+j by omega]
    refine eD (fun _=>by kernel_rfl) hru (by rw [hrl]; omega) rfl fun wv hv ov => ?_
    refine iW ?_
    refine ld1 (v:=.int .i64 (k:Nat)) (fun _=>by kernel_rfl) hv (by rw [List.getElem?_set_ne (by omega)]; rfl) ?_
    refine kV hn0 ?_
    rw [hmd]
    refine aD ?_
    by_cases hjm:(j:Int) < A % (k:Nat)
    ·refine ai hjm ?_
     refine jE ?_
     refine aT Tryz.underlying33 (s:=1) (fun _=>by kernel_rfl) (by omega) (by omega) ?_
     rw [show 0+8+(j:Int).toNat * 1=8+j by omega]
     refine ld1 (v:=.int .i64 (A / (k:Nat))) (fun _=>by kernel_rfl) hv (List.getElem?_set_self (by rw [hrl]; omega)) ?_
     refine aF (by omega) (by omega) ?_
     refine jE ?_
     refine aT Tryz.underlying33 (s:=1) (fun _=>by kernel_rfl) (by omega) (by omega) ?_
     rw [show 0+8+(j:Int).toNat * 1=8+j by omega]
     refine eD (fun _=>by kernel_rfl) hv (by rw [List.length_set,hrl]; omega) rfl fun wx hx2 ox => ?_
     refine pE ?_
     refine aF (by omega) (by omega) ?_
     refine fin wx ?_ ⟨ox.os.trans ov.os,ox.tape.trans ov.tape,ox.output.trans ov.output,ox.size.trans ov.size,fun q hq=>(ox.other q hq).trans (ov.other q hq)⟩
     rw [List.set_set] at hx2
     rw [← hset,hsj,if_pos hjm]
     exact hx2
    ·refine ag hjm ?_
     refine pE ?_
     refine aF (by omega) (by omega) ?_
     refine fin wv ?_ ov
     rw [← hset,hsj,if_neg hjm,Int.add_zero]
     exact hv
   ·refine ag (by omega) ?_
    obtain rfl:j=k:=by omega
    refine xI ?_
    refine ldA (n:=14) (vs:=cP a j c j (hK has j) (hK sh j)) Tryz.underlying108 rfl (by kernel_rfl) hru (by rw [List.drop_zero,List.take_of_length_le (by rw [kq (eP _ _) (eP _ _)]; omega)]) (kq (eP _ _) (eP _ _)) ?_
    refine IQ htu rfl (kq (eP _ _) (eP _ _)) (ls (pG _ _) (pG _ _)) fun wv bv => ?_
    refine h wv _ (BU.trans (bv.below.mono (by omega))) ?_
    rw [hlk2]
    exact ⟨a,c,bj (hou.mono (by omega)) fun q hq=>bv.other q (by have:=World.ownsRow.lt ho q hq; omega),rfl⟩
end
end Go.Proofs.YtgpfkmdknlcemaaGreatDoor
namespace Go.Proofs.YtgpfkmdknlcemaaGreatDoor
open Go.RowKit
set_option maxRecDepth 100000
theorem rC {K:KV} {x0:Value} {w:World}
  (h:bin Q BinOp.geq 2 false true x0 (ci 0) (fun A2 w=>au A2 true (fun k6=>bin Q BinOp.leq 2 false true x0 (ci 1125899906842624) (fun A5=>k6 [x0,A5]) w) (fun k=>k [undef,undef] w) fun us6=>pick A2 (gd us6 1) cF K) w) :
  Gives Q 128 #[x0] w K:=by
 refine aK Tryz.func128 (by kernel_rfl) ?_
 revert h
 exact fun h=>Eq.mp (by kernel_rfl) h
theorem rD:bD Q 128:=⟨_,Tryz.func128,by kernel_rfl,by kernel_rfl⟩
theorem rE {K:KV} {i0:Value} {w:World}
  (h:bin Q BinOp.geq 3 false true i0 (ci 1) (fun A2 w=>au A2 true (fun k6=>bin Q BinOp.leq 3 false true i0 (ci 6) (fun A5=>k6 [i0,A5]) w) (fun k=>k [undef,undef] w) fun us6=>pick A2 (gd us6 1) cF K) w) :
  Gives Q 111 #[i0] w K:=by
 refine aK Tryz.func111 (by kernel_rfl) ?_
 revert h
 exact fun h=>Eq.mp (by kernel_rfl) h
theorem rF:bD Q 111:=⟨_,Tryz.func111,by kernel_rfl,by kernel_rfl⟩
def dH (K:KV):KE:=ac Q (cd Tryz.f112 [1,1,1,1]) (rk Tryz.f112 K) xf (rk Tryz.f112 K)
def ig (K:KV):KE:=ac Q (cd Tryz.f112 [1,1,1,0,1,0]) (dH K) (xx xf (dH K) 0) (rk Tryz.f112 K)
theorem sI {K:KV} {r0 i1:Value} {w:World}
  (h:box Q 36 r0 (fun r2=>bin Q BinOp.sub 3 false true i1 (ci 1) fun A7 w=>sti (aa Q 36 r2 0) (fun A9=>sti (af Q 33 A9 A7) fun C0=>sti (ld Q 2 C0) fun C1=>sti (aa Q 36 r2 1) fun C3=>sti (af Q 33 C3 A7) fun C4=>sti (ld Q 2 C4) fun C5=>sti (bin Q BinOp.sub 2 false false C1 C5) fun C6=>sti (aa Q 36 r2 2) fun C8=>sti (af Q 33 C8 A7) fun C9=>sti (ld Q 2 C9) fun D0=>sti (bin Q BinOp.add 2 false false C6 D0) fun D1=>ig K [r0,i1,r2,undef,ci 0,A7,D1,ci 0,i1,A7,A7,A9,C0,C1,A7,C3,C4,C5,C6,A7,C8,C9,D0,D1,undef,undef,undef,undef,undef,undef,undef,undef,undef,undef,undef,undef,undef,undef,undef,undef,undef,undef,undef,undef]) w.drew) w) :
  Gives Q 112 #[r0,i1] w K:=by
 refine aK Tryz.func112 (by kernel_rfl) ?_
 revert h
 delta ig dH
 exact fun h=>Eq.mp (by kernel_rfl) h
theorem sJ:bD Q 112:=⟨_,Tryz.func112,by kernel_rfl,by kernel_rfl⟩
theorem qF {K:KV} {r0 i1 r2 i3 A2 k_5 out6 j7 A6 A7 A8 A9 C0 C1 C2 C3 C4 C5 C6 C7 C8 C9 D0 D1 D2 D3 D4 D5 D6 D7 D8 D9 E0 E1 E2 E3 E4 E5 E6 E7 E8 E9 F0 F1:Value} {w:World} (Inv:Value→Value→World→Prop) (μ:Value→Value→World→Nat) (h0:Inv out6 j7 w)
  (hs:∀ (out6' j7':Value) (dd:Nat→Value) (w:World) (m:Nat),Inv out6' j7' w→m=μ out6' j7' w →
  bin Q BinOp.lss 3 false true j7' (ci 6) (fun D3 w=>cond D3 (sti (aa Q 36 r2 3) (fun D9=>sti (af Q 34 D9 j7') fun E0=>sti (af Q 33 E0 k_5) fun E1=>sti (ld Q 2 E1) fun E2=>sti (bin Q BinOp.add 2 false false out6' E2) fun E3=>sti (aa Q 36 r2 3) fun E6=>sti (af Q 34 E6 k_5) fun E7=>sti (af Q 33 E7 j7') fun E8=>sti (ld Q 2 E8) fun E9=>sti (bin Q BinOp.sub 2 false false E3 E9) fun F0=>bin Q BinOp.add 3 false true j7' (ci 1) fun D5 w=>(Inv F0 D5 w)∧((μ F0 D5 w)<m)) w.drew) (dH K [r0,i1,r2,i3,A2,k_5,out6',j7',A6,A7,A8,A9,C0,C1,C2,C3,C4,C5,C6,C7,C8,C9,D0,D1,j7',D3,dd 26,dd 27,dd 28,dd 29,dd 30,dd 31,dd 32,dd 33,dd 34,dd 35,dd 36,dd 37,dd 38,dd 39,dd 40,dd 41,dd 42,F1] w)) w) :
  ig K [r0,i1,r2,i3,A2,k_5,out6,j7,A6,A7,A8,A9,C0,C1,C2,C3,C4,C5,C6,C7,C8,C9,D0,D1,D2,D3,D4,D5,D6,D7,D8,D9,E0,E1,E2,E3,E4,E5,E6,E7,E8,E9,F0,F1] w:=by
 refine aB (cd Tryz.f112 [1,1,1,0,1,0,0]) [6,7,24,25,26,27,28,29,30,31,32,33,34,35,36,37,38,39,40,41,42] (by kernel_rfl) (fun e2 w2=>Inv (gd e2 6) (gd e2 7) w2) (fun e2 w2=>μ (gd e2 6) (gd e2 7) w2) h0 ?_
 intro e' w' hI
 have h:=hs (gd e' 6) (gd e' 7) (fun i=>gd e' i) w' _ hI rfl
 revert h
 generalize (dH K)=qc0
 exact fun h=>Eq.mp (by kernel_rfl) h
theorem qG {K:KV} {r0 i1 r2 i3 A2 k_5 out6 j7 A6 A7 A8 A9 C0 C1 C2 C3 C4 C5 C6 C7 C8 C9 D0 D1 D2 D3 D4 D5 D6 D7 D8 D9 E0 E1 E2 E3 E4 E5 E6 E7 E8 E9 F0 F1:Value} {w:World}
  (h:K out6 w) :
  dH K [r0,i1,r2,i3,A2,k_5,out6,j7,A6,A7,A8,A9,C0,C1,C2,C3,C4,C5,C6,C7,C8,C9,D0,D1,D2,D3,D4,D5,D6,D7,D8,D9,E0,E1,E2,E3,E4,E5,E6,E7,E8,E9,F0,F1] w:=by
 delta dH
 revert h
 exact fun h=>Eq.mp (by kernel_rfl) h
attribute [irreducible] dH ig
def cM (K:KV):KE:=ac Q (cd Tryz.f113 [1,1,1]) (rk Tryz.f113 K) xf (rk Tryz.f113 K)
def iZ (K:KV):KE:=ac Q (cd Tryz.f113 [1,1,0,1,0]) (cM K) (xx xf (cM K) 0) (rk Tryz.f113 K)
def dL (K:KV) (B1:KE):KE:=ac Q (cd Tryz.f113 [1,1,0,1,0,0,1,1]) B1 (xx xf (cM K) 0) (rk Tryz.f113 K)
def j1 (K:KV) (B1:KE):KE:=ac Q (cd Tryz.f113 [1,1,0,1,0,0,1,0,0,1,1,1,0]) (dL K B1) (xx (xx (xx xf (cM K) 0) (dL K B1) 1) (dL K B1) 2) (rk Tryz.f113 K)
def eH (K:KV):KE:=ac Q (cd Tryz.f113 [1,1,1,1]) (rk Tryz.f113 K) xf (rk Tryz.f113 K)
def j3 (K:KV):KE:=ac Q (cd Tryz.f113 [1,1,1,0,1,0]) (eH K) (xx xf (eH K) 4) (rk Tryz.f113 K)
theorem vg {K:KV} {r0:Value} {w:World}
  (h:box Q 36 r0 (fun r1=>iZ K (r0::r1::cF::(ci 0)::(ci 0)::undef::undef::undef::undef::undef::undef::undef::undef::undef::undef::undef::undef::undef::undef::undef::undef::undef::undef::undef::undef::undef::undef::undef::undef::undef::undef::undef::undef::undef::undef::undef::undef::undef::undef::undef::undef::undef::undef::undef::undef::undef::undef::undef::undef::undef::undef::undef::undef::undef::undef::undef::undef::undef::undef::undef::undef::undef::undef::undef::undef::undef::undef::undef::undef::undef::undef::undef::undef::undef::undef::undef::undef::undef::undef::undef::undef::[])) w) :
  Gives Q 113 #[r0] w K:=by
 refine aK Tryz.func113 (by kernel_rfl) ?_
 revert h
 delta iZ cM
 exact fun h=>Eq.mp (by kernel_rfl) h
theorem vh:bD Q 113:=⟨_,Tryz.func113,by kernel_rfl,by kernel_rfl⟩
section
variable {r0 r1 A0 all3 i4 j5 i6 A5 A6 A7 A8 A9 C0 C1 C2 C3 C4 C5 C6 C7 C8 C9 D0 D1 D2 D3 D4 D5 D6 D7 D8 D9 E0 E1 E2 E3 E4 E5 E6 E7 E8 E9 F0 F1 F2 F3 F4 F5 F6 F7 F8 F9 G0 G1 G2 G3 G4 G5 G6 G7 G8 G9 H0 H1 H2 H3 H4 H5 H6 H7 H8 H9 I0 I1 I2 I3 I4 I5 I6 I7 I8:Value}
theorem sK {K:KV} {w:World} (Inv:Value→Value→Value→Value→Value→Value→Value→Value→Value→Value→Value→Value→Value→Value→Value→Value→Value→Value→Value→Value→Value→Value→Value→Value→Value→Value→Value→Value→Value→Value→World→Prop) (μ:Value→Value→Value→Value→Value→Value→Value→Value→Value→Value→Value→Value→Value→Value→Value→Value→Value→Value→Value→Value→Value→Value→Value→Value→Value→Value→Value→Value→Value→Value→World→Nat) (h0:Inv all3 i4 C6 C7 C8 C9 D0 D1 D4 D5 D6 D7 D8 D9 E2 E3 E4 E5 E6 E7 E8 E9 F0 F3 F4 F5 F6 F7 F8 F9 w)
  (hs:∀ (all3' i4' C6' C7' C8' C9' D0' D1' D4' D5' D6' D7' D8' D9' E2' E3' E4' E5' E6' E7' E8' E9' F0' F3' F4' F5' F6' F7' F8' F9':Value) (dd:Nat→Value) (w:World) (m:Nat),Inv all3' i4' C6' C7' C8' C9' D0' D1' D4' D5' D6' D7' D8' D9' E2' E3' E4' E5' E6' E7' E8' E9' F0' F3' F4' F5' F6' F7' F8' F9' w→m=μ all3' i4' C6' C7' C8' C9' D0' D1' D4' D5' D6' D7' D8' D9' E2' E3' E4' E5' E6' E7' E8' E9' F0' F3' F4' F5' F6' F7' F8' F9' w →
  bin Q BinOp.lss 3 false true i4' (ci 6) (fun A6 w=>cond A6 (sti (aa Q 36 r1 0) (fun C0=>sti (af Q 33 C0 i4') fun C1=>sti (ld Q 2 C1) fun C2=>sti (call Q 128 #[C2]) fun C3=>sti (un Q UnOp.not C3) fun C4 w=>au C4 false (fun k18=>sti (aa Q 36 r1 1) (fun C7=>sti (af Q 33 C7 i4') fun C8=>sti (ld Q 2 C8) fun C9=>sti (call Q 128 #[C9]) fun D0=>sti (un Q UnOp.not D0) fun D1=>k18 [i4',C7,C8,C9,D0,D1]) w) (fun k=>k [undef,undef,undef,undef,undef,undef] w) fun us18=>sti (pick C4 cT (gd us18 5)) fun D2 w=>au D2 false (fun k26=>sti (aa Q 36 r1 2) (fun D5=>sti (af Q 33 D5 i4') fun D6=>sti (ld Q 2 D6) fun D7=>sti (call Q 128 #[D7]) fun D8=>sti (un Q UnOp.not D8) fun D9=>k26 [i4',D5,D6,D7,D8,D9]) w) (fun k=>k [undef,undef,undef,undef,undef,undef] w) fun us26=>sti (pick D2 cT (gd us26 5)) fun E0 w=>au E0 false (fun k34=>sti (aa Q 36 r1 2) (fun E3=>sti (af Q 33 E3 i4') fun E4=>sti (ld Q 2 E4) fun E5=>sti (aa Q 36 r1 1) fun E7=>sti (af Q 33 E7 i4') fun E8=>sti (ld Q 2 E8) fun E9=>sti (bin Q BinOp.gtr 2 false false E5 E9) fun F0=>k34 [i4',E3,E4,E5,i4',E7,E8,E9,F0]) w) (fun k=>k [undef,undef,undef,undef,undef,undef,undef,undef,undef] w) fun us34=>sti (pick E0 cT (gd us34 8)) fun F1 w=>au F1 false (fun k45=>sti (aa Q 36 r1 3) (fun F5=>sti (af Q 34 F5 i4') fun F6=>sti (af Q 33 F6 i4') fun F7=>sti (ld Q 2 F7) fun F8=>sti (bin Q BinOp.neq 2 false true F8 (ci 0)) fun F9=>k45 [i4',i4',F5,F6,F7,F8,F9]) w) (fun k=>k [undef,undef,undef,undef,undef,undef,undef] w) fun us45=>sti (pick F1 cT (gd us45 6)) fun G0 w=>cond G0 (K cF w) (aa Q 36 r1 0 (fun G3=>af Q 33 G3 i4' fun G4=>ld Q 2 G4 fun G5=>bin Q BinOp.add 2 false false all3' G5 fun G6=>j1 K (fun e2 w2=>(Inv (gd e2 3) (gd e2 4) (gd e2 18) (gd e2 19) (gd e2 20) (gd e2 21) (gd e2 22) (gd e2 23) (gd e2 26) (gd e2 27) (gd e2 28) (gd e2 29) (gd e2 30) (gd e2 31) (gd e2 34) (gd e2 35) (gd e2 36) (gd e2 37) (gd e2 38) (gd e2 39) (gd e2 40) (gd e2 41) (gd e2 42) (gd e2 45) (gd e2 46) (gd e2 47) (gd e2 48) (gd e2 49) (gd e2 50) (gd e2 51) w2)∧((μ (gd e2 3) (gd e2 4) (gd e2 18) (gd e2 19) (gd e2 20) (gd e2 21) (gd e2 22) (gd e2 23) (gd e2 26) (gd e2 27) (gd e2 28) (gd e2 29) (gd e2 30) (gd e2 31) (gd e2 34) (gd e2 35) (gd e2 36) (gd e2 37) (gd e2 38) (gd e2 39) (gd e2 40) (gd e2 41) (gd e2 42) (gd e2 45) (gd e2 46) (gd e2 47) (gd e2 48) (gd e2 49) (gd e2 50) (gd e2 51) w2)<m)) (r0::r1::(dd 2)::G6::i4'::(ci 0)::i6::i4'::A6::(dd 9)::(dd 10)::i4'::C0::C1::C2::C3::C4::C4::(gd us18 0)::(gd us18 1)::(gd us18 2)::(gd us18 3)::(gd us18 4)::(gd us18 5)::D2::D2::(gd us26 0)::(gd us26 1)::(gd us26 2)::(gd us26 3)::(gd us26 4)::(gd us26 5)::E0::E0::(gd us34 0)::(gd us34 1)::(gd us34 2)::(gd us34 3)::(gd us34 4)::(gd us34 5)::(gd us34 6)::(gd us34 7)::(gd us34 8)::F1::F1::(gd us45 0)::(gd us45 1)::(gd us45 2)::(gd us45 3)::(gd us45 4)::(gd us45 5)::(gd us45 6)::G0::all3'::i4'::G3::G4::G5::G6::(dd 59)::(dd 60)::(dd 61)::(dd 62)::(dd 63)::(dd 64)::(dd 65)::(dd 66)::(dd 67)::(dd 68)::(dd 69)::(dd 70)::H9::I0::I1::I2::I3::I4::I5::I6::I7::I8::[])) w)) w.drew) (cM K (r0::r1::(dd 2)::all3'::i4'::(dd 5)::i6::i4'::A6::(dd 9)::(dd 10)::(dd 11)::(dd 12)::(dd 13)::(dd 14)::(dd 15)::(dd 16)::(dd 17)::C6'::C7'::C8'::C9'::D0'::D1'::(dd 24)::(dd 25)::D4'::D5'::D6'::D7'::D8'::D9'::(dd 32)::(dd 33)::E2'::E3'::E4'::E5'::E6'::E7'::E8'::E9'::F0'::(dd 43)::(dd 44)::F3'::F4'::F5'::F6'::F7'::F8'::F9'::(dd 52)::(dd 53)::(dd 54)::(dd 55)::(dd 56)::(dd 57)::(dd 58)::(dd 59)::(dd 60)::(dd 61)::(dd 62)::(dd 63)::(dd 64)::(dd 65)::(dd 66)::(dd 67)::(dd 68)::(dd 69)::(dd 70)::H9::I0::I1::I2::I3::I4::I5::I6::I7::I8::[]) w)) w) :
  iZ K (r0::r1::A0::all3::i4::j5::i6::A5::A6::A7::A8::A9::C0::C1::C2::C3::C4::C5::C6::C7::C8::C9::D0::D1::D2::D3::D4::D5::D6::D7::D8::D9::E0::E1::E2::E3::E4::E5::E6::E7::E8::E9::F0::F1::F2::F3::F4::F5::F6::F7::F8::F9::G0::G1::G2::G3::G4::G5::G6::G7::G8::G9::H0::H1::H2::H3::H4::H5::H6::H7::H8::H9::I0::I1::I2::I3::I4::I5::I6::I7::I8::[]) w:=by
 refine aB (cd Tryz.f113 [1,1,0,1,0,0]) [2,3,4,5,7,8,9,10,11,12,13,14,15,16,17,18,19,20,21,22,23,24,25,26,27,28,29,30,31,32,33,34,35,36,37,38,39,40,41,42,43,44,45,46,47,48,49,50,51,52,53,54,55,56,57,58,59,60,61,62,63,64,65,66,67,68,69,70] (by kernel_rfl) (fun e2 w2=>Inv (gd e2 3) (gd e2 4) (gd e2 18) (gd e2 19) (gd e2 20) (gd e2 21) (gd e2 22) (gd e2 23) (gd e2 26) (gd e2 27) (gd e2 28) (gd e2 29) (gd e2 30) (gd e2 31) (gd e2 34) (gd e2 35) (gd e2 36) (gd e2 37) (gd e2 38) (gd e2 39) (gd e2 40) (gd e2 41) (gd e2 42) (gd e2 45) (gd e2 46) (gd e2 47) (gd e2 48) (gd e2 49) (gd e2 50) (gd e2 51) w2) (fun e2 w2=>μ (gd e2 3) (gd e2 4) (gd e2 18) (gd e2 19) (gd e2 20) (gd e2 21) (gd e2 22) (gd e2 23) (gd e2 26) (gd e2 27) (gd e2 28) (gd e2 29) (gd e2 30) (gd e2 31) (gd e2 34) (gd e2 35) (gd e2 36) (gd e2 37) (gd e2 38) (gd e2 39) (gd e2 40) (gd e2 41) (gd e2 42) (gd e2 45) (gd e2 46) (gd e2 47) (gd e2 48) (gd e2 49) (gd e2 50) (gd e2 51) w2) h0 ?_
 intro e' w' hI
 have h:=hs (gd e' 3) (gd e' 4) (gd e' 18) (gd e' 19) (gd e' 20) (gd e' 21) (gd e' 22) (gd e' 23) (gd e' 26) (gd e' 27) (gd e' 28) (gd e' 29) (gd e' 30) (gd e' 31) (gd e' 34) (gd e' 35) (gd e' 36) (gd e' 37) (gd e' 38) (gd e' 39) (gd e' 40) (gd e' 41) (gd e' 42) (gd e' 45) (gd e' 46) (gd e' 47) (gd e' 48) (gd e' 49) (gd e' 50) (gd e' 51) (fun i=>gd e' i) w' _ hI rfl
 revert h
 delta j1 dL
 generalize (cM K)=qc0
 exact fun h=>Eq.mp (by kernel_rfl) h
theorem sL {K:KV} {B1:KE} {w:World} (Inv:Value→World→Prop) (μ:Value→World→Nat) (h0:Inv j5 w)
  (hs:∀ (j5':Value) (dd:Nat→Value) (w:World) (m:Nat),Inv j5' w→m=μ j5' w →
  bin Q BinOp.lss 3 false true j5' (ci 6) (fun G8 w=>cond G8 (aa Q 36 r1 3 (fun H3=>af Q 34 H3 i4 fun H4=>af Q 33 H4 j5' fun H5=>ld Q 2 H5 fun H6=>call Q 128 #[H6] fun H7=>un Q UnOp.not H7 fun H8 w=>cond H8 (K cF w) (bin Q BinOp.add 3 false true j5' (ci 1) (fun H0 w=>(Inv H0 w)∧((μ H0 w)<m)) w)) w) (dL K B1 (r0::r1::(dd 2)::all3::i4::j5'::i6::A5::A6::A7::A8::A9::C0::C1::C2::C3::C4::C5::C6::C7::C8::C9::D0::D1::D2::D3::D4::D5::D6::D7::D8::D9::E0::E1::E2::E3::E4::E5::E6::E7::E8::E9::F0::F1::F2::F3::F4::F5::F6::F7::F8::F9::G0::G1::G2::G3::G4::G5::G6::j5'::G8::(dd 61)::(dd 62)::(dd 63)::(dd 64)::(dd 65)::(dd 66)::(dd 67)::(dd 68)::(dd 69)::(dd 70)::H9::I0::I1::I2::I3::I4::I5::I6::I7::I8::[]) w)) w) :
  j1 K B1 (r0::r1::A0::all3::i4::j5::i6::A5::A6::A7::A8::A9::C0::C1::C2::C3::C4::C5::C6::C7::C8::C9::D0::D1::D2::D3::D4::D5::D6::D7::D8::D9::E0::E1::E2::E3::E4::E5::E6::E7::E8::E9::F0::F1::F2::F3::F4::F5::F6::F7::F8::F9::G0::G1::G2::G3::G4::G5::G6::G7::G8::G9::H0::H1::H2::H3::H4::H5::H6::H7::H8::H9::I0::I1::I2::I3::I4::I5::I6::I7::I8::[]) w:=by
 refine aB (cd Tryz.f113 [1,1,0,1,0,0,1,0,0,1,1,1,0,0]) [2,5,59,60,61,62,63,64,65,66,67,68,69,70] (by kernel_rfl) (fun e2 w2=>Inv (gd e2 5) w2) (fun e2 w2=>μ (gd e2 5) w2) h0 ?_
 intro e' w' hI
 have h:=hs (gd e' 5) (fun i=>gd e' i) w' _ hI rfl
 revert h
 generalize (cM K)=qc0
 generalize (dL K B1)=qc1
 exact fun h=>Eq.mp (by kernel_rfl) h
theorem sM {K:KV} {w:World}
  (h:j3 K (r0::r1::A0::all3::i4::j5::(ci 1)::A5::A6::A7::A8::A9::C0::C1::C2::C3::C4::C5::C6::C7::C8::C9::D0::D1::D2::D3::D4::D5::D6::D7::D8::D9::E0::E1::E2::E3::E4::E5::E6::E7::E8::E9::F0::F1::F2::F3::F4::F5::F6::F7::F8::F9::G0::G1::G2::G3::G4::G5::G6::G7::G8::G9::H0::H1::H2::H3::H4::H5::H6::H7::H8::H9::I0::I1::I2::I3::I4::I5::I6::I7::I8::[]) w) :
  cM K (r0::r1::A0::all3::i4::j5::i6::A5::A6::A7::A8::A9::C0::C1::C2::C3::C4::C5::C6::C7::C8::C9::D0::D1::D2::D3::D4::D5::D6::D7::D8::D9::E0::E1::E2::E3::E4::E5::E6::E7::E8::E9::F0::F1::F2::F3::F4::F5::F6::F7::F8::F9::G0::G1::G2::G3::G4::G5::G6::G7::G8::G9::H0::H1::H2::H3::H4::H5::H6::H7::H8::H9::I0::I1::I2::I3::I4::I5::I6::I7::I8::[]) w:=by
 delta cM
 revert h
 delta j3 eH
 exact fun h=>Eq.mp (by kernel_rfl) h
theorem sN {K:KV} {B1:KE} {w:World}
  (h:bin Q BinOp.add 3 false true i4 (ci 1) (fun A8=>B1 (r0::r1::A0::all3::A8::j5::i6::A5::A6::i4::A8::A9::C0::C1::C2::C3::C4::C5::C6::C7::C8::C9::D0::D1::D2::D3::D4::D5::D6::D7::D8::D9::E0::E1::E2::E3::E4::E5::E6::E7::E8::E9::F0::F1::F2::F3::F4::F5::F6::F7::F8::F9::G0::G1::G2::G3::G4::G5::G6::G7::G8::G9::H0::H1::H2::H3::H4::H5::H6::H7::H8::H9::I0::I1::I2::I3::I4::I5::I6::I7::I8::[])) w) :
  dL K B1 (r0::r1::A0::all3::i4::j5::i6::A5::A6::A7::A8::A9::C0::C1::C2::C3::C4::C5::C6::C7::C8::C9::D0::D1::D2::D3::D4::D5::D6::D7::D8::D9::E0::E1::E2::E3::E4::E5::E6::E7::E8::E9::F0::F1::F2::F3::F4::F5::F6::F7::F8::F9::G0::G1::G2::G3::G4::G5::G6::G7::G8::G9::H0::H1::H2::H3::H4::H5::H6::H7::H8::H9::I0::I1::I2::I3::I4::I5::I6::I7::I8::[]) w:=by
 delta dL
 revert h
 generalize (cM K)=qc0
 exact fun h=>Eq.mp (by kernel_rfl) h
theorem sO {K:KV} {w:World} (Inv:Value→World→Prop) (μ:Value→World→Nat) (h0:Inv i6 w)
  (hs:∀ (i6':Value) (dd:Nat→Value) (w:World) (m:Nat),Inv i6' w→m=μ i6' w →
  bin Q BinOp.leq 3 false true i6' (ci 6) (fun I0 w=>cond I0 (ld Q 36 r1 (fun I3=>call Q 112 #[I3,i6'] fun I5=>bin Q BinOp.lss 2 false true I5 (ci 0) fun I6 w=>cond I6 (K cF w) (bin Q BinOp.add 3 false true i6' (ci 1) (fun I2 w=>(Inv I2 w)∧((μ I2 w)<m)) w)) w) (eH K (r0::r1::(dd 2)::all3::i4::j5::i6'::A5::A6::A7::A8::A9::C0::C1::C2::C3::C4::C5::C6::C7::C8::C9::D0::D1::D2::D3::D4::D5::D6::D7::D8::D9::E0::E1::E2::E3::E4::E5::E6::E7::E8::E9::F0::F1::F2::F3::F4::F5::F6::F7::F8::F9::G0::G1::G2::G3::G4::G5::G6::G7::G8::G9::H0::H1::H2::H3::H4::H5::H6::H7::H8::i6'::I0::(dd 73)::(dd 74)::(dd 75)::(dd 76)::(dd 77)::(dd 78)::I7::I8::[]) w)) w) :
  j3 K (r0::r1::A0::all3::i4::j5::i6::A5::A6::A7::A8::A9::C0::C1::C2::C3::C4::C5::C6::C7::C8::C9::D0::D1::D2::D3::D4::D5::D6::D7::D8::D9::E0::E1::E2::E3::E4::E5::E6::E7::E8::E9::F0::F1::F2::F3::F4::F5::F6::F7::F8::F9::G0::G1::G2::G3::G4::G5::G6::G7::G8::G9::H0::H1::H2::H3::H4::H5::H6::H7::H8::H9::I0::I1::I2::I3::I4::I5::I6::I7::I8::[]) w:=by
 refine aB (cd Tryz.f113 [1,1,1,0,1,0,0]) [2,6,71,72,73,74,75,76,77,78] (by kernel_rfl) (fun e2 w2=>Inv (gd e2 6) w2) (fun e2 w2=>μ (gd e2 6) w2) h0 ?_
 intro e' w' hI
 have h:=hs (gd e' 6) (fun i=>gd e' i) w' _ hI rfl
 revert h
 generalize (eH K)=qc0
 exact fun h=>Eq.mp (by kernel_rfl) h
theorem sP {K:KV} {w:World}
  (h:bin Q BinOp.leq 2 false true all3 (ci 1125899906842624) K w) :
  eH K (r0::r1::A0::all3::i4::j5::i6::A5::A6::A7::A8::A9::C0::C1::C2::C3::C4::C5::C6::C7::C8::C9::D0::D1::D2::D3::D4::D5::D6::D7::D8::D9::E0::E1::E2::E3::E4::E5::E6::E7::E8::E9::F0::F1::F2::F3::F4::F5::F6::F7::F8::F9::G0::G1::G2::G3::G4::G5::G6::G7::G8::G9::H0::H1::H2::H3::H4::H5::H6::H7::H8::H9::I0::I1::I2::I3::I4::I5::I6::I7::I8::[]) w:=by
 delta eH
 revert h
 exact fun h=>Eq.mp (by kernel_rfl) h
attribute [irreducible] cM iZ dL j1 eH j3
end
theorem sQ {K:KV} {r0 i1:Value} {w:World}
  (h:box Q 36 r0 (fun r2=>ld Q 36 r2 fun A3=>call Q 113 #[A3] fun A4=>un Q UnOp.not A4 fun A5 w=>au A5 false (fun k9=>call Q 111 #[i1] (fun A8=>un Q UnOp.not A8 fun A9=>k9 [i1,A8,A9]) w) (fun k=>k [undef,undef,undef] w) fun us9=>pick A5 cT (gd us9 2) fun C0 w=>cond C0 (K (ci 0) w) (ld Q 36 r2 (fun C1=>call Q 112 #[C1,i1] K) w)) w) :
  Gives Q 87 #[r0,i1] w K:=by
 refine aK Tryz.func87 (by kernel_rfl) ?_
 revert h
 exact fun h=>Eq.mp (by kernel_rfl) h
theorem sR:bD Q 87:=⟨_,Tryz.func87,by kernel_rfl,by kernel_rfl⟩
def dR (K:KV):KE:=ac Q (cd Tryz.f86 [1,1,1,1,1]) (rk Tryz.f86 K) xf (rk Tryz.f86 K)
def iu (K:KV):KE:=ac Q (cd Tryz.f86 [1,1,1,1,0,1,0]) (dR K) (xx xf (dR K) 0) (rk Tryz.f86 K)
theorem ub {K:KV} {r0:Value} {w:World}
  (h:box Q 36 r0 (fun r1=>ld Q 36 r1 fun A5=>call Q 113 #[A5] fun A6=>un Q UnOp.not A6 fun A7 w=>cond A7 (K (Value.tuple #[ci 0,ci 0]) w) (iu K [r0,r1,ci 0,ci 0,ci 0,ci 0,ci 0,A5,A6,A7,undef,undef,undef,undef,undef,undef,undef,undef,undef,undef,undef,undef,undef,undef,undef,undef,undef,undef,undef,undef,undef,undef,undef] w)) w) :
  Gives Q 86 #[r0] w K:=by
 refine aK Tryz.func86 (by kernel_rfl) ?_
 revert h
 delta iu dR
 exact fun h=>Eq.mp (by kernel_rfl) h
theorem uc:bD Q 86:=⟨_,Tryz.func86,by kernel_rfl,by kernel_rfl⟩
theorem rG {K:KV} {r0 r1 A0 A1 limit4 used5 i6 A5 A6 A7 A8 A9 C0 C1 C2 C3 C4 C5 C6 C7 C8 C9 D0 D1 D2 D3 D4 D5 D6 D7 D8 D9 E0:Value} {w:World} (Inv:Value→Value→Value→World→Prop) (μ:Value→Value→Value→World→Nat) (h0:Inv limit4 used5 i6 w)
  (hs:∀ (limit4' used5' i6':Value) (dd:Nat→Value) (w:World) (m:Nat),Inv limit4' used5' i6' w→m=μ limit4' used5' i6' w →
  bin Q BinOp.lss 3 false true i6' (ci 6) (fun A9 w=>cond A9 (aa Q 36 r1 0 (fun C4=>af Q 33 C4 i6' fun C5=>ld Q 2 C5 fun C6=>bin Q BinOp.add 2 false false limit4' C6 fun C7 w=>sti (aa Q 36 r1 1) (fun D0=>sti (af Q 33 D0 i6') fun D1=>sti (ld Q 2 D1) fun D2=>sti (aa Q 36 r1 2) fun D4=>sti (af Q 33 D4 i6') fun D5=>sti (ld Q 2 D5) fun D6=>sti (bin Q BinOp.sub 2 false false D2 D6) fun D7=>sti (bin Q BinOp.add 2 false false used5' D7) fun D8=>bin Q BinOp.add 3 false true i6' (ci 1) fun C1 w=>(Inv C7 D8 C1 w)∧((μ C7 D8 C1 w)<m)) w.drew) w) (dR K [r0,r1,A0,A1,limit4',used5',i6',A5,A6,A7,i6',A9,dd 12,dd 13,dd 14,dd 15,dd 16,dd 17,dd 18,dd 19,dd 20,dd 21,dd 22,dd 23,dd 24,dd 25,dd 26,dd 27,dd 28,dd 29,dd 30,D9,E0] w)) w) :
  iu K [r0,r1,A0,A1,limit4,used5,i6,A5,A6,A7,A8,A9,C0,C1,C2,C3,C4,C5,C6,C7,C8,C9,D0,D1,D2,D3,D4,D5,D6,D7,D8,D9,E0] w:=by
 refine aB (cd Tryz.f86 [1,1,1,1,0,1,0,0]) [4,5,6,10,11,12,13,14,15,16,17,18,19,20,21,22,23,24,25,26,27,28,29,30] (by kernel_rfl) (fun e2 w2=>Inv (gd e2 4) (gd e2 5) (gd e2 6) w2) (fun e2 w2=>μ (gd e2 4) (gd e2 5) (gd e2 6) w2) h0 ?_
 intro e' w' hI
 have h:=hs (gd e' 4) (gd e' 5) (gd e' 6) (fun i=>gd e' i) w' _ hI rfl
 revert h
 generalize (dR K)=qc0
 exact fun h=>Eq.mp (by kernel_rfl) h
theorem rH {K:KV} {r0 r1 A0 A1 limit4 used5 i6 A5 A6 A7 A8 A9 C0 C1 C2 C3 C4 C5 C6 C7 C8 C9 D0 D1 D2 D3 D4 D5 D6 D7 D8 D9 E0:Value} {w:World}
  (h:K (Value.tuple #[limit4,used5]) w) :
  dR K [r0,r1,A0,A1,limit4,used5,i6,A5,A6,A7,A8,A9,C0,C1,C2,C3,C4,C5,C6,C7,C8,C9,D0,D1,D2,D3,D4,D5,D6,D7,D8,D9,E0] w:=by
 delta dR
 revert h
 exact fun h=>Eq.mp (by kernel_rfl) h
attribute [irreducible] dR iu
end Go.Proofs.YtgpfkmdknlcemaaGreatDoor
namespace Go.Proofs.YtgpfkmdknlcemaaGreatDoor
set_option maxRecDepth 100000
open Go.RowKit
def lp (A:List Int) (k j:Nat):Int:=((List.range j).map fun j=>nA A (18+6 * j+k) - nA A (18+6 * k+j)).sum
theorem BI (A:List Int) (k j:Nat):lp A k (j+1)=lp A k j+(nA A (18+6 * j+k) - nA A (18+6 * k+j)):=by simp [lp,List.range_succ]
theorem GH {A:List Int} {k:Nat} (hk:k < 6) (hn:∀ q,q < 54→0≤nA A q∧nA A q≤MXA):∀ j,j≤6→-(j * MXA)≤lp A k j∧lp A k j≤j * MXA
 | 0,_=>by simp [lp]
 | j+1,hj=>by
  have h1:=GH hk hn j (by omega)
  have h2:=hn (18+6 * j+k) (by omega)
  have h3:=hn (18+6 * k+j) (by omega)
  rw [BI]
  have e:(((j+1:Nat):Int)) * MXA=(j:Int) * MXA+MXA:=by simp only [MXA]; omega
  rw [e]; omega
attribute [local irreducible] bin un conv call bl blt slc aa fld af idx lkp bL bP eSt rng nxt ent ext alc box bld aJ ld sto aj bm mkS ifc pick rdy wts au sti cond aH Gives ac aW bA cOp
section
variable {w:World} {K:KV}
theorem tC {x:Int} (h:K (.bool (okA x)) w):call Tryz.prog 128 #[.int .i64 x] K w:=by
 refine aE rD (rC ?_)
 unfold okA at h
 refine dI ?_
 by_cases h1:x ≥ 0
 ·refine dz h1 <|fB <|bp h1 ?_
  rw [show decide (0≤x)=true from decide_eq_true h1,Bool.true_and] at h
  exact h
 ·refine eK h1 <|bt h1 ?_
  rw [show decide (0≤x)=false from decide_eq_false h1,Bool.false_and] at h
  exact h
set_option maxHeartbeats 2000000 in
theorem tD {A:List Int} {k:Nat} (hA:A.length=54) (hk:k < 6) (hn:∀ q,q < 54→0≤nA A q∧nA A q≤MXA) (h:∀ w',Below w.heap.size w w'→K (iv (jP A k)) w') :
  call Tryz.prog 112 #[.agg (A.map iv).toArray,.int .i64 ((k:Int)+1)] K w:=by
 refine aE sJ (sI ?_)
 refine bh fun w1 hb b1 s1 => ?_
 have hb:blk w1 w.heap.size 36 (A.map iv):=by simpa [Value.cells] using hb
 have hR:RtA w1.drew w.heap.size 0 36 (A.map iv) A:=⟨hb.drew,by rw [List.drop_zero,List.take_of_length_le (by simp [hA])],hA⟩
 have b1:Below w.heap.size w w1.drew:=b1.drew
 refine bo (by omega) (by omega) ?_
 rw [show (k:Int)+1 - 1=(k:Nat) by omega]
 generalize w1.drew=w2 at *
 have n0:=hn k (by omega)
 have n1:=hn (6+k) (by omega)
 have n2:=hn (12+k) (by omega)
 simp only [MXA] at n0 n1 n2
 refine a8 (fun _=>aq (off:=0) (by kernel_rfl)) <|a8 (fun _=>aT Tryz.underlying33 (s:=1) (fun _=>by kernel_rfl) (by omega) (by omega)) <|a8 (v:=iv (nA A k)) (fun _=>ld1 (fun _=>by kernel_rfl) hR.bk (by rw [← hR.get (i:=k) (by omega)]; congr 1; simp)) <|a8 (fun _=>aq (off:=6) (by kernel_rfl)) <|a8 (fun _=>aT Tryz.underlying33 (s:=1) (fun _=>by kernel_rfl) (by omega) (by omega)) <|a8 (v:=iv (nA A (6+k))) (fun _=>ld1 (fun _=>by kernel_rfl) hR.bk (by rw [← hR.get (i:=6+k) (by omega)]; congr 1; simp)) ?_
 unfold iv
 refine a8 (fun _=>bo (by omega) (by omega)) <|a8 (fun _=>aq (off:=12) (by kernel_rfl)) <|a8 (fun _=>aT Tryz.underlying33 (s:=1) (fun _=>by kernel_rfl) (by omega) (by omega)) <|a8 (v:=iv (nA A (12+k))) (fun _=>ld1 (fun _=>by kernel_rfl) hR.bk (by rw [← hR.get (i:=12+k) (by omega)]; congr 1; simp)) ?_
 unfold iv
 refine a8 (fun _=>aF (by omega) (by omega)) ?_
 refine qF (Inv:=fun ov jv wr => ∃ j:Nat,ov=.int .i64 (nA A k - nA A (6+k)+nA A (12+k)+lp A k j)∧jv=.int .i64 (j:Nat)∧j≤6∧Below w2.heap.size w2 wr) (μ:=fun _ jv _=>6 - (intOf jv).toNat)
  ⟨0,by simp [lp],rfl,by omega,Below.refl _ _⟩ ?_
 rintro _ _ dd w3 m ⟨j,rfl,rfl,hj6,b3⟩ hmm
 refine aD ?_
 by_cases hj:j < 6
 ·refine ai (by omega) ?_
  have hR3:RtA w3.drew w.heap.size 0 36 (A.map iv) A:=by have:=hR.below b3 hR.bk.lt; exact ⟨this.bk.drew,this.cut,this.len⟩
  have b4:Below w2.heap.size w2 w3.drew:=b3.drew
  generalize w3.drew=w4 at *
  have hb1:=GH hk hn j hj6
  have m1:=hn (18+6 * j+k) (by omega)
  have m2:=hn (18+6 * k+j) (by omega)
  simp only [MXA] at hb1 m1 m2
  refine a8 (fun _=>aq (off:=18) (by kernel_rfl)) <|a8 (fun _=>aT Tryz.underlying34 (s:=6) (fun _=>by kernel_rfl) (by omega) (by omega)) <|a8 (fun _=>aT Tryz.underlying33 (s:=1) (fun _=>by kernel_rfl) (by omega) (by omega)) <|a8 (v:=iv (nA A (18+6 * j+k))) (fun _=>ld1 (fun _=>by kernel_rfl) hR3.bk (by rw [← hR3.get (i:=18+6 * j+k) (by omega)]; congr 1; simp; omega)) ?_
  unfold iv
  refine a8 (fun _=>aF (by omega) (by omega)) <|a8 (fun _=>aq (off:=18) (by kernel_rfl)) <|a8 (fun _=>aT Tryz.underlying34 (s:=6) (fun _=>by kernel_rfl) (by omega) (by omega)) <|a8 (fun _=>aT Tryz.underlying33 (s:=1) (fun _=>by kernel_rfl) (by omega) (by omega)) <|a8 (v:=iv (nA A (18+6 * k+j))) (fun _=>ld1 (fun _=>by kernel_rfl) hR3.bk (by rw [← hR3.get (i:=18+6 * k+j) (by omega)]; congr 1; simp; omega)) ?_
  unfold iv
  refine a8 (fun _=>bo (by omega) (by omega)) <|aF (by omega) (by omega) ?_
  refine ⟨⟨j+1, ?_,by simp,by omega,b4⟩,by rw [hmm]; simp [intOf]; omega⟩
  rw [BI]
  exact congrArg (Value.int .i64) (by omega)
 ·refine ag (by omega) ?_
  obtain rfl:j=6:=by omega
  refine qG ?_
  have:=h w3 (b1.trans (b3.mono b1.size))
  exact this
end
end Go.Proofs.YtgpfkmdknlcemaaGreatDoor
namespace Go.Proofs.YtgpfkmdknlcemaaGreatDoor
set_option maxRecDepth 100000
open Go.RowKit
theorem FP {A:List Int} {k:Nat} (hk:k < 6) (h:mL A k=false):iB A=false:=by
 have:(List.range 6).all (mL A)=false:=by
  cases hq:(List.range 6).all (mL A) with
  | false=>rfl
  | true=>have:=List.all_eq_true.1 hq k (by simpa using hk); rw [this] at h; cases h
 unfold iB
 rw [this]; rfl
theorem DT {A:List Int} {k:Nat} (hk:k < 6) (h:jP A k < 0):iB A=false:=by
 have:(List.range 6).all (fun k=>decide (0≤jP A k))=false:=by
  cases hq:(List.range 6).all (fun k=>decide (0≤jP A k)) with
  | false=>rfl
  | true=>have:=List.all_eq_true.1 hq k (by simpa using hk); simp at this; omega
 unfold iB
 rw [this]; simp
theorem Ad {A:List Int} (h:∀ k,k < 6→mL A k=true):∀ q,q < 54→0≤nA A q∧nA A q≤MXA:=by
 have e:∀ k,k < 6→okA (nA A k)=true∧okA (nA A (6+k))=true∧okA (nA A (12+k))=true∧∀ j,j < 6→okA (nA A (18+6 * k+j))=true:=by
  intro k hk
  have:=h k hk
  unfold mL at this
  simp only [Bool.and_eq_true] at this
  exact ⟨this.1.1.1.1.1,this.1.1.1.1.2,this.1.1.1.2,fun j hj=>List.all_eq_true.1 this.2 j (by simpa using hj)⟩
 intro q hq
 refine jd.1 ?_
 by_cases h1:q < 6
 ·exact (e q h1).1
 by_cases h2:q < 12
 ·have:=(e (q - 6) (by omega)).2.1; rwa [show 6+(q - 6)=q by omega] at this
 by_cases h3:q < 18
 ·have:=(e (q - 12) (by omega)).2.2.1; rwa [show 12+(q - 12)=q by omega] at this
 ·have:=(e ((q - 18) / 6) (by omega)).2.2.2 ((q - 18) % 6) (by omega)
  rwa [show 18+6 * ((q - 18) / 6)+(q - 18) % 6=q by omega] at this
theorem DU {A:List Int} (h:∀ k,k < 6→mL A k=true) (h2:∀ k,k < 6→0≤jP A k):iB A=decide (sG A 6≤MXA):=by
 unfold iB
 rw [List.all_eq_true.2 fun k hk=>h k (by simpa using hk),List.all_eq_true.2 fun k hk=>by simpa using h2 k (by simpa using hk)]
 rfl
end Go.Proofs.YtgpfkmdknlcemaaGreatDoor
namespace Go.Proofs.YtgpfkmdknlcemaaGreatDoor
set_option maxRecDepth 100000
open Go.RowKit
attribute [local irreducible] bin un conv call bl blt slc aa fld af idx lkp bL bP eSt rng nxt ent ext alc box bld aJ ld sto aj bm mkS ifc pick rdy wts au sti cond aH Gives ac aW bA cOp
section
variable {w:World} {K:KV}
set_option maxHeartbeats 4000000 in
theorem xO {A:List Int} (hA:A.length=54) (h:∀ w',Below w.heap.size w w'→K (.bool (iB A)) w'):call Tryz.prog 113 #[.agg (A.map iv).toArray] K w:=by
 refine aE vh (vg ?_)
 refine bh fun w1 hb b1 s1 => ?_
 have hb:blk w1 w.heap.size 36 (A.map iv):=by simpa [Value.cells] using hb
 have hR:RtA w1 w.heap.size 0 36 (A.map iv) A:=⟨hb,by rw [List.drop_zero,List.take_of_length_le (by simp [hA])],hA⟩
 have cutA:((A.map iv).drop 0).take 54=A.map iv:=by rw [List.drop_zero,List.take_of_length_le (by simp [hA])]
 have hlt0:=hb.lt
 refine sK (Inv:=fun al i _ _ _ _ _ _ _ _ _ _ _ _ _ _ _ _ _ _ _ _ _ _ _ _ _ _ _ _ wr => ∃ k:Nat,al=.int .i64 (sG A k)∧i=.int .i64 (k:Nat)∧k≤6∧Below w1.heap.size w1 wr∧∀ j,j < k→mL A j=true)
  (μ:=fun _ i _ _ _ _ _ _ _ _ _ _ _ _ _ _ _ _ _ _ _ _ _ _ _ _ _ _ _ _ _=>6 - (intOf i).toNat) ⟨0,rfl,rfl,by omega,Below.refl _ _,fun j hj=>by omega⟩ ?_
 rintro _ _ _ _ _ _ _ _ _ _ _ _ _ _ _ _ _ _ _ _ _ _ _ _ _ _ _ _ _ _ dd w2 m ⟨k,rfl,rfl,hk6,b2,hall⟩ hm
 have hR2:=hR.below b2 hlt0
 have hsz2:=b2.size
 have hsg:∀ k',k'≤k→0≤sG A k'∧sG A k'≤k' * MXA:=by
  intro k'
  induction k' with
  | zero=>intro _; simp [sG]
  | succ k' ih =>
   intro hk'
   have h1:=ih (by omega)
   have h2:=hall k' (by omega)
   unfold mL at h2
   simp only [Bool.and_eq_true] at h2
   have h3:=jd.1 h2.1.1.1.1.1
   rw [ph]
   have e:(((k'+1:Nat):Int)) * MXA=(k':Int) * MXA+MXA:=by simp only [MXA]; omega
   rw [e]; omega
 refine aD ?_
 by_cases hk:k < 6
 ·refine ai (by omega) ?_
  have hR3:RtA w2.drew w.heap.size 0 36 (A.map iv) A:=⟨hR2.bk.drew,hR2.cut,hR2.len⟩
  have hB:Below w1.heap.size w1 w2.drew:=b2.drew
  have no:mL A k=false→K (.bool false) w2.drew:=fun hq=>by
   have:=h w2.drew (b1.trans (hB.mono (by omega)))
   rw [FP hk hq] at this
   exact this
  generalize w2.drew=w4 at *
  have hf:mL A k=(okA (nA A k) && okA (nA A (6+k)) && okA (nA A (12+k)) && decide (nA A (12+k)≤nA A (6+k)) && decide (nA A (18+6 * k+k)=0) && (List.range 6).all fun j=>okA (nA A (18+6 * k+j))):=rfl
  refine a8 (fun _=>aq (off:=0) (by kernel_rfl)) <|a8 (fun _=>aT Tryz.underlying33 (s:=1) (fun _=>by kernel_rfl) (by omega) (by omega)) <|a8 (v:=iv (nA A k)) (fun _=>ld1 (fun _=>by kernel_rfl) hR3.bk (by rw [← hR3.get (i:=k) (by omega)]; congr 1; simp)) ?_
  unfold iv
  refine a8 (fun _=>tC) <|a8 (fun _=>cU) ?_
  cases c1:okA (nA A k) with
  | false =>
   refine d8 <|a8 (fun _=>bI) <|d8 <|a8 (fun _=>bI) <|d8 <|a8 (fun _=>bI) <|d8 <|a8 (fun _=>bI) <|aR ?_
   exact no (by rw [hf,c1]; rfl)
  | true =>
  refine jH <|a8 (fun _=>aq (off:=6) (by kernel_rfl)) <|a8 (fun _=>aT Tryz.underlying33 (s:=1) (fun _=>by kernel_rfl) (by omega) (by omega)) <|a8 (v:=iv (nA A (6+k))) (fun _=>ld1 (fun _=>by kernel_rfl) hR3.bk (by rw [← hR3.get (i:=6+k) (by omega)]; congr 1; simp)) ?_
  unfold iv
  refine a8 (fun _=>tC) <|a8 (fun _=>cU) <|a8 (fun _=>fe) ?_
  cases c2:okA (nA A (6+k)) with
  | false =>
   refine d8 <|a8 (fun _=>bI) <|d8 <|a8 (fun _=>bI) <|d8 <|a8 (fun _=>bI) <|aR ?_
   exact no (by rw [hf,c2]; simp)
  | true =>
  refine jH <|a8 (fun _=>aq (off:=12) (by kernel_rfl)) <|a8 (fun _=>aT Tryz.underlying33 (s:=1) (fun _=>by kernel_rfl) (by omega) (by omega)) <|a8 (v:=iv (nA A (12+k))) (fun _=>ld1 (fun _=>by kernel_rfl) hR3.bk (by rw [← hR3.get (i:=12+k) (by omega)]; congr 1; simp)) ?_
  unfold iv
  refine a8 (fun _=>tC) <|a8 (fun _=>cU) <|a8 (fun _=>fe) ?_
  cases c3:okA (nA A (12+k)) with
  | false =>
   refine d8 <|a8 (fun _=>bI) <|d8 <|a8 (fun _=>bI) <|aR ?_
   exact no (by rw [hf,c3]; simp)
  | true =>
  refine jH <|a8 (fun _=>aq (off:=12) (by kernel_rfl)) <|a8 (fun _=>aT Tryz.underlying33 (s:=1) (fun _=>by kernel_rfl) (by omega) (by omega)) <|a8 (v:=iv (nA A (12+k))) (fun _=>ld1 (fun _=>by kernel_rfl) hR3.bk (by rw [← hR3.get (i:=12+k) (by omega)]; congr 1; simp)) <|a8 (fun _=>aq (off:=6) (by kernel_rfl)) <|a8 (fun _=>aT Tryz.underlying33 (s:=1) (fun _=>by kernel_rfl) (by omega) (by omega)) <|a8 (v:=iv (nA A (6+k))) (fun _=>ld1 (fun _=>by kernel_rfl) hR3.bk (by rw [← hR3.get (i:=6+k) (by omega)]; congr 1; simp)) ?_
  unfold iv
  refine a8 (fun _=>cD) <|a8 (fun _=>fe) ?_
  by_cases h1:nA A (6+k) < nA A (12+k)
  ·refine de h1 <|a8 (fun _=>bp h1) <|aR ?_
   exact no (by rw [hf,decide_eq_false (by omega : ¬ nA A (12+k)≤nA A (6+k))]; simp)
  refine cE h1 <|a8 (fun _=>aq (off:=18) (by kernel_rfl)) <|a8 (fun _=>aT Tryz.underlying34 (s:=6) (fun _=>by kernel_rfl) (by omega) (by omega)) <|a8 (fun _=>aT Tryz.underlying33 (s:=1) (fun _=>by kernel_rfl) (by omega) (by omega)) <|a8 (v:=iv (nA A (18+6 * k+k))) (fun _=>ld1 (fun _=>by kernel_rfl) hR3.bk (by rw [← hR3.get (i:=18+6 * k+k) (by omega)]; congr 1; simp; omega)) ?_
  unfold iv
  refine a8 (fun _=>dn) <|a8 (fun _=>bt h1) ?_
  by_cases h2:nA A (18+6 * k+k)≠0
  ·refine ai h2 ?_
   exact no (by rw [hf,decide_eq_false h2]; simp)
  refine ag h2 ?_
  have hg:=jd.1 c1
  have hs:=hsg k (Nat.le_refl _)
  simp only [MXA] at hg hs
  refine aq (off:=0) (by kernel_rfl) <|aT Tryz.underlying33 (s:=1) (fun _=>by kernel_rfl) (by omega) (by omega) <|ld1 (v:=iv (nA A k)) (fun _=>by kernel_rfl) hR3.bk (by rw [← hR3.get (i:=k) (by omega)]; congr 1; simp) ?_
  unfold iv
  refine aF (by omega) (by omega) <|sL (Inv:=fun jv wr => ∃ j:Nat,jv=.int .i64 (j:Nat)∧j≤6∧wr=w4∧∀ q,q < j→okA (nA A (18+6 * k+q))=true) (μ:=fun jv _=>6 - (intOf jv).toNat) ⟨0,rfl,by omega,rfl,fun q hq=>by omega⟩ ?_
  rintro _ dd2 _ m2 ⟨j,rfl,hj6,rfl,hrow⟩ hm2
  refine aD ?_
  by_cases hj:j < 6
  ·refine ai (by omega) <|aq (off:=18) (by kernel_rfl) <|aT Tryz.underlying34 (s:=6) (fun _=>by kernel_rfl) (by omega) (by omega) <|aT Tryz.underlying33 (s:=1) (fun _=>by kernel_rfl) (by omega) (by omega) <|ld1 (v:=iv (nA A (18+6 * k+j))) (fun _=>by kernel_rfl) hR3.bk (by rw [← hR3.get (i:=18+6 * k+j) (by omega)]; congr 1; simp; omega) ?_
   unfold iv
   refine tC <|cU ?_
   cases c4:okA (nA A (18+6 * k+j)) with
   | false =>
    refine aR <|no ?_
    have:(List.range 6).all (fun j=>okA (nA A (18+6 * k+j)))=false:=by
     cases hq:(List.range 6).all (fun j=>okA (nA A (18+6 * k+j))) with
     | false=>rfl
     | true=>have:=List.all_eq_true.1 hq j (by simpa using hj); rw [this] at c4; cases c4
    rw [hf,this]; simp
   | true =>
    refine cW <|aF (by omega) (by omega) ?_
    refine ⟨⟨j+1,by simp,by omega,rfl,fun q hq => ?_⟩,by rw [hm2]; simp [intOf]; omega⟩
    by_cases hqj:q=j
    ·subst hqj; exact c4
    ·exact hrow q (by omega)
  ·refine ag (by omega) ?_
   obtain rfl:j=6:=by omega
   refine sN <|aF (by omega) (by omega) ?_
   refine ⟨⟨k+1,congrArg (Value.int .i64) (ph A k).symm,congrArg (Value.int .i64) (by omega),by omega,hB,fun q hq => ?_⟩,by rw [hm]; show 6 - ((k:Int)+1).toNat < 6 - (k:Int).toNat; omega⟩
   by_cases hqk:q=k
   ·subst hqk
    rw [hf,c1,c2,c3,decide_eq_true (by omega:nA A (12+q)≤nA A (6+q)),decide_eq_true (Classical.not_not.1 h2),List.all_eq_true.2 fun j hj=>hrow j (by simpa using hj)]; rfl
   ·exact hall q (by omega)
 ·refine ag (by omega) ?_
  obtain rfl:k=6:=by omega
  have hnum:=Ad hall
  refine sM <|sO (Inv:=fun iv' wr => ∃ j:Nat,iv'=.int .i64 ((j:Int)+1)∧j≤6∧Below w1.heap.size w1 wr∧∀ q,q < j→0≤jP A q) (μ:=fun iv' _=>8 - (intOf iv').toNat) ⟨0,rfl,by omega,b2,fun q hq=>by omega⟩ ?_
  rintro _ dd2 w5 m2 ⟨j,rfl,hj6,b5,hloc⟩ hm2
  have hR5:=hR.below b5 hlt0
  have hsz5:=b5.size
  refine fB ?_
  by_cases hj:j < 6
  ·refine ai (by omega) <|ldA (n:=54) (vs:=A.map iv) Tryz.underlying36 rfl (by kernel_rfl) hR5.bk cutA (by simp [hA]) <|tD hA hj hnum fun w6 b6 => ?_
   have b16:Below w1.heap.size w1 w6:=b5.trans (b6.mono hsz5)
   unfold iv
   refine aD ?_
   by_cases hneg:jP A j < 0
   ·refine ai hneg ?_
    have:=h w6 (b1.trans (b16.mono (by omega)))
    rw [DT hj hneg] at this
    exact this
   ·refine ag hneg <|aF (by omega) (by omega) ?_
    refine ⟨⟨j+1,by simp,by omega,b16,fun q hq => ?_⟩,by rw [hm2]; simp [intOf]; omega⟩
    by_cases hqj:q=j
    ·subst hqj; omega
    ·exact hloc q (by omega)
  ·refine ag (by omega) ?_
   obtain rfl:j=6:=by omega
   refine sP <|fB ?_
   have:=h w5 (b1.trans (b5.mono (by omega)))
   rw [DU hall hloc] at this
   exact this
end
end Go.Proofs.YtgpfkmdknlcemaaGreatDoor
namespace Go.Proofs.YtgpfkmdknlcemaaGreatDoor
set_option maxRecDepth 100000
open Go.RowKit
attribute [local irreducible] bin un conv call bl blt slc aa fld af idx lkp bL bP eSt rng nxt ent ext alc box bld aJ ld sto aj bm mkS ifc pick rdy wts au sti cond aH Gives ac aW bA cOp
section
variable {w:World} {K:KV}
theorem xP {i:Int} (h:K (.bool (f6 i)) w):call Tryz.prog 111 #[.int .i64 i] K w:=by
 refine aE rF (rE ?_)
 unfold f6 at h
 refine dI ?_
 by_cases h1:i ≥ 1
 ·refine dz h1 <|fB <|bp h1 ?_
  rw [show decide (1≤i)=true from decide_eq_true h1,Bool.true_and] at h
  exact h
 ·refine eK h1 <|bt h1 ?_
  rw [show decide (1≤i)=false from decide_eq_false h1,Bool.false_and] at h
  exact h
theorem qH {A:List Int} (h:iB A=true):∀ q,q < 54→0≤nA A q∧nA A q≤MXA:=by
 unfold iB at h
 simp only [Bool.and_eq_true] at h
 exact Ad fun k hk=>List.all_eq_true.1 h.1.1 k (by simpa using hk)
theorem DV {A:List Int} {i:Int} (hA:A.length=54) (h:∀ w',Below w.heap.size w w'→K (iv (if f6 i then jR A (i - 1).toNat else 0)) w'):call Tryz.prog 87 #[.agg (A.map iv).toArray,.int .i64 i] K w:=by
 refine aE sR (sQ ?_)
 refine bh fun w1 hb b1 s1 => ?_
 have hb:blk w1 w.heap.size 36 (A.map iv):=by simpa [Value.cells] using hb
 have cutA:((A.map iv).drop 0).take 54=A.map iv:=by rw [List.drop_zero,List.take_of_length_le (by simp [hA])]
 refine ldA (n:=54) (vs:=A.map iv) Tryz.underlying36 rfl (by kernel_rfl) hb cutA (by simp [hA]) <|xO hA fun w2 b2 => ?_
 have B2:Below w.heap.size w w2:=b1.trans (b2.mono (by omega))
 refine cU ?_
 cases hm:iB A with
 | false =>
  refine d8 <|bI <|aR ?_
  have:=h w2 B2
  have e:jR A (i - 1).toNat=0:=by unfold jR; rw [zH,hm]
  rw [e,ite_self] at this
  exact this
 | true =>
  refine jH <|xP <|cU <|fe ?_
  cases hr:f6 i with
  | false =>
   refine aR ?_
   rw [hr] at h
   exact h w2 B2
  | true =>
   have hi:1≤i∧i≤6:=by simpa [f6] using hr
   refine cW <|ldA (n:=54) (vs:=A.map iv) Tryz.underlying36 rfl (by kernel_rfl) (ae b2 hb hb.lt) cutA (by simp [hA]) ?_
   rw [show i=(((i - 1).toNat:Nat):Int)+1 by omega]
   refine tD hA (by omega) (qH hm) fun w3 b3 => ?_
   have:=h w3 (B2.trans (b3.mono B2.size))
   rw [hr,if_pos rfl,Fz A (by omega),hm] at this
   exact this
set_option maxHeartbeats 2000000 in
theorem FQ {A:List Int} (hA:A.length=54) (h:∀ w',Below w.heap.size w w'→K (.tuple #[iv (gz A).1,iv (gz A).2]) w'):call Tryz.prog 86 #[.agg (A.map iv).toArray] K w:=by
 refine aE uc (ub ?_)
 refine bh fun w1 hb b1 s1 => ?_
 have hb:blk w1 w.heap.size 36 (A.map iv):=by simpa [Value.cells] using hb
 have hR:RtA w1 w.heap.size 0 36 (A.map iv) A:=⟨hb,by rw [List.drop_zero,List.take_of_length_le (by simp [hA])],hA⟩
 refine ldA (n:=54) (vs:=A.map iv) Tryz.underlying36 rfl (by kernel_rfl) hb (by rw [List.drop_zero,List.take_of_length_le (by simp [hA])]) (by simp [hA]) <|xO hA fun w2 b2 => ?_
 rw [← zH]
 have hR2:=hR.below b2 hb.lt
 refine cU ?_
 have B2:Below w.heap.size w w2:=b1.trans (b2.mono (by omega))
 cases hm:jx A with
 | false =>
  refine aR ?_
  have:=h w2 B2
  unfold gz at this
  rw [hm] at this
  exact this
 | true =>
  refine cW <|rG (Inv:=fun l u i wr => ∃ k:Nat,l=iv (sG A k)∧u=iv (sU A k)∧i=.int .i64 (k:Nat)∧k≤6∧Below w2.heap.size w2 wr) (μ:=fun _ _ i _=>6 - (intOf i).toNat) ⟨0,rfl,rfl,rfl,by omega,Below.refl _ _⟩ ?_
  rintro _ _ _ dd w3 m ⟨k,rfl,rfl,rfl,hk6,b3⟩ hmm
  have hR3:=hR2.below b3 hR2.bk.lt
  refine aD ?_
  by_cases hk:k < 6
  ·refine ai (by omega) ?_
   have hn:=uQ hm k hk
   have hg:=sGU hm k hk6
   simp only [MXA] at hn hg
   refine aq (off:=0) (by kernel_rfl) <|aT Tryz.underlying33 (s:=1) (fun _=>by kernel_rfl) (by omega) (by omega) <|ld1 (v:=iv (nA A k)) (fun _=>by kernel_rfl) hR3.bk (by rw [← hR3.get (i:=k) (by omega)]; congr 1; simp) ?_
   unfold iv
   refine aF (by omega) (by omega) ?_
   have hR4:RtA w3.drew w.heap.size 0 36 (A.map iv) A:=⟨hR3.bk.drew,hR3.cut,hR3.len⟩
   have b4:Below w2.heap.size w2 w3.drew:=b3.drew
   generalize w3.drew=w4 at *
   refine a8 (fun _=>aq (off:=6) (by kernel_rfl)) <|a8 (fun _=>aT Tryz.underlying33 (s:=1) (fun _=>by kernel_rfl) (by omega) (by omega)) <|a8 (v:=iv (nA A (6+k))) (fun _=>ld1 (fun _=>by kernel_rfl) hR4.bk (by rw [← hR4.get (i:=6+k) (by omega)]; congr 1; simp)) <|a8 (fun _=>aq (off:=12) (by kernel_rfl)) <|a8 (fun _=>aT Tryz.underlying33 (s:=1) (fun _=>by kernel_rfl) (by omega) (by omega)) <|a8 (v:=iv (nA A (12+k))) (fun _=>ld1 (fun _=>by kernel_rfl) hR4.bk (by rw [← hR4.get (i:=12+k) (by omega)]; congr 1; simp)) ?_
   unfold iv
   refine a8 (fun _=>bo (by omega) (by omega)) <|a8 (fun _=>aF (by omega) (by omega)) <|aF (by omega) (by omega) ?_
   exact ⟨⟨k+1,by rw [ph],by rw [xi],by simp,by omega,b4⟩,by rw [hmm]; simp [intOf]; omega⟩
  ·refine ag (by omega) ?_
   obtain rfl:k=6:=by omega
   refine rH ?_
   have:=h w3 (B2.trans (b3.mono (by have:=B2.size; omega)))
   unfold gz at this
   rw [hm] at this
   exact this
end
end Go.Proofs.YtgpfkmdknlcemaaGreatDoor
namespace Go.Proofs.YtgpfkmdknlcemaaGreatDoor
open Go.RowKit
set_option maxRecDepth 100000
def dS (K:KV):KE:=ac Q (cd Tryz.f85 [1,1]) (rk Tryz.f85 K) xf (rk Tryz.f85 K)
def iw (K:KV):KE:=ac Q (cd Tryz.f85 [1,0,1,0]) (dS K) (xx xf (dS K) 0) (rk Tryz.f85 K)
theorem ud {K:KV} {s0 id1:Value} {w:World}
  (h:box Q 30 s0 (fun s2=>iw K [s0,id1,s2,undef,ci 0,ci 0,undef,undef,undef,undef,undef,undef,undef,undef,undef,undef,undef,undef,undef,undef,undef,undef]) w) :
  Gives Q 85 #[s0,id1] w K:=by
 refine aK Tryz.func85 (by kernel_rfl) ?_
 revert h
 delta iw dS
 exact fun h=>Eq.mp (by kernel_rfl) h
theorem ue:bD Q 85:=⟨_,Tryz.func85,by kernel_rfl,by kernel_rfl⟩
theorem rI {K:KV} {s0 id1 s2 id3 A0 i5 A2 A3 A4 A5 A6 A7 A8 A9 C0 C1 C2 C3 C4 C5 C6 C7:Value} {w:World} (Inv:Value→World→Prop) (μ:Value→World→Nat) (h0:Inv i5 w)
  (hs:∀ (i5':Value) (dd:Nat→Value) (w:World) (m:Nat),Inv i5' w→m=μ i5' w →
  aa Q 30 s2 3 (fun A3=>ld Q 27 A3 fun A4=>blt Q Builtin.len #[27] 3 #[false] #[A4] fun A5=>bin Q BinOp.lss 3 false false i5' A5 fun A6 w=>cond A6 (aa Q 30 s2 3 (fun A9=>ld Q 27 A9 fun C0=>af Q 27 C0 i5' fun C2=>aa Q 38 C2 0 fun C3=>ld Q 24 C3 fun C4=>bin Q BinOp.eql 24 false false C4 id1 fun C6 w=>cond C6 (K i5' w) (bin Q BinOp.add 3 false true i5' (ci 1) (fun A8 w=>(Inv A8 w)∧((μ A8 w)<m)) w)) w) (dS K [s0,id1,s2,id3,dd 4,i5',i5',A3,A4,A5,A6,dd 11,dd 12,dd 13,dd 14,dd 15,dd 16,dd 17,dd 18,dd 19,dd 20,dd 21] w)) w) :
  iw K [s0,id1,s2,id3,A0,i5,A2,A3,A4,A5,A6,A7,A8,A9,C0,C1,C2,C3,C4,C5,C6,C7] w:=by
 refine aB (cd Tryz.f85 [1,0,1,0,0]) [4,5,6,7,8,9,10,11,12,13,14,15,16,17,18,19,20,21] (by kernel_rfl) (fun e2 w2=>Inv (gd e2 5) w2) (fun e2 w2=>μ (gd e2 5) w2) h0 ?_
 intro e' w' hI
 have h:=hs (gd e' 5) (fun i=>gd e' i) w' _ hI rfl
 revert h
 generalize (dS K)=qc0
 exact fun h=>Eq.mp (by kernel_rfl) h
theorem rJ {K:KV} {s0 id1 s2 id3 A0 i5 A2 A3 A4 A5 A6 A7 A8 A9 C0 C1 C2 C3 C4 C5 C6 C7:Value} {w:World}
  (h:K (ci (-1)) w) :
  dS K [s0,id1,s2,id3,A0,i5,A2,A3,A4,A5,A6,A7,A8,A9,C0,C1,C2,C3,C4,C5,C6,C7] w:=by
 delta dS
 revert h
 exact fun h=>Eq.mp (by kernel_rfl) h
attribute [irreducible] dS iw
def eT (K:KV):KE:=ac Q (cd Tryz.f56 [1,1,1,1,1,1]) (rk Tryz.f56 K) xf (rk Tryz.f56 K)
def jk (K:KV):KE:=ac Q (cd Tryz.f56 [1,1,1,1,1,0,1,0]) (eT K) (xx xf (eT K) 0) (rk Tryz.f56 K)
theorem wA {K:KV} {s0 id1:Value} {w:World}
  (h:box Q 30 s0 (fun s2=>alc Q 135 fun A0=>ld Q 30 s2 fun A5=>call Q 85 #[A5,id1] fun A7=>bin Q BinOp.lss 3 false true A7 (ci 0) fun A9 w=>cond A9 (bld Q 135 #[] (fun C0=>sto Q 135 A0 C0 fun _=>aH Q [(some 135,A0),(none,ci 9)] K) w) (alc Q 135 (fun q7=>aa Q 30 s2 3 fun C2=>ld Q 27 C2 fun C3=>af Q 27 C3 A7 fun C5=>aa Q 38 C5 2 fun C6=>ld Q 36 C6 fun C7=>call Q 86 #[C7] fun C8=>ext Q C8 0 fun C9=>ext Q C8 1 fun D0=>aa Q 135 q7 0 fun D1=>sto Q 2 D1 C9 fun _=>aa Q 135 q7 1 fun D2=>sto Q 2 D2 D0 fun _=>jk K [s0,id1,s2,undef,A0,ci 0,A7,q7,ci 0,A5,id1,A7,A7,A9,undef,C8,C2,C3,A7,C5,C6,C7,C8,C9,D0,D1,D2,undef,undef,undef,undef,undef,undef,undef,undef,undef,undef,undef,undef,undef,undef,undef,undef,undef]) w)) w) :
  Gives Q 56 #[s0,id1] w K:=by
 refine aK Tryz.func56 (by kernel_rfl) ?_
 revert h
 delta jk eT
 exact fun h=>Eq.mp (by kernel_rfl) h
theorem wB:bD Q 56:=⟨_,Tryz.func56,by kernel_rfl,by kernel_rfl⟩
theorem uf {K:KV} {s0 id1 s2 id3 A0 A1 k_6 q7 i8 A5 A6 A7 A8 A9 C0 C1 C2 C3 C4 C5 C6 C7 C8 C9 D0 D1 D2 D3 D4 D5 D6 D7 D8 D9 E0 E1 E2 E3 E4 E5 E6 E7 E8 E9:Value} {w:World} (Inv:Value→World→Prop) (μ:Value→World→Nat) (h0:Inv i8 w)
  (hs:∀ (i8':Value) (dd:Nat→Value) (w:World) (m:Nat),Inv i8' w→m=μ i8' w →
  bin Q BinOp.lss 3 false true i8' (ci 6) (fun D4 w=>cond D4 (aa Q 30 s2 3 (fun D8=>ld Q 27 D8 fun D9=>af Q 27 D9 k_6 fun E1=>aa Q 38 E1 2 fun E2=>ld Q 36 E2 fun E3=>bin Q BinOp.add 3 false true i8' (ci 1) fun E5=>call Q 87 #[E3,E5] fun E6=>aa Q 135 q7 2 fun E7=>af Q 33 E7 i8' fun E8=>sto Q 2 E8 E6 fun _=>bin Q BinOp.add 3 false true i8' (ci 1) fun D6 w=>(Inv D6 w)∧((μ D6 w)<m)) w) (eT K [s0,id1,s2,id3,A0,A1,k_6,q7,i8',A5,A6,A7,A8,A9,C0,C1,C2,C3,C4,C5,C6,C7,C8,C9,D0,D1,D2,i8',D4,dd 29,dd 30,dd 31,dd 32,dd 33,dd 34,dd 35,dd 36,dd 37,dd 38,dd 39,dd 40,dd 41,dd 42,E9] w)) w) :
  jk K [s0,id1,s2,id3,A0,A1,k_6,q7,i8,A5,A6,A7,A8,A9,C0,C1,C2,C3,C4,C5,C6,C7,C8,C9,D0,D1,D2,D3,D4,D5,D6,D7,D8,D9,E0,E1,E2,E3,E4,E5,E6,E7,E8,E9] w:=by
 refine aB (cd Tryz.f56 [1,1,1,1,1,0,1,0,0]) [8,27,28,29,30,31,32,33,34,35,36,37,38,39,40,41,42] (by kernel_rfl) (fun e2 w2=>Inv (gd e2 8) w2) (fun e2 w2=>μ (gd e2 8) w2) h0 ?_
 intro e' w' hI
 have h:=hs (gd e' 8) (fun i=>gd e' i) w' _ hI rfl
 revert h
 generalize (eT K)=qc0
 exact fun h=>Eq.mp (by kernel_rfl) h
theorem ug {K:KV} {s0 id1 s2 id3 A0 A1 k_6 q7 i8 A5 A6 A7 A8 A9 C0 C1 C2 C3 C4 C5 C6 C7 C8 C9 D0 D1 D2 D3 D4 D5 D6 D7 D8 D9 E0 E1 E2 E3 E4 E5 E6 E7 E8 E9:Value} {w:World}
  (h:ld Q 135 q7 (fun E9=>sto Q 135 A0 E9 fun _=>aH Q [(some 135,A0),(none,ci 0)] K) w) :
  eT K [s0,id1,s2,id3,A0,A1,k_6,q7,i8,A5,A6,A7,A8,A9,C0,C1,C2,C3,C4,C5,C6,C7,C8,C9,D0,D1,D2,D3,D4,D5,D6,D7,D8,D9,E0,E1,E2,E3,E4,E5,E6,E7,E8,E9] w:=by
 delta eT
 revert h
 exact fun h=>Eq.mp (by kernel_rfl) h
attribute [irreducible] eT jk
end Go.Proofs.YtgpfkmdknlcemaaGreatDoor
namespace Go.Proofs.YtgpfkmdknlcemaaGreatDoor
set_option maxRecDepth 100000
open Go.RowKit
attribute [local irreducible] bin un conv call bl blt slc aa fld af idx lkp bL bP eSt rng nxt ent ext alc box bld aJ ld sto aj bm mkS ifc pick rdy wts au sti cond aH Gives ac aW bA cOp
section
variable {w:World} {K:KV}
theorem DW {s:STA} {id:Int} (hs:SK w s) (h:∀ w',Below w.heap.size w w'→K (.int .i64 (fdN s.nodes id)) w'):call Tryz.prog 85 #[.agg (saC s).toArray,.int .u64 id] K w:=by
 refine aE ue (ud ?_)
 refine bh fun w1 hb b1 s1 => ?_
 have hb:blk w1 w.heap.size 30 (saC s):=by simpa [Value.cells] using hb
 have hr:=(hs.bel b1 (Nat.le_refl _)).nr
 have hfew:=hs.few
 generalize hL:s.nodes=L at *
 generalize hn:L.length=n at *
 refine rI (Inv:=fun i wr => ∃ k:Nat,i=.int .i64 (k:Nat)∧k≤n∧wr=w1∧∀ j y,j < k→L[j]? = some y→y.id≠id) (μ:=fun i _=>n - (intOf i).toNat) ⟨0,rfl,by omega,rfl,fun j y hj=>by omega⟩ ?_
 rintro _ dd _ m ⟨k,rfl,hk,rfl,hall⟩ hm
 have hN:=jZ hs
 rw [hL,hn] at hN
 refine aU <|ld1 (v:=.slice s.na n s.nc) (fun _=>by kernel_rfl) hb hN <|aI Tryz.underlying27 <|aD ?_
 by_cases hkn:k < n
 ·refine ai (by omega) ?_
  obtain ⟨b,o,hbo⟩:=hr.some_ (by omega)
  have hx:L[k]? = some (L[k]'(by omega)):=List.getElem?_eq_getElem _
  generalize L[k]'(by omega)=x at hx
  refine aU <|ld1 (v:=.slice s.na n s.nc) (fun _=>by kernel_rfl) hb hN ?_
  rw [hbo]
  refine bJ Tryz.underlying27 (s:=56) (fun _=>by kernel_rfl) (by omega) (by omega) ?_
  rw [Int.toNat_natCast]
  refine gC <|dp (v:=.int .u64 x.id) (fun _=>by kernel_rfl) (hr.cell k x hx b o hbo 0 _ rfl) <|aN ?_
  by_cases hid:x.id=id
  ·refine ai hid ?_
   have:=h _ b1
   have hp:=xh hx hid (fun j y hj hy=>hall j y hj hy)
   unfold fdN at this
   rw [hp,if_pos (by omega)] at this
   exact this
  ·refine ag hid <|aF (by omega) (by omega) ?_
   refine ⟨⟨k+1,by simp,by omega,rfl,fun j y hj hy => ?_⟩,by rw [hm]; simp [intOf]; omega⟩
   by_cases hjk:j=k
   ·subst hjk; rw [hx] at hy; cases hy; exact hid
   ·exact hall j y (by omega) hy
 ·refine ag (by omega) ?_
  obtain rfl:k=n:=by omega
  refine rJ ?_
  have:=h _ b1
  have hp:=rX (L:=L) (id:=id) (fun j y hy=>hall j y (by have:=(List.getElem?_eq_some_iff.1 hy).1; omega) hy)
  unfold fdN at this
  rw [if_neg hp] at this
  exact this
end
end Go.Proofs.YtgpfkmdknlcemaaGreatDoor
namespace Go.Proofs.YtgpfkmdknlcemaaGreatDoor
set_option maxRecDepth 100000
open Go.RowKit
attribute [local irreducible] bin un conv call bl blt slc aa fld af idx lkp bL bP eSt rng nxt ent ext alc box bld aJ ld sto aj bm mkS ifc pick rdy wts au sti cond aH Gives ac aW bA cOp
section
variable {w:World} {K:KV}
theorem DX {t:Nat} {e:Int} {cs0 cs:List Value} (ht:blk w t 135 cs0) (h0:cs0.length=8) (hl:cs.length=8) (h1:∀ v ∈ cs,v.oneCell'=true) (h:∀ w',Oth t w w'→K (.tuple #[.agg cs.toArray,.int .i64 e]) w') :
  sto Tryz.prog 135 (.pointer (some ⟨t,0,none⟩)) (.agg cs.toArray) (fun _t w=>aH Tryz.prog [(some 135,.pointer (some ⟨t,0,none⟩)),(none,.int .i64 e)] K w) w:=by
 refine eM (n:=8) (vs:=cs) (by kernel_rfl) hl ht (by omega) h1 fun w1 hq1 o1 => ?_
 have hq1:blk w1 t 135 cs:=by
  rw [List.take_zero,List.nil_append,List.drop_of_length_le (by omega),List.append_nil] at hq1
  exact hq1
 have hr:=run_loadVar_mid (P:=Tryz.prog) w1 t 0 135 cs _ (fun j v hj=>by rw [hq1.cell,Nat.zero_add]; exact hj) Tryz.underlying135 rfl (by rw [hl]; kernel_rfl)
 have e:(dD [(some 135,.pointer (some ⟨t,0,none⟩)),(none,.int .i64 e)]).run Tryz.prog w1=.ok (.tuple #[.agg cs.toArray,.int .i64 e]) w1:=by
  simp [dD,asAddr,Sem.run_bind,hr]
 unfold aH
 rw [e]
 exact ⟨rfl,h w1 o1⟩
end
end Go.Proofs.YtgpfkmdknlcemaaGreatDoor
namespace Go.Proofs.YtgpfkmdknlcemaaGreatDoor
set_option maxRecDepth 100000
open Go.RowKit
attribute [local irreducible] bin un conv call bl blt slc aa fld af idx lkp bL bP eSt rng nxt ent ext alc box bld aJ ld sto aj bm mkS ifc pick rdy wts au sti cond aH Gives ac aW bA cOp
section
variable {w:World} {K:KV}
set_option maxHeartbeats 2000000 in
theorem HC {s:STA} {id:Int} (hs:SK w s) (h:∀ w',Below w.heap.size w w'→K (.tuple #[.agg (ofN s.nodes id).1.toArray,.int .i64 (ofN s.nodes id).2]) w'):call Tryz.prog 56 #[.agg (saC s).toArray,.int .u64 id] K w:=by
 refine aE wB (wA ?_)
 refine bh fun w1 hb b1 s1 => ?_
 have hb:blk w1 w.heap.size 30 (saC s):=by simpa [Value.cells] using hb
 refine cH (z:=.agg qz.toArray) (by kernel_rfl) fun w2 hq b2 s2 => ?_
 have hq:blk w2 w1.heap.size 135 qz:=hq
 have hb2:=ae b2 hb hb.lt
 have B2:Below w.heap.size w w2:=b1.trans (b2.mono (by omega))
 refine ldA (n:=20) (vs:=saC s) Tryz.underlying30 rfl (by kernel_rfl) hb2 (by rw [List.drop_zero,List.take_of_length_le (by rw [hs.len]; omega)]) hs.len ?_
 refine DW (hs.bel B2 (Nat.le_refl _)) fun w3 b3 => ?_
 have hq3:=ae b3 hq hq.lt
 have hb3:=ae b3 hb2 hb2.lt
 have B3:Below w.heap.size w w3:=B2.trans (b3.mono B2.size)
 have hS3:=hs.bel B3 (Nat.le_refl _)
 have hsz3:=b3.size
 refine aD ?_
 by_cases hp:posN s.nodes id < s.nodes.length
 ·rw [show fdN s.nodes id=((posN s.nodes id:Nat):Int) from if_pos hp]
  refine ag (by omega) ?_
  have hx:s.nodes[posN s.nodes id]? = some (s.nodes[posN s.nodes id]'hp):=List.getElem?_eq_getElem hp
  generalize s.nodes[posN s.nodes id]'hp=x at hx
  have hof:ofN s.nodes id=(quA x.A,0):=by unfold ofN; rw [hx]
  rw [hof] at h
  have hA:=hs.nr.A54 x (List.mem_of_getElem? hx)
  obtain ⟨b,o,hbo⟩:=hs.nr.some_ (by omega)
  refine cH (z:=.agg qz.toArray) (by kernel_rfl) fun w4 hq4 b4 s4 => ?_
  have hq4:blk w4 w3.heap.size 135 qz:=hq4
  have hb4:=ae b4 hb3 hb3.lt
  have ht4:=ae b4 hq3 hq3.lt
  have cutA:((x.A.map iv).drop 0).take 54=x.A.map iv:=by rw [List.drop_zero,List.take_of_length_le (by simp [hA])]
  have rdA:∀ {wz:World} {K:KV},Below w3.heap.size w3 wz→K (.agg (x.A.map iv).toArray) wz→ld Tryz.prog 36 (.pointer (some ⟨b,o+posN s.nodes id * 56+2,none⟩)) K wz:=fun {wz} {K} bz hK =>
   pW (run_loadVar_mid wz b (o+posN s.nodes id * 56+2) 36 (x.A.map iv) _ (fun j v hj=>by
    have:=(hS3.nr.bel bz (Nat.le_refl _)).cell _ x hx b o hbo (2+j) v (by unfold ndC; rw [show 2+j=j+1+1 by omega]; exact hj)
    rw [show o+posN s.nodes id * 56+2+j=o+posN s.nodes id * 56+(2+j) by omega]; exact this) Tryz.underlying36 rfl (by rw [List.length_map,hA]; kernel_rfl)) hK
  refine aU ?_
  refine ld1 (v:=.slice s.na s.nodes.length s.nc) (fun _=>by kernel_rfl) hb4 (jZ hs) ?_
  rw [hbo]
  refine bJ Tryz.underlying27 (s:=56) (fun _=>by kernel_rfl) (by omega) (by omega) ?_
  rw [Int.toNat_natCast]
  refine fP ?_
  refine rdA b4 ?_
  refine FQ hA fun w6 b6 => ?_
  refine fy ?_
  refine fz ?_
  have hq6:=ae b6 hq4 hq4.lt
  have b36:Below w3.heap.size w3 w6:=b4.trans (b6.mono b4.size)
  refine zy ?_
  refine eD (fun _=>by kernel_rfl) hq6 (by simp [qz]) rfl fun w7 hq7 o7 => ?_
  refine zz ?_
  refine eD (fun _=>by kernel_rfl) hq7 (by simp [qz]) rfl fun w8 hq8 o8 => ?_
  have hq8:blk w8 w3.heap.size 135 (iv (gz x.A).1::iv (gz x.A).2::nL x.A 0):=hq8
  have b38:Below w3.heap.size w3 w8:=(b36.trans o7.below).trans o8.below
  refine uf (Inv:=fun i wr => ∃ k:Nat,i=.int .i64 (k:Nat)∧k≤6∧blk wr w3.heap.size 135 (iv (gz x.A).1::iv (gz x.A).2::nL x.A k)∧Below w3.heap.size w3 wr) (μ:=fun i _=>6 - (intOf i).toNat)
   ⟨0,rfl,by omega,hq8,b38⟩ ?_
  rintro _ dd w9 m ⟨k,rfl,hk6,hq9,b9⟩ hmm
  have hsz9:=b9.size
  refine aD ?_
  by_cases hk:k < 6
  ·refine ai (by omega) ?_
   refine aU ?_
   refine ld1 (v:=.slice s.na s.nodes.length s.nc) (fun _=>by kernel_rfl) (ae b9 hb3 hb3.lt) (jZ hs) ?_
   rw [hbo]
   refine bJ Tryz.underlying27 (s:=56) (fun _=>by kernel_rfl) (by omega) (by omega) ?_
   rw [Int.toNat_natCast]
   refine fP ?_
   refine rdA b9 ?_
   refine aF (by omega) (by omega) ?_
   refine DV hA fun w10 b10 => ?_
   have hq10:=ae b10 hq9 hq9.lt
   rw [show f6 ((k:Int)+1)=true by simp [f6]; omega,if_pos rfl,show ((k:Int)+1 - 1).toNat=k by omega]
   refine pY ?_
   refine aT Tryz.underlying33 (s:=1) (fun _=>by kernel_rfl) (by omega) (by omega) ?_
   refine eD (fun _=>by kernel_rfl) hq10 (by simp [kY]; omega) rfl fun w11 hq11 o11 => ?_
   refine aF (by omega) (by omega) ?_
   refine ⟨⟨k+1,by simp,by omega, ?_,(b9.trans (b10.mono (by omega))).trans o11.below⟩,by rw [hmm]; simp [intOf]; omega⟩
   rw [show 0+2+(k:Int).toNat * 1=2+k by omega,zA hk] at hq11
   exact hq11
  ·refine ag (by omega) ?_
   obtain rfl:k=6:=by omega
   refine ug ?_
   refine ldA (n:=8) (vs:=iv (gz x.A).1::iv (gz x.A).2::nL x.A 6) Tryz.underlying135 rfl (by kernel_rfl) hq9 (by rw [List.drop_zero,List.take_of_length_le (by simp [kY])]) (by simp [kY]) ?_
   refine DX (ae b9 hq3 hq3.lt) rfl (by simp [kY]) (by simp [iv,nL,Value.oneCell',List.range,List.range.loop]) fun w12 o12 => ?_
   exact h w12 ((B3.trans (b9.mono (by omega))).trans (o12.below.mono (by omega)))
 ·rw [show fdN s.nodes id = -1 from if_neg hp]
  refine ai (by omega) ?_
  have hof:ofN s.nodes id=(qz,9):=by unfold ofN; rw [List.getElem?_eq_none (by omega)]
  rw [hof] at h
  refine eE (vs:=qz) (by kernel_rfl) ?_
  refine DX hq3 rfl rfl (by simp [qz,iv,Value.oneCell']) fun w4 o4 => ?_
  exact h w4 (B3.trans (o4.below.mono (by omega)))
end
end Go.Proofs.YtgpfkmdknlcemaaGreatDoor
namespace Go.Proofs.YtgpfkmdknlcemaaGreatDoor
open Go.RowKit
set_option maxRecDepth 100000
theorem uh {K:KV} {s0 i1:Value} {w:World}
  (h:box Q 30 s0 (fun s2=>bin Q BinOp.geq 3 false true i1 (ci 1) fun A2 w=>au A2 true (fun k8=>bin Q BinOp.leq 3 false true i1 (ci 6) (fun A5=>k8 [i1,A5]) w) (fun k=>k [undef,undef] w) fun us8=>pick A2 (gd us8 1) cF fun A6 w=>au A6 true (fun k12=>bin Q BinOp.sub 3 false true i1 (ci 1) (fun A9=>aa Q 30 s2 0 fun C0=>af Q 23 C0 A9 fun C1=>ld Q 4 C1 fun C2=>k12 [i1,A9,C0,C1,C2]) w) (fun k=>k [undef,undef,undef,undef,undef] w) fun us12=>pick A6 (gd us12 4) cF fun C3 w=>au C3 true (fun k19=>bin Q BinOp.sub 3 false true i1 (ci 1) (fun C4=>aa Q 30 s2 1 fun C5=>af Q 23 C5 C4 fun C6=>ld Q 4 C6 fun C7=>un Q UnOp.not C7 fun C8=>k19 [i1,C4,C5,C6,C7,C8]) w) (fun k=>k [undef,undef,undef,undef,undef,undef] w) fun us19=>pick C3 (gd us19 5) cF K) w) :
  Gives Q 88 #[s0,i1] w K:=by
 refine aK Tryz.func88 (by kernel_rfl) ?_
 revert h
 exact fun h=>Eq.mp (by kernel_rfl) h
theorem ui:bD Q 88:=⟨_,Tryz.func88,by kernel_rfl,by kernel_rfl⟩
def cf (K:KV):KE:=ac Q (cd Tryz.f57 [1,1,1]) (rk Tryz.f57 K) xf (rk Tryz.f57 K)
def iy (K:KV):KE:=ac Q (cd Tryz.f57 [1,1,0,1,0]) (cf K) (xx xf (cf K) 0) (rk Tryz.f57 K)
def dT (K:KV) (B1:KE):KE:=ac Q (cd Tryz.f57 [1,1,0,1,0,0,1,1]) B1 (xx xf (cf K) 0) (rk Tryz.f57 K)
def gG (K:KV) (B1:KE):KE:=ac Q (cd Tryz.f57 [1,1,0,1,0,0,1,0]) (dT K B1) (xx xf (cf K) 0) (rk Tryz.f57 K)
theorem uj {K:KV} {s0:Value} {w:World}
  (h:box Q 30 s0 (fun s1=>iy K [s0,s1,cN,cN,ci 1,undef,undef,undef,undef,undef,undef,undef,undef,undef,undef,undef,undef]) w) :
  Gives Q 57 #[s0] w K:=by
 refine aK Tryz.func57 (by kernel_rfl) ?_
 revert h
 delta iy cf
 exact fun h=>Eq.mp (by kernel_rfl) h
theorem uk:bD Q 57:=⟨_,Tryz.func57,by kernel_rfl,by kernel_rfl⟩
theorem rK {K:KV} {s0 s1 A0 out3 i4 A1 A2 A3 A4 A5 A6 A7 A8 A9 C0 C1 C2:Value} {w:World} (Inv:Value→Value→World→Prop) (μ:Value→Value→World→Nat) (h0:Inv out3 i4 w)
  (hs:∀ (out3' i4':Value) (dd:Nat→Value) (w:World) (m:Nat),Inv out3' i4' w→m=μ out3' i4' w →
  bin Q BinOp.leq 3 false true i4' (ci 6) (fun A2 w=>cond A2 (gG K (fun e2 w2=>(Inv (gd e2 3) (gd e2 4) w2)∧((μ (gd e2 3) (gd e2 4) w2)<m)) [s0,s1,A0,out3',i4',i4',A2,dd 7,dd 8,dd 9,dd 10,dd 11,dd 12,dd 13,dd 14,dd 15,C2] w) (cf K [s0,s1,A0,out3',i4',i4',A2,dd 7,dd 8,dd 9,dd 10,dd 11,dd 12,dd 13,dd 14,dd 15,C2] w)) w) :
  iy K [s0,s1,A0,out3,i4,A1,A2,A3,A4,A5,A6,A7,A8,A9,C0,C1,C2] w:=by
 refine aB (cd Tryz.f57 [1,1,0,1,0,0]) [3,4,5,6,7,8,9,10,11,12,13,14,15] (by kernel_rfl) (fun e2 w2=>Inv (gd e2 3) (gd e2 4) w2) (fun e2 w2=>μ (gd e2 3) (gd e2 4) w2) h0 ?_
 intro e' w' hI
 have h:=hs (gd e' 3) (gd e' 4) (fun i=>gd e' i) w' _ hI rfl
 refine Eq.mp (congrArg (fun c=>ac Q c _ _ _ _ w') (by kernel_rfl:(rep [1,0] (cd Tryz.f57 [1,1,0,1,0,0,1,0]) (cd Tryz.f57 [1,1,0,1,0,0]))=(cd Tryz.f57 [1,1,0,1,0,0]))) ?_
 revert h
 delta gG dT
 generalize (cd Tryz.f57 [1,1,0,1,0,0,1,0])=xc0
 generalize (cf K)=qc0
 exact fun h=>Eq.mp (by kernel_rfl) h
theorem rL {K:KV} {B1:KE} {s0 s1 A0 out3 i4 A1 A2 A3 A4 A5 A6 A7 A8 A9 C0 C1 C2:Value} {w:World}
  (h:ld Q 30 s1 (fun A5=>call Q 88 #[A5,i4] fun A7 w=>cond A7 (aJ Q 56 1 #[(0,i4)] (fun C0=>blt Q Builtin.append #[56,56] 56 #[false,false] #[out3,C0] fun C1=>dT K B1 [s0,s1,A0,C1,i4,A1,A2,A3,A4,A5,i4,A7,out3,i4,C0,C1,C2]) w) (dT K B1 [s0,s1,A0,out3,i4,A1,A2,A3,A4,A5,i4,A7,A8,A9,C0,C1,C2] w)) w) :
  gG K B1 [s0,s1,A0,out3,i4,A1,A2,A3,A4,A5,A6,A7,A8,A9,C0,C1,C2] w:=by
 delta gG
 revert h
 generalize (dT K B1)=qc0
 generalize (cf K)=qc1
 exact fun h=>Eq.mp (by kernel_rfl) h
theorem rM {K:KV} {s0 s1 A0 out3 i4 A1 A2 A3 A4 A5 A6 A7 A8 A9 C0 C1 C2:Value} {w:World}
  (h:K out3 w) :
  cf K [s0,s1,A0,out3,i4,A1,A2,A3,A4,A5,A6,A7,A8,A9,C0,C1,C2] w:=by
 delta cf
 revert h
 exact fun h=>Eq.mp (by kernel_rfl) h
theorem kO {K:KV} {B1:KE} {s0 s1 A0 out3 i4 A1 A2 A3 A4 A5 A6 A7 A8 A9 C0 C1 C2:Value} {w:World}
  (h:bin Q BinOp.add 3 false true i4 (ci 1) (fun A4=>B1 [s0,s1,A0,out3,A4,A1,A2,i4,A4,A5,A6,A7,A8,A9,C0,C1,C2]) w) :
  dT K B1 [s0,s1,A0,out3,i4,A1,A2,A3,A4,A5,A6,A7,A8,A9,C0,C1,C2] w:=by
 delta dT
 revert h
 generalize (cf K)=qc0
 exact fun h=>Eq.mp (by kernel_rfl) h
attribute [irreducible] cf iy dT gG
end Go.Proofs.YtgpfkmdknlcemaaGreatDoor
