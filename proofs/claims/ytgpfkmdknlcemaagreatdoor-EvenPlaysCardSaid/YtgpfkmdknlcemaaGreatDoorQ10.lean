/- Laid together: LGz LS Wk LEv AArg Rn1 Rn2 Rn3 Rn4 Rn5. -/
import Derived.Test.YtgpfkmdknlcemaaGreatDoorQ9
import Derived.Test.YtgpfkmdknlcemaaGreatDoorQ5
import Derived.Test.YtgpfkmdknlcemaaGreatDoorQ2
import Derived.Test.YtgpfkmdknlcemaaGreatDoorRows
import Derived.WalkKit
import Derived.ProofKit
import Derived.OpenShut
import Derived.ShutString
import Derived.ChangeOld
import Derived.Below
import Derived.JoinedCond
import Derived.Deep.Matrix
import Derived.Deep.Slices
namespace Go.Proofs.YtgpfkmdknlcemaaGreatDoor
set_option maxRecDepth 100000
open Go.RowKit
attribute [local irreducible] bin un conv call bl blt slc aa fld af idx lkp bL bP eSt rng nxt ent ext alc box bld aJ ld sto aj bm mkS ifc pick rdy wts au sti cond aH Gives ac aW bA cOp
section
variable {w:World} {K:KV}
set_option maxHeartbeats 4000000 in
theorem JQ {Bw g:Nat} {L:List (Nat × LG)} {E:List EV} {C:Nat→Int} {x:AC} (h0:WM w Bw g L E C) (hBw:Bw≤w.heap.size) (hn:E.length≤800) (hok:uE x)
  (h:∀ w' L' E' C' e',WM w' Bw g L' E' C'→L'.length=L.length→E'.length≤E.length+1→Below Bw w w'→K (.agg (evC e').toArray) w'):call Tryz.prog 19 #[.pointer (some ⟨g,0,none⟩),.agg (acC x).toArray] K w:=by
 refine aE pb (pa ?_)
 refine bh fun w1 hx1 b1 s1 => ?_
 have hx1:blk w1 w.heap.size 74 (acC x):=by simpa [Value.cells] using hx1
 refine cH (z:=.agg (evC ⟨0,0,0,0,0,0,0,0,0,0,0,0,0,0⟩).toArray) (by kernel_rfl) fun w2 ht2 b2 s2 => ?_
 have ht2:blk w2 w1.heap.size 54 (evC ⟨0,0,0,0,0,0,0,0,0,0,0,0,0,0⟩):=by simpa [Value.cells] using ht2
 rw [s1] at ht2 ⊢
 have hx2:=(ae b2 hx1 hx1.lt).drew
 have ht2:=ht2.drew
 have bb2:Below w.heap.size w w2.drew:=(b1.trans (b2.mono (by omega))).drew
 have hw2:=h0.fresh bb2
 obtain ⟨la,lc,ea,ec,hwb,hrow,hev⟩:=hw2.row
 obtain ⟨la',lc',ea',ec',g1,g2,g3⟩:=h0.row
 have hp:=h0.pos
 obtain ⟨i,hi⟩:∃ i:Nat,i=(x.who % (L.length:Nat)).toNat:=⟨_,rfl⟩
 have hm0:0≤x.who % ((L.length:Nat):Int):=Int.emod_nonneg _ (by omega)
 have hm1:x.who % ((L.length:Nat):Int) < (L.length:Nat):=Int.emod_lt_of_pos _ (by omega)
 have hii:i < L.length:=by omega
 refine a8 (fun _=>zl) <|a8 (v:=kv8 x.who) (fun _=>ld1 (fun _=>by kernel_rfl) hx2 rfl) <|a8 (v:=.int .i64 x.who) (fun K hK=>dy Tryz.underlying5 Tryz.underlying3 (by rw [f5 (by have:=hok.1; omega) (by have:=hok.1; omega)]; exact hK)) <|a8 (fun _=>ak) <|a8 (fun _=>fN) <|a8 (v:=.slice la L.length lc) (fun _=>ld1 (fun _=>by kernel_rfl) hwb rfl) <|a8 (fun _=>aI Tryz.underlying44) <|a8 (v:=.int .i64 ((i:Nat):Int)) (fun K hK=>ma hok.1.1 (by omega) (by rw [show x.who % ((L.length:Nat):Int)=(i:Nat) by omega]; exact hK)) <|EM <|ld1 (v:=.bool x.meet) (fun _=>by kernel_rfl) hx2 rfl ?_
 refine kw (fun hd => ?_) (fun hd => ?_)
 ·obtain ⟨j,hj⟩:∃ j:Nat,j=(x.other % (L.length:Nat)).toNat:=⟨_,rfl⟩
  have hj0:0≤x.other % ((L.length:Nat):Int):=Int.emod_nonneg _ (by omega)
  have hj1:x.other % ((L.length:Nat):Int) < (L.length:Nat):=Int.emod_lt_of_pos _ (by omega)
  have hjj:j < L.length:=by omega
  have hil:L[i]? = some L[i]:=List.getElem?_eq_getElem hii
  generalize L[i]=pl at hil
  have hjl:L[j]? = some L[j]:=List.getElem?_eq_getElem hjj
  generalize L[j]=ql at hjl
  have hwb:=hwb.drew
  have hx3:=hx2.drew
  have hw3:=hw2.fresh (Below.refl _ w2.drew).drew
  have hrow:w2.drew.drew.ownsRow Bw 80 1 (.slice la L.length lc) L.length (L.flatMap ptC):=hrow
  have hev:w2.drew.drew.ownsRow Bw 54 14 (.slice ea E.length ec) E.length (E.flatMap evC):=hev
  have bb3:=bb2.drew
  have hledi:=hw3.led pl (List.mem_of_getElem? hil)
  have hledj:=hw3.led ql (List.mem_of_getElem? hjl)
  obtain ⟨Bj,hlmj⟩:=hledj.lm
  obtain ⟨gl,cur,rfl,op⟩:=aZ hrow (by omega)
  have ci:cur[i * 1]? = some (.pointer (some ⟨pl.1,0,none⟩)):=by
   have:=op.cell kQ rfl hil (show 0 < 1 by omega)
   simpa [ptC] using this
  have cj:cur[j * 1]? = some (.pointer (some ⟨ql.1,0,none⟩)):=by
   have:=op.cell kQ rfl hjl (show 0 < 1 by omega)
   simpa [ptC] using this
  refine aC (fun y=>blk y g 47 [.slice (some ⟨gl,0,none⟩) L.length lc,.slice ea E.length ec]∧blk y gl 80 cur∧blk y w.heap.size 74 (acC x)∧blk y ql.1 79 (lgC ql.2)) ⟨hwb,op.blk,hx3,hlmj.cl⟩ <|ab (fun y hy _=>ak) <|ab (fun y hy _=>fN) <|ab (v:=.slice (some ⟨gl,0,none⟩) L.length lc) (fun y hy _=>ld1 (fun _=>by kernel_rfl) hy.1 rfl) <|ab (fun y hy _=>ak) <|ab (fun y hy _=>fN) <|ab (v:=.slice (some ⟨gl,0,none⟩) L.length lc) (fun y hy _=>ld1 (fun _=>by kernel_rfl) hy.1 rfl) <|ab (v:=.pointer (some ⟨gl,i * 1,none⟩)) (fun y hy _=>gQ (s:=1) rfl Tryz.underlying44 (fun _=>by kernel_rfl) hii) <|ab (v:=.pointer (some ⟨pl.1,0,none⟩)) (fun y hy _=>ld1 (fun _=>by kernel_rfl) hy.2.1 ci) <|ab (fun y hy _=>ak) ?_
  refine ab (fun y hy _=>uD) <|ab (v:=.slice ea E.length ec) (fun y hy _=>ld1 (fun _=>by kernel_rfl) hy.1 rfl) <|ab (fun y hy _=>ak) <|ab (fun y hy _=>fN) <|ab (v:=.slice (some ⟨gl,0,none⟩) L.length lc) (fun y hy _=>ld1 (fun _=>by kernel_rfl) hy.1 rfl) <|ab (fun y hy _=>EN) <|ab (v:=kv8 x.other) (fun y hy _=>ld1 (fun _=>by kernel_rfl) hy.2.2.1 rfl) <|ab (v:=.int .i64 x.other) (fun y hy K hK=>dy Tryz.underlying5 Tryz.underlying3 (by rw [f5 (by have:=hok.2.1; omega) (by have:=hok.2.1; omega)]; exact hK)) <|ab (fun y hy _=>ak) <|ab (fun y hy _=>fN) ?_
  refine ab (v:=.slice (some ⟨gl,0,none⟩) L.length lc) (fun y hy _=>ld1 (fun _=>by kernel_rfl) hy.1 rfl) <|ab (fun y hy _=>aI Tryz.underlying44) <|ab (v:=.int .i64 ((j:Nat):Int)) (fun y hy K hK=>ma hok.2.1.1 (by omega) (by rw [show x.other % ((L.length:Nat):Int)=(j:Nat) by omega]; exact hK)) <|ab (v:=.pointer (some ⟨gl,j * 1,none⟩)) (fun y hy _=>gQ (s:=1) rfl Tryz.underlying44 (fun _=>by kernel_rfl) hjj) <|ab (v:=.pointer (some ⟨ql.1,0,none⟩)) (fun y hy _=>ld1 (fun _=>by kernel_rfl) hy.2.1 cj) <|ab (fun y hy _=>ak) <|ab (fun y hy _=>aA) <|ab (fun y hy _=>iK) <|ab (v:=.agg (ql.2.s.V.map u6).toArray) (fun y hy _=>ldA (n:=6) (vs:=ql.2.s.V.map u6) Tryz.underlying26 rfl (by kernel_rfl) hy.2.2.2 hlmj.cutV (by simp [hlmj.v6])) <|Hc hledi (by rw [h0.sum]; omega) h0.ev rfl (by omega) hlmj.v6 hev fun w4 p4 l4 hl4 b4 => ?_
  have bb4:Below w.heap.size w w4:=bb3.trans (b4.mono bb3.size)
  have hw4:=h0.fresh bb4
  refine bn ⟨ae b4 hwb hwb.lt,ae b4 op.blk op.blk.lt,ae b4 hx3 hx3.lt,ae b4 hlmj.cl hlmj.cl.lt⟩ <|ab (v:=.pointer (some ⟨gl,i * 1,none⟩)) (fun y hy _=>gQ (s:=1) rfl Tryz.underlying44 (fun _=>by kernel_rfl) hii) ?_
  have op4:Opn w4 Bw 80 1 L.length lc gl cur (L.flatMap ptC):=⟨ae b4 op.blk op.blk.lt,op.lo,op.nc,op.cm,op.len,op.take,op.xl⟩
  have ht4:=ae b4 ht2.drew ht2.drew.lt
  refine Gw (ae b4 hwb hwb.lt) op4 (bj hev fun k hk=>b4.block k (World.ownsRow.lt hev k hk).2) hw4.led hl4 hii rfl fun w5 s1' s2' s3' s4' k5 o5 => ?_
  have hlen:(L.set i (p4,l4)).length=L.length:=List.length_set ..
  have htn:w.heap.size+1≠gl:=fun hh=>absurd (zU ht4 (hh ▸ op4.blk)) (by decide)
  have ht5:=o5.blk ht4 htn
  have hw5:WM w5 Bw g (L.set i (p4,l4)) E C:=⟨⟨_,_,_,_,s1',s2',s3'⟩,h0.lo,s4',by rw [hlen]; exact hp,h0.ev,h0.sum,h0.c0⟩
  have B5:Below Bw w w5:=(bb4.mono hBw).trans (k5.below (Nat.le_trans hBw bb4.size))
  refine eE (vs:=evC ⟨0,0,0,0,0,0,0,0,0,0,0,0,0,0⟩) (by kernel_rfl) <|Cs ht5 rfl fun w6 o6 => ?_
  refine h w6 _ E C _ (hw5.oth ht5 (by omega) (fun ea2 ec2 la2 lc2 hb hh => ?_) o6) hlen (by omega) (bN B5 o6 (by omega))
  unfold Go.Proofs.YtgpfkmdknlcemaaGreatDoor.blk at hb s1'
  rw [s1'] at hb
  simp only [Option.some.injEq,Obj.cells.injEq,Array.mk.injEq,List.cons.injEq,Value.slice.injEq] at hb
  obtain ⟨⟨_,⟨rfl,_,rfl⟩,_⟩,_⟩:=hb
  have e1:=ae bb3 g1 g1.lt
  unfold Go.Proofs.YtgpfkmdknlcemaaGreatDoor.blk at e1 hwb
  rw [e1] at hwb
  simp only [Option.some.injEq,Obj.cells.injEq,Array.mk.injEq,List.cons.injEq,Value.slice.injEq] at hwb
  obtain ⟨⟨_,⟨rfl,_,rfl⟩,_⟩,_⟩:=hwb
  have:=(World.ownsRow.lt g3 _ hh).2
  omega
 ·refine ldA (n:=9) (vs:=acC x) Tryz.underlying74 rfl (by kernel_rfl) hx2 rfl rfl <|Hd hw2 (by omega) hok fun w3 e he b3 => ?_
  have bb3:Below w.heap.size w w3:=bb2.trans (b3.mono bb2.size)
  refine cH (z:=.agg (evC ⟨0,0,0,0,0,0,0,0,0,0,0,0,0,0⟩).toArray) (by kernel_rfl) fun w4 h4 b4 s4 => ?_
  have h4:blk w4 w3.heap.size 54 (evC ⟨0,0,0,0,0,0,0,0,0,0,0,0,0,0⟩):=by simpa [Value.cells] using h4
  refine eM (n:=14) (vs:=evC e) (by kernel_rfl) rfl h4 (by show 0+14≤14; omega) (ln _) fun w5 h5 o5 => ?_
  have h5:blk w5 w3.heap.size 54 (evC e):=h5
  have ht3:=ae b3 ht2 ht2.lt
  have ht4:=ae b4 ht3 ht3.lt
  have hlt:=ht3.lt
  have ht5:=o5.blk ht4 (by omega)
  have bb5:Below w.heap.size w w5:=bb3.trans (bN (b4.mono bb3.size) o5 bb3.size)
  exact Jt h0 bb5 hBw (by omega) bb3.size (by omega) hn hii (by rw [he]; omega) h5 ht5 rfl rfl rfl rfl rfl h
end
end Go.Proofs.YtgpfkmdknlcemaaGreatDoor
namespace Go.Proofs.YtgpfkmdknlcemaaGreatDoor
set_option maxRecDepth 100000
open Go.RowKit
structure AR (w:World) (a:Option Addr) (n c:Nat) (X:List AC):Prop where
 len:X.length=n
 some_:0 < n→∃ b o,a=some ⟨b,o,none⟩
 cell:∀ (i:Nat) (x:AC),X[i]? = some x→∀ b o,a=some ⟨b,o,none⟩→∀ (j:Nat) (u:Value),(acC x)[j]? = some u→w.cell? ⟨b,o+i * 9+j,none⟩=some u
 ok:∀ x ∈ X,uE x
theorem AR.bel {w w':World} {B:Nat} {a:Option Addr} {n c:Nat} {X:List AC} (h:AR w a n c X) (hb:Below B w w') (hB:w.heap.size≤B):AR w' a n c X :=
 ⟨h.len,h.some_,fun i x hx b o ha j u hu=>by
  have:=h.cell i x hx b o ha j u hu
  have hlt:=World.block_lt_of_cell? w _ this
  rw [hb.cell (p:=⟨b,o+i * 9+j,none⟩) (Nat.lt_of_lt_of_le hlt hB)]; exact this,h.ok⟩
attribute [local irreducible] bin un conv call bl blt slc aa fld af idx lkp bL bP eSt rng nxt ent ext alc box bld aJ ld sto aj bm mkS ifc pick rdy wts au sti cond aH Gives ac aW bA cOp
section
variable {w:World} {K:KV}
theorem JR {a:Option Addr} {n c i b o:Nat} {X:List AC} {x:AC} (h:AR w a n c X) (ha:a=some ⟨b,o,none⟩) (hx:X[i]? = some x) (hK:K (.agg (acC x).toArray) w):ld Tryz.prog 74 (.pointer (some ⟨b,o+i * 9,none⟩)) K w :=
 pW (run_loadVar_mid w b (o+i * 9) 74 (acC x) _ (fun j u hu=>h.cell i x hx b o ha j u hu) Tryz.underlying74 rfl (by kernel_rfl)) hK
set_option maxHeartbeats 2000000 in
theorem GN {n0 pk:Int} {a:Option Addr} {n c:Nat} {X:List AC} (hn0:0≤n0∧n0≤255) (hpk:0≤pk∧pk≤255) (hX:AR w a n c X) (hn:n≤60)
  (h:∀ w' (g:Nat) s,SK w' s→Below w.heap.size w w'→K (.tuple #[.pointer (some ⟨g,0,none⟩),.agg (saC s).toArray]) w'):call Tryz.prog 7 #[kv8 n0,.slice a n c,kv8 pk] K w:=by
 refine aE sC (sA ?_)
 refine cH (z:=.agg (saC ⟨List.replicate 6 false,List.replicate 6 false,List.replicate 6 0,[],none,0,.slice none 0 0⟩).toArray) (by kernel_rfl) fun w1 h1 b1 s1 => ?_
 have h1:blk w1 w.heap.size 30 (saC ⟨List.replicate 6 false,List.replicate 6 false,List.replicate 6 0,[],none,0,.slice none 0 0⟩):=by simpa [Value.cells] using h1
 generalize hzs:saC ⟨List.replicate 6 false,List.replicate 6 false,List.replicate 6 0,[],none,0,.slice none 0 0⟩=zs at h1
 have hzl:zs.length=20:=by rw [← hzs]; rfl
 refine dy Tryz.underlying5 Tryz.underlying3 ?_
 rw [f5 (by omega) (by omega)]
 refine ma hn0.1 (by omega) ?_
 have hm:0≤n0 % 6∧n0 % 6 < 6:=⟨Int.emod_nonneg _ (by omega),Int.emod_lt_of_pos _ (by omega)⟩
 obtain ⟨m,hmm⟩:∃ m:Nat,1+n0 % 6=(m:Nat):=⟨(1+n0 % 6).toNat,by omega⟩
 refine aF (by omega) (by omega) ?_
 rw [hmm]
 refine Cr (n:=m) (by omega) (by omega) fun w2 g L hw hL b2 => ?_
 have bel2:Below w.heap.size w w2:=b1.trans (b2.mono b1.size)
 have h2:=ae b2 h1 h1.lt
 refine qt (Inv:=fun i wr => ∃ (k:Nat) (L:List (Nat × LG)) (E:List EV) (C:Nat→Int),i=.int .i64 (k:Nat)∧k≤n∧WM wr w1.heap.size g L E C∧E.length≤k∧blk wr w.heap.size 30 zs∧Below w.heap.size w wr∧w1.heap.size≤wr.heap.size) (μ:=fun i _=>n - (intOf i).toNat) ⟨0,L,[],_,rfl,by omega,hw,Nat.le_refl _,h2,bel2,b2.size⟩ ?_
 rintro _ dd w3 mu ⟨k,L3,E3,C3,rfl,hk,hw3,hE3,h3,bel3,sz3⟩ hmu
 refine aI Tryz.underlying22 ?_
 refine aD ?_
 by_cases hkn:k < n
 ·refine ai (by omega) ?_
  have hXl:k < X.length:=by rw [hX.len]; exact hkn
  have hx:X[k]? = some X[k]:=List.getElem?_eq_getElem hXl
  generalize X[k]=x at hx
  obtain ⟨b,o,ha⟩:=hX.some_ (by omega)
  subst ha
  refine bJ Tryz.underlying22 (s:=9) (fun _=>by kernel_rfl) (by omega) (by omega) ?_
  rw [Int.toNat_natCast]
  refine JR (hX.bel bel3 (Nat.le_refl _)) rfl hx ?_
  refine JQ hw3 sz3 (by omega) (hX.ok x (List.mem_of_getElem? hx)) fun w4 L4 E4 C4 e4 hw4 _ hE4 b4 => ?_
  refine aF (by omega) (by omega) ?_
  refine ⟨⟨k+1,L4,E4,C4,congrArg (Value.int .i64) (by push_cast; rfl),by omega,hw4,by omega,ae b4 h3 (by omega),bel3.trans (b4.mono (by omega)),Nat.le_trans sz3 b4.size⟩, ?_⟩
  rw [hmu]; show n - ((k:Int)+1).toNat < n - (k:Int).toNat; omega
 ·refine ag (by omega) ?_
  refine qu ?_
  have hw5:=hw3.fresh (Below.refl _ w3).drew
  have h5:=h3.drew
  have hp:=hw3.pos
  obtain ⟨la,lc,ea,ec,hwb,hrow,_⟩:=hw5.row
  obtain ⟨i,hi⟩:∃ i:Nat,i=(pk % (L3.length:Nat)).toNat:=⟨_,rfl⟩
  have hm0:0≤pk % ((L3.length:Nat):Int):=Int.emod_nonneg _ (by omega)
  have hm1:pk % ((L3.length:Nat):Int) < (L3.length:Nat):=Int.emod_lt_of_pos _ (by omega)
  have hii:i < L3.length:=by omega
  have hil:L3[i]? = some L3[i]:=List.getElem?_eq_getElem hii
  generalize L3[i]=pl at hil
  have hled:=hw5.led pl (List.mem_of_getElem? hil)
  obtain ⟨B,hlm⟩:=hled.lm
  obtain ⟨gl,cur,ha,op⟩:=aZ hrow (by omega)
  have c0:cur[i * 1]? = some (.pointer (some ⟨pl.1,0,none⟩)):=by
   have:=op.cell kQ rfl hil (show 0 < 1 by omega)
   simpa [ptC] using this
  refine a8 (fun _=>ak) ?_
  refine a8 (fun _=>fN) ?_
  refine a8 (v:=.slice la L3.length lc) (fun _=>ld1 (fun _=>by kernel_rfl) hwb rfl) ?_
  refine a8 (v:=.int .i64 pk) (fun K hK=>dy Tryz.underlying5 Tryz.underlying3 (by rw [f5 (by omega) (by omega)]; exact hK)) ?_
  refine a8 (fun _=>ak) ?_
  refine a8 (fun _=>fN) ?_
  refine a8 (v:=.slice la L3.length lc) (fun _=>ld1 (fun _=>by kernel_rfl) hwb rfl) ?_
  refine a8 (fun _=>aI Tryz.underlying44) ?_
  refine a8 (v:=.int .i64 ((i:Nat):Int)) (fun K hK=>ma hpk.1 (by omega) (by rw [show pk % ((L3.length:Nat):Int)=(i:Nat) by omega]; exact hK)) ?_
  refine a8 (v:=.pointer (some ⟨gl,i * 1,none⟩)) (fun _=>gQ (s:=1) ha Tryz.underlying44 (fun _=>by kernel_rfl) hii) ?_
  refine a8 (v:=.pointer (some ⟨pl.1,0,none⟩)) (fun _=>ld1 (fun _=>by kernel_rfl) op.blk c0) ?_
  refine a8 (fun _=>ak) ?_
  refine a8 (fun _=>aA) ?_
  refine a8 (v:=.agg (saC pl.2.s).toArray) (fun _=>ldA (n:=20) (vs:=saC pl.2.s) Tryz.underlying30 rfl (by kernel_rfl) hlm.cl hlm.cutS hlm.sl) ?_
  have kS:∀ w6,Oth w.heap.size w3.drew w6→LM w6 B pl.1 pl.2:=fun w6 o6 =>
   have kk:Keep [30] 0 w3.drew w6:=o6.keep h5 (by simp) (Nat.zero_le _)
   { hlm with
    cl:=kk.blk hlm.cl (.inr (by decide))
    nd:=bO hlm.nd kk (by decide)
    gr:=bO hlm.gr kk (by decide)
    tm:=hlm.tm.keep kk (by decide) (by decide)
    rq:=fun k hk' => (hlm.rq k hk').imp fun a=>Exists.imp fun c hh=>⟨hh.1,bO hh.2 kk (by decide)⟩ }
  have hone:∀ v ∈ saC pl.2.s,v.oneCell'=true:=by
   intro v hv
   unfold saC at hv
   rw [hlm.gv] at hv
   simp only [List.mem_append,List.mem_map,List.mem_cons,List.not_mem_nil,or_false] at hv
   rcases hv with ((⟨_,_,rfl⟩ | ⟨_,_,rfl⟩) | ⟨_,_,rfl⟩) | (rfl | rfl) <;> rfl
  refine eM (n:=20) (vs:=saC pl.2.s) (by kernel_rfl) hlm.sl h5 (by omega) hone fun w6 h6 o6 => ?_
  have h6:blk w6 w.heap.size 30 (saC pl.2.s):=by
   rw [List.take_zero,List.nil_append,List.drop_of_length_le (by omega),List.append_nil] at h6
   exact h6
  have hr:=run_loadVar_mid (P:=Tryz.prog) w6 w.heap.size 0 30 (saC pl.2.s) _ (fun j v hj=>by rw [h6.cell,Nat.zero_add]; exact hj) Tryz.underlying30 rfl (by rw [hlm.sl]; kernel_rfl)
  have e:(dD [(none,.pointer (some ⟨g,0,none⟩)),(some 30,.pointer (some ⟨w.heap.size,0,none⟩))]).run Tryz.prog w6=.ok (.tuple #[.pointer (some ⟨g,0,none⟩),.agg (saC pl.2.s).toArray]) w6:=by
   simp [dD,asAddr,Sem.run_bind,hr]
  unfold aH
  rw [e]
  have hnn:=hled.gi.nn
  have hss:=hled.sum (by rw [hw3.sum]; omega)
  exact ⟨rfl,h w6 g pl.2.s ((kS w6 o6).sk (by omega)) (bN bel3.drew o6 (Nat.le_refl _))⟩
end
end Go.Proofs.YtgpfkmdknlcemaaGreatDoor
namespace Go.Proofs.YtgpfkmdknlcemaaGreatDoor
set_option maxRecDepth 100000
open Go.RowKit
def WkOK (P:Program) (f:FuncId) (W:World):Prop := ∀ (w:World) (K:KV),Below W.heap.size W w→(∀ w',Below w.heap.size w w'→K (.bool true) w')→call P f #[] K w
theorem WkOK.use {P:Program} {f:FuncId} {W w:World} {K:KV} (hk:WkOK P f W) (hb:Below W.heap.size W w) (h:∀ w',Below W.heap.size W w'→K (.bool true) w'):call P f #[] K w :=
 hk w K hb fun w' b=>h w' (hb.trans (b.mono hb.size))
theorem RV.pre {w:World} {a:Option Addr} {n c m:Nat} {xs:List Value} (h:RV w a n c xs) (hm:m≤n):RV w a m c (xs.take m) :=
 ⟨by rw [List.length_take,h.len]; omega,Nat.le_trans hm h.cap,fun h0=>h.some_ (by omega),fun ha=>by have:=h.nil_ ha; omega,fun i v hv=>by
  rw [List.getElem?_take] at hv
  split at hv
  ·exact h.cell i v hv
  ·cases hv⟩
end Go.Proofs.YtgpfkmdknlcemaaGreatDoor
namespace Go.Proofs.YtgpfkmdknlcemaaGreatDoor
set_option maxRecDepth 100000
open Go.RowKit
attribute [local irreducible] bin un conv call bl blt slc aa fld af idx lkp bL bP eSt rng nxt ent ext alc box bld aJ ld sto aj bm mkS ifc pick rdy wts au sti cond aH Gives ac aW bA cOp
section
variable {w:World} {K:KV}
theorem Dk {n0 acts1 pick2 raw3 node4 i5 n6 acts7 pick8 raw9 node10 i11 t12 k_13 j14 t15 s16 own17 t18 t19 t20 t21 t22 t23 t24 t25 t26 t27 t28 t29 t30 t31 t32 t33 t34 t35 t36 t37 t38 t39 t40 t41 t42 t43 t44 t45 t46 t47 t48 t49 t50 t51 t52 t53 t54 t55 t56 t57 t58 t59 t60 t61 t62 t63 t64 t65 t66 t67 t68 t69 t70 t71 t72 t73 t74 t75 t76 t77 t78 t79 t80 t81 t82 t83 t84 t85 t86 t87 t88 t89 t90 t91 t92 t93 t94 t95 t96 t97 t98:Value} {w0:World} {bs br:Nat} {s s2:STA} {own node i pk:Int} (wk:WkOK Tryz.prog 6 w0) (hpk:0≤pk∧pk≤255) (b0:Below w0.heap.size w0 w)
  (hs:SK w s) (hs2:SK w s2) (hbr:blk w br 30 (saC s)) (hbs:blk w bs 30 (saC s2))
  (q2:pick2=kv8 pk) (q4:node4=.int .u64 node) (q5:i5=.int .i64 i) (q9:raw9=.pointer (some ⟨br,0,none⟩)) (q16:s16=.pointer (some ⟨bs,0,none⟩)) (q17:own17=.int .u64 own)
  (h:∀ w',Below w0.heap.size w0 w'→K (.bool true) w'):cv K ((n0::acts1::pick2::raw3::node4::i5::n6::acts7::pick8::raw9::node10::i11::t12::k_13::j14::t15::s16::own17::t18::t19::t20::t21::t22::t23::t24::t25::t26::t27::t28::t29::t30::t31::t32::t33::t34::t35::t36::t37::t38::t39::t40::t41::t42::t43::t44::t45::t46::t47::t48::t49::t50::t51::t52::t53::t54::t55::t56::t57::t58::t59::t60::t61::t62::t63::t64::t65::t66::t67::t68::t69::t70::t71::t72::t73::t74::t75::t76::t77::t78::t79::t80::t81::t82::t83::t84::t85::t86::t87::t88::t89::t90::t91::t92::t93::t94::t95::t96::t97::t98::[])) w:=by
 subst q2 q4 q5 q9 q16 q17
 have hz0:=b0.size
 have hm:0≤pk % 6∧pk % 6 < 6:=⟨Int.emod_nonneg _ (by omega),Int.emod_lt_of_pos _ (by omega)⟩
 have cutS:((saC s).drop 0).take 20=saC s:=by rw [List.drop_zero,List.take_of_length_le (by rw [hs.len]; omega)]
 have cutS2:((saC s2).drop 0).take 20=saC s2:=by rw [List.drop_zero,List.take_of_length_le (by rw [hs2.len]; omega)]
 refine nX ?_
 refine ldA (n:=20) (vs:=saC s2) Tryz.underlying30 rfl (by kernel_rfl) hbs cutS2 hs2.len ?_
 refine dy Tryz.underlying5 Tryz.underlying3 ?_
 rw [f5 (by omega) (by omega)]
 refine ma hpk.1 (by omega) ?_
 refine aF (by omega) (by omega) ?_
 refine ve hs2 fun w1 c1 => ?_
 have z1:=c1.size
 have hs_1:=hs.bel c1 (Nat.le_refl _)
 have hs2_1:=hs2.bel c1 (Nat.le_refl _)
 have hbr1:=ae c1 hbr hbr.lt
 have hbs1:=ae c1 hbs hbs.lt
 refine jo ?_
 refine ldA (n:=20) (vs:=saC s2) Tryz.underlying30 rfl (by kernel_rfl) hbs1 cutS2 hs2.len ?_
 refine ve hs2_1 fun w2 c2 => ?_
 have z2:=c2.size
 refine bI ?_
 refine jo ?_
 have hs_2:=hs_1.bel c2 (Nat.le_refl _)
 have hbr2:=ae c2 hbr1 hbr1.lt
 refine ldA (n:=20) (vs:=saC s) Tryz.underlying30 rfl (by kernel_rfl) hbr2 cutS hs.len ?_
 refine ve hs_2 fun w3 c3 => ?_
 refine bI ?_
 refine jo ?_
 have b3:Below w0.heap.size w0 w3:=((b0.trans (c1.mono hz0)).trans (c2.mono (by omega))).trans (c3.mono (by omega))
 refine wk.use b3 fun w4 c4 => ?_
 refine bI ?_
 exact h w4 c4
theorem NR.ld_id {a:Option Addr} {n c i b o:Nat} {L:List ND} {x:ND} (h:NR w a n c L) (ha:a=some ⟨b,o,none⟩) (hx:L[i]? = some x) (hK:K (.int .u64 x.id) w) :
  ld Tryz.prog 24 (.pointer (some ⟨b,o+i * 56,none⟩)) K w :=
 dp (fun _=>by kernel_rfl) (by have:=h.cell i x hx b o ha 0 (.int .u64 x.id) rfl; exact this) hK
set_option maxHeartbeats 4000000 in
theorem Ib {n0 acts1 pick2 raw3 node4 i5 n6 acts7 pick8 raw9 node10 i11 t12 k_13 j14 t15 s16 own17 t18 t19 t20 t21 t22 t23 t24 t25 t26 t27 t28 t29 t30 t31 t32 t33 t34 t35 t36 t37 t38 t39 t40 t41 t42 t43 t44 t45 t46 t47 t48 t49 t50 t51 t52 t53 t54 t55 t56 t57 t58 t59 t60 t61 t62 t63 t64 t65 t66 t67 t68 t69 t70 t71 t72 t73 t74 t75 t76 t77 t78 t79 t80 t81 t82 t83 t84 t85 t86 t87 t88 t89 t90 t91 t92 t93 t94 t95 t96 t97 t98:Value} {w0:World} {br:Nat} {s:STA} {node i pk n:Int} {a:Option Addr} {m c:Nat} {X:List AC} (wk:WkOK Tryz.prog 6 w0) (hn:0≤n∧n≤255) (hpk:0≤pk∧pk≤255) (b0:Below w0.heap.size w0 w)
  (hs:SK w s) (hX:AR w a m c X) (hm:m≤60) (hbr:blk w br 30 (saC s))
  (q0:n0=kv8 n) (q1:acts1=.slice a m c) (q2:pick2=kv8 pk) (q4:node4=.int .u64 node) (q5:i5=.int .i64 i) (q9:raw9=.pointer (some ⟨br,0,none⟩))
  (h:∀ w',Below w0.heap.size w0 w'→K (.bool true) w'):bf K ((n0::acts1::pick2::raw3::node4::i5::n6::acts7::pick8::raw9::node10::i11::t12::k_13::j14::t15::s16::own17::t18::t19::t20::t21::t22::t23::t24::t25::t26::t27::t28::t29::t30::t31::t32::t33::t34::t35::t36::t37::t38::t39::t40::t41::t42::t43::t44::t45::t46::t47::t48::t49::t50::t51::t52::t53::t54::t55::t56::t57::t58::t59::t60::t61::t62::t63::t64::t65::t66::t67::t68::t69::t70::t71::t72::t73::t74::t75::t76::t77::t78::t79::t80::t81::t82::t83::t84::t85::t86::t87::t88::t89::t90::t91::t92::t93::t94::t95::t96::t97::t98::[])) w:=by
 subst q0 q1
 have hz0:=b0.size
 refine nU ?_
 rw [q2]
 refine GN hn hpk hX hm fun w1 g s2 hs2 c1 => ?_
 have z1:=c1.size
 refine fy <|fz <|cH (z:=.agg (saC ⟨List.replicate 6 false,List.replicate 6 false,List.replicate 6 0,[],none,0,.slice none 0 0⟩).toArray) (by kernel_rfl) fun w2 h2 c2 s2' => ?_
 have h2:blk w2 w1.heap.size 30 (saC ⟨List.replicate 6 false,List.replicate 6 false,List.replicate 6 0,[],none,0,.slice none 0 0⟩):=by simpa [Value.cells] using h2
 generalize hzs:saC ⟨List.replicate 6 false,List.replicate 6 false,List.replicate 6 0,[],none,0,.slice none 0 0⟩=zs at h2
 have hzl:zs.length=20:=by rw [← hzs]; rfl
 have hone:∀ v ∈ saC s2,v.oneCell'=true:=by
  intro v hv
  unfold saC at hv
  simp only [List.mem_append,List.mem_map,List.mem_cons,List.not_mem_nil,or_false] at hv
  rcases hv with ((⟨_,_,rfl⟩ | ⟨_,_,rfl⟩) | ⟨_,_,rfl⟩) | (rfl | rfl) <;> first | rfl | exact hs2.gv
 refine eM (n:=20) (vs:=saC s2) (by kernel_rfl) hs2.len h2 (by omega) hone fun w3 h3 o3 => ?_
 have h3:blk w3 w1.heap.size 30 (saC s2):=by
  rw [List.take_zero,List.nil_append,List.drop_of_length_le (by omega),List.append_nil] at h3
  exact h3
 have c3:Below w1.heap.size w1 w3:=bN c2 o3 (Nat.le_refl _)
 have c03:Below w.heap.size w w3:=c1.trans (c3.mono (by omega))
 have hs2:SK w3 s2:=hs2.bel c3 (Nat.le_refl _)
 have hs3:SK w3 s:=hs.bel c03 (Nat.le_refl _)
 have hbr3:=ae c03 hbr hbr.lt
 have b03:Below w0.heap.size w0 w3:=b0.trans (c03.mono hz0)
 refine aU <|ld1 (v:=.slice s2.na s2.nodes.length s2.nc) (fun _=>by kernel_rfl) h3 (jZ hs2) <|aI Tryz.underlying27 <|cD <|nW ?_
 by_cases hl:0 < s2.nodes.length
 ·refine ai (by omega) ?_
  have hfew:=hs2.few
  have h3d:=h3.drew
  have b03d:Below w0.heap.size w0 w3.drew:=b03.drew
  have hs2d:SK w3.drew s2:=hs2.bel (Below.refl _ w3).drew (Nat.le_refl _)
  have hs3d:SK w3.drew s:=hs3.bel (Below.refl _ w3).drew (Nat.le_refl _)
  have hbrd:=hbr3.drew
  obtain ⟨j,hj⟩:∃ j:Nat,j=(pk % (s2.nodes.length:Nat)).toNat:=⟨_,rfl⟩
  have hm0:0≤pk % ((s2.nodes.length:Nat):Int):=Int.emod_nonneg _ (by omega)
  have hm1:pk % ((s2.nodes.length:Nat):Int) < (s2.nodes.length:Nat):=Int.emod_lt_of_pos _ (by omega)
  have hjj:j < s2.nodes.length:=by omega
  have hx:s2.nodes[j]? = some s2.nodes[j]:=List.getElem?_eq_getElem hjj
  generalize s2.nodes[j]=x at hx
  obtain ⟨b,o,ha⟩:=hs2d.nr.some_ (by omega)
  refine a8 (fun _=>aU) <|a8 (v:=.slice s2.na s2.nodes.length s2.nc) (fun _=>ld1 (fun _=>by kernel_rfl) h3d (jZ hs2d)) <|a8 (v:=.int .i64 pk) (fun K hK=>dy Tryz.underlying5 Tryz.underlying3 (by rw [f5 (by omega) (by omega)]; exact hK)) <|a8 (fun _=>aU) <|a8 (v:=.slice s2.na s2.nodes.length s2.nc) (fun _=>ld1 (fun _=>by kernel_rfl) h3d (jZ hs2d)) <|a8 (fun _=>aI Tryz.underlying27) <|a8 (v:=.int .i64 ((j:Nat):Int)) (fun K hK=>ma hpk.1 (by omega) (by rw [show pk % ((s2.nodes.length:Nat):Int)=(j:Nat) by omega]; exact hK)) <|a8 (v:=.pointer (some ⟨b,o+j * 56,none⟩)) (fun K hK=>by rw [ha]; exact bJ Tryz.underlying27 (s:=56) (fun _=>by kernel_rfl) (by omega) (by omega) (by rw [Int.toNat_natCast]; exact hK)) <|a8 (fun _=>gC) <|a8 (v:=.int .u64 x.id) (fun _=>hs2d.nr.ld_id ha hx) ?_
  exact Dk wk hpk b03d hs3d hs2d hbrd h3d rfl q4 q5 q9 rfl rfl h
 ·refine ag (by omega) ?_
  rw [q4]
  exact Dk wk hpk b03 hs3 hs2 hbr3 h3 rfl rfl q5 q9 rfl rfl h
set_option maxHeartbeats 4000000 in
theorem wT {w0:World} (wk:WkOK Tryz.prog 6 w0) {n pk node i:Int} {a:Option Addr} {m c:Nat} {X:List AC} {s:STA} (hn:0≤n∧n≤255) (hX:AR w0 a m c X) (hc:m≤c) (hcm:c≤9223372036854775807) (hpk:0≤pk∧pk≤255)
  (hs:s.nodes.length≤1000000→SK w0 s) (h18:(saC s)[18]? = some (.slice s.na s.nodes.length s.nc))
  (h:∀ w',Below w0.heap.size w0 w'→K (.bool true) w'):call Tryz.prog 3 #[kv8 n,.slice a m c,kv8 pk,.agg (saC s).toArray,.int .u64 node,.int .i64 i] K w0:=by
 refine aE oR (oQ ?_)
 refine bh fun w1 hb b1 s1 => ?_
 have hb:blk w1 w0.heap.size 30 (saC s):=by simpa [Value.cells] using hb
 have z1:=b1.size
 refine aE vd (vc ?_)
 refine aI Tryz.underlying22 <|fB <|Hm ?_
 by_cases hf:m≤60
 case neg =>
  refine de (by omega) <|bp (by omega) <|aR ?_
  exact wk.use b1 h
 refine cE (by omega) <|aU <|ld1 (v:=.slice s.na s.nodes.length s.nc) (fun _=>by kernel_rfl) hb h18 <|aI Tryz.underlying27 <|cD <|bt (by omega) ?_
 by_cases hg:20 < s.nodes.length
 case pos =>
  refine ai (by omega) ?_
  exact wk.use b1 h
 refine ag (by omega) ?_
 have hs:=hs (by omega)
 refine nS (Inv:=fun kv wr => ∃ k:Nat,kv=.int .i64 (k:Nat)∧k≤s.nodes.length∧Below w0.heap.size w0 wr∧blk wr w0.heap.size 30 (saC s)) (μ:=fun kv _=>s.nodes.length - (intOf kv).toNat) ⟨0,rfl,by omega,b1,hb⟩ ?_
 rintro _ dd w2 mu ⟨k,rfl,hk,b2,hb2⟩ hmu
 refine aU <|ld1 (v:=.slice s.na s.nodes.length s.nc) (fun _=>by kernel_rfl) hb2 h18 <|aI Tryz.underlying27 <|aD ?_
 by_cases hkn:k < s.nodes.length
 ·refine ai (by omega) <|nT (Inv:=fun jv wr => ∃ j:Nat,jv=.int .i64 (j:Nat)∧j≤k∧Below w0.heap.size w0 wr∧blk wr w0.heap.size 30 (saC s)) (μ:=fun jv _=>k - (intOf jv).toNat) ⟨0,rfl,by omega,b2,hb2⟩ ?_
  rintro _ dd2 w3 mu2 ⟨j,rfl,hj,b3,hb3⟩ hmu2
  refine aD ?_
  by_cases hjk:j < k
  ·refine ai (by omega) ?_
   have b3:=b3.drew
   have hb3:=hb3.drew
   have hs3:SK w3.drew s:=hs.bel b3 (Nat.le_refl _)
   have hx:s.nodes[j]? = some s.nodes[j]:=List.getElem?_eq_getElem (by omega)
   have hy:s.nodes[k]? = some s.nodes[k]:=List.getElem?_eq_getElem (by omega)
   generalize s.nodes[j]=x at hx
   generalize s.nodes[k]=y at hy
   obtain ⟨b,o,ha⟩:=hs3.nr.some_ (by omega)
   refine a8 (fun _=>aU) <|a8 (v:=.slice s.na s.nodes.length s.nc) (fun _=>ld1 (fun _=>by kernel_rfl) hb3 h18) <|a8 (v:=.pointer (some ⟨b,o+j * 56,none⟩)) (fun K hK=>by rw [ha]; exact bJ Tryz.underlying27 (s:=56) (fun _=>by kernel_rfl) (by omega) (by omega) (by rw [Int.toNat_natCast]; exact hK)) <|a8 (fun _=>gC) <|a8 (v:=.int .u64 x.id) (fun _=>hs3.nr.ld_id ha hx) <|a8 (fun _=>aU) <|a8 (v:=.slice s.na s.nodes.length s.nc) (fun _=>ld1 (fun _=>by kernel_rfl) hb3 h18) <|a8 (v:=.pointer (some ⟨b,o+k * 56,none⟩)) (fun K hK=>by rw [ha]; exact bJ Tryz.underlying27 (s:=56) (fun _=>by kernel_rfl) (by omega) (by omega) (by rw [Int.toNat_natCast]; exact hK)) <|a8 (fun _=>gC) <|a8 (v:=.int .u64 y.id) (fun _=>hs3.nr.ld_id ha hy) ?_
   refine a8 (v:=.bool (decide (x.id=y.id))) (fun _=>aN) ?_
   by_cases he:x.id=y.id
   ·refine ai he ?_
    exact wk.use b3 h
   ·refine ag he <|aF (by omega) (by omega) ?_
    exact ⟨⟨j+1,congrArg (Value.int .i64) (by push_cast; rfl),by omega,b3,hb3⟩,by rw [hmu2]; show k - ((j:Int)+1).toNat < k - (j:Int).toNat; omega⟩
  ·refine ag (by omega) <|nV <|aF (by omega) (by omega) ?_
   exact ⟨⟨k+1,congrArg (Value.int .i64) (by push_cast; rfl),by omega,b3,hb3⟩,by rw [hmu]; show s.nodes.length - ((k:Int)+1).toNat < s.nodes.length - (k:Int).toNat; omega⟩
 ·refine ag (by omega) ?_
  exact Ib wk hn hpk b2 (hs.bel b2 (Nat.le_refl _)) (hX.bel b2 (Nat.le_refl _)) hf hb2 rfl rfl rfl rfl rfl rfl h
end
end Go.Proofs.YtgpfkmdknlcemaaGreatDoor
namespace Go.Proofs.YtgpfkmdknlcemaaGreatDoor
set_option maxRecDepth 100000
open Go.ChangeShapes Go.WideShapes Go.ChangeAt Go.RowKit Go.Deep
section
variable {H:Type} {enc:TypeId × Value→H} {W:World} {base:Nat} {held:Bool}
theorem zb {x:Int} (h:(Lit.int .u8 x).wf=true):0≤x∧x≤255:=by simpa [Lit.wf,IntKind.min,IntKind.max,IntKind.signed,IntKind.bits] using h
theorem Es {fuel:Nat} {cs:List Value} {x:DataW H × List MemPlace} (h:DataW.trod enc Tryz.prog W base (fun _=>true) held fuel 74 cs=some x) :
  ∃ y:AC,cs=acC y∧uE y:=by
 obtain ⟨xs,n,rfl,rfl,hlen,hxl,hf⟩:=DataW.trod_struct Tryz.underlying74 h
 have h9:cs.length=9:=by rw [hlen]; kernel_rfl
 match cs,h9 with
 | [c0,c1,c2,c3,c4,c5,c6,c7,c8],_ =>
  have hx9:xs.length=9:=hxl
  match xs,hx9 with
  | [x0,x1,x2,x3,x4,x5,x6,x7,x8],_ =>
   have h0:DataW.trod enc Tryz.prog W base (fun _=>true) held n 5 [c0]=some x0:=Eq.mp (by kernel_rfl) (hf 0 _ rfl)
   have h1:DataW.trod enc Tryz.prog W base (fun _=>true) held n 4 [c1]=some x1:=Eq.mp (by kernel_rfl) (hf 1 _ rfl)
   have h2:DataW.trod enc Tryz.prog W base (fun _=>true) held n 5 [c2]=some x2:=Eq.mp (by kernel_rfl) (hf 2 _ rfl)
   have h3:DataW.trod enc Tryz.prog W base (fun _=>true) held n 5 [c3]=some x3:=Eq.mp (by kernel_rfl) (hf 3 _ rfl)
   have h4:DataW.trod enc Tryz.prog W base (fun _=>true) held n 5 [c4]=some x4:=Eq.mp (by kernel_rfl) (hf 4 _ rfl)
   have h5:DataW.trod enc Tryz.prog W base (fun _=>true) held n 5 [c5]=some x5:=Eq.mp (by kernel_rfl) (hf 5 _ rfl)
   have h6:DataW.trod enc Tryz.prog W base (fun _=>true) held n 72 [c6]=some x6:=Eq.mp (by kernel_rfl) (hf 6 _ rfl)
   have h7:DataW.trod enc Tryz.prog W base (fun _=>true) held n 5 [c7]=some x7:=Eq.mp (by kernel_rfl) (hf 7 _ rfl)
   have h8:DataW.trod enc Tryz.prog W base (fun _=>true) held n 5 [c8]=some x8:=Eq.mp (by kernel_rfl) (hf 8 _ rfl)
   obtain ⟨z0,e0,_,w0⟩:=DataW.trod_int Tryz.underlying5 h0
   obtain ⟨z1,e1,_⟩:=DataW.trod_bool Tryz.underlying4 h1
   obtain ⟨z2,e2,_,w2⟩:=DataW.trod_int Tryz.underlying5 h2
   obtain ⟨z3,e3,_,w3⟩:=DataW.trod_int Tryz.underlying5 h3
   obtain ⟨z4,e4,_,w4⟩:=DataW.trod_int Tryz.underlying5 h4
   obtain ⟨z5,e5,_,w5⟩:=DataW.trod_int Tryz.underlying5 h5
   obtain ⟨z6,e6,_,w6⟩:=DataW.trod_int Tryz.underlying72 h6
   obtain ⟨z7,e7,_,w7⟩:=DataW.trod_int Tryz.underlying5 h7
   obtain ⟨z8,e8,_,w8⟩:=DataW.trod_int Tryz.underlying5 h8
   simp only [List.cons.injEq,and_true] at e0 e1 e2 e3 e4 e5 e6 e7 e8
   subst e0 e1 e2 e3 e4 e5 e6 e7 e8
   exact ⟨⟨z0,z1,z2,z3,z4,z5,z6,z7,z8⟩,rfl,zb w0,zb w2,zb w4⟩
theorem Cd {fuel:Nat} {cs:List Value} {a:Option Addr} {n c:Nat} {x:DataW H × List MemPlace} (hc:cs=[.slice a n c])
  (hf:DataW.trod enc Tryz.prog W base (fun _=>true) held fuel 22 cs=some x):(∃ L,AR W a n c L)∧n≤c∧c≤9223372036854775807:=by
 obtain ⟨d,p⟩:=x
 rcases open_slice Tryz.underlying22 hf with ⟨hcs,_⟩ | ⟨ad,len,cap,m,k,D,Pl,hcs,hb0,hl,hm,hmm,hx,hall⟩
 ·rw [hc] at hcs
  simp only [List.cons.injEq,Value.slice.injEq,and_true] at hcs
  obtain ⟨rfl,rfl,rfl⟩:=hcs
  exact ⟨⟨[],rfl,fun h=>by omega,fun i s h=>by simp at h,fun x hx=>by cases hx⟩,by omega,by omega⟩
 ·rw [hc] at hcs
  simp only [List.cons.injEq,Value.slice.injEq,and_true] at hcs
  obtain ⟨rfl,rfl,rfl⟩:=hcs
  simp only [if_true] at hmm
  subst hmm
  refine ⟨?_,hl,by simpa [maxLen] using hm⟩
  have h9:Tryz.prog.cellsOf 74=9:=by kernel_rfl
  have each:∀ i,i < n→∃ q:AC,uE q∧∀ j u,(acC q)[j]? = some u→W.cell? ((ad.add (i * 9)).add j)=some u:=by
   intro i hi
   obtain ⟨cs',hcl,htr⟩:=hall i (by omega)
   rw [h9] at hcl
   obtain ⟨_,hlen,hcell⟩:=World.cells?_some hcl
   obtain ⟨s,rfl,h1⟩:=Es htr
   refine ⟨s,h1,fun j u hu => ?_⟩
   have hj:=(List.getElem?_eq_some_iff.1 hu).1
   have hj:j < 9:=hj
   rw [hcell j hj]; exact hu
  haveI:Inhabited AC:=⟨⟨0,false,0,0,0,0,0,0,0⟩⟩
  obtain ⟨Q,hQ⟩:=choose_lt each
  have hsp:0 < n→ad.spot=none:=by
   intro h0
   obtain ⟨_,q4'⟩:=hQ 0 h0
   have:=World.cell?_spot (q4' 0 _ rfl)
   exact this
  refine ⟨(List.range n).map Q,by simp,fun h0=>⟨ad.block,ad.off,by have:=hsp h0; obtain ⟨b,o,s⟩:=ad; cases this; rfl⟩,fun i s hs b o ha j u hu => ?_,fun x hx => ?_⟩
  ·have hi:i < n:=by have:=(List.getElem?_eq_some_iff.1 hs).1; simpa using this
   simp only [List.getElem?_map,List.getElem?_range hi,Option.map_some,Option.some.injEq] at hs
   subst hs
   obtain ⟨q1,q4⟩:=hQ i hi
   cases ha
   have:=q4 j u hu
   rw [jI,jI] at this
   exact this
  ·obtain ⟨i,hi,rfl⟩:=List.mem_map.1 hx
   exact (hQ i (List.mem_range.1 hi)).1
def AllI (k:IntKind) (cs:List Value):Prop := ∀ v ∈ cs, ∃ z,v=.int k z
theorem AllI.nums {k:IntKind}:∀ {cs:List Value},AllI k cs→∃ zs:List Int,zs.length=cs.length∧cs=zs.map (.int k)
 | [],_=>⟨[],rfl,rfl⟩
 | v::cs,h=>by
  obtain ⟨z,rfl⟩:=h v (.head _)
  obtain ⟨zs,h1,h2⟩:=AllI.nums fun u hu=>h u (.tail _ hu)
  exact ⟨z::zs,by simp [h1],by rw [List.map_cons, ← h2]⟩
theorem Dl {cs:List Value} {n c:Nat} {p:Value→Prop} (hl:cs.length=n * c) (h:∀ i,i < n→∀ v ∈ (cs.drop (i * c)).take c,p v):∀ v ∈ cs,p v:=by
 intro v hv
 obtain ⟨k,hk,rfl⟩:=List.getElem_of_mem hv
 have hc:0 < c:=by
  rcases Nat.eq_zero_or_pos c with rfl | h0
  ·rw [Nat.mul_zero] at hl; omega
  ·exact h0
 have hi:k / c < n:=(Nat.div_lt_iff_lt_mul hc).2 (by omega)
 refine h (k / c) hi _ (List.mem_of_getElem? (i:=k % c) ?_)
 rw [List.getElem?_take_of_lt (Nat.mod_lt _ hc),List.getElem?_drop,Nat.mul_comm,Nat.div_add_mod]
 exact List.getElem?_eq_getElem hk
theorem zd {k:IntKind} {t:TypeId} {fuel:Nat} {cs:List Value} {x:DataW H × List MemPlace} (ht:Tryz.prog.underlying t=some (.int k)) (h:DataW.trod enc Tryz.prog W base (fun _=>true) held fuel t cs=some x):AllI k cs:=by
 obtain ⟨z,rfl,_⟩:=DataW.trod_int ht h
 intro v hv
 simp only [List.mem_singleton] at hv
 exact ⟨z,hv⟩
theorem oZ {p:Value→Prop} {t e:TypeId} {n c m:Nat} {fuel:Nat} {cs:List Value} {x:DataW H × List MemPlace} (ht:Tryz.prog.underlying t=some (.array n e)) (hc:Tryz.prog.cellsOf e=c) (hm:Tryz.prog.cellsOf t=m) (hmc:m=n * c)
  (he:∀ {fuel:Nat} {cs:List Value} {x:DataW H × List MemPlace},DataW.trod enc Tryz.prog W base (fun _=>true) held fuel e cs=some x→∀ v ∈ cs,p v)
  (h:DataW.trod enc Tryz.prog W base (fun _=>true) held fuel t cs=some x):∀ v ∈ cs,p v:=by
 obtain ⟨xs,q,rfl,rfl,hlen,hxl,hf⟩:=DataW.trod_array ht h
 rw [hm,hmc] at hlen
 refine Dl hlen fun i hi => ?_
 have:=hf i hi
 rw [hc,List.getElem?_eq_getElem (by omega)] at this
 exact he this
theorem uz:∀ {cs:List Value},(∀ v ∈ cs, ∃ b,v=.bool b)→∃ zs:List Bool,zs.length=cs.length∧cs=zs.map .bool
 | [],_=>⟨[],rfl,rfl⟩
 | v::cs,h=>by
  obtain ⟨z,rfl⟩:=h v (.head _)
  obtain ⟨zs,h1,h2⟩:=uz fun u hu=>h u (.tail _ hu)
  exact ⟨z::zs,by simp [h1],by rw [List.map_cons, ← h2]⟩
theorem uA {cs:List Value} {p:Value→Prop} (k:Nat) (h1:∀ v ∈ cs.take k,p v) (h2:∀ v ∈ cs.drop k,p v):∀ v ∈ cs,p v:=by
 intro v hv
 rw [← List.take_append_drop k cs,List.mem_append] at hv
 exact hv.elim (h1 v) (h2 v)
theorem AL {fuel:Nat} {cs:List Value} {x:DataW H × List MemPlace} (h:DataW.trod enc Tryz.prog W base (fun _=>true) held fuel 36 cs=some x):AllI .i64 cs∧cs.length=54:=by
 obtain ⟨xs,n,rfl,rfl,hlen,hxl,hf⟩:=DataW.trod_struct Tryz.underlying36 h
 have h54:cs.length=54:=by rw [hlen]; kernel_rfl
 have hx4:xs.length=4:=hxl
 refine ⟨?_,h54⟩
 have a6:∀ {fuel:Nat} {cs:List Value} {x:DataW H × List MemPlace},DataW.trod enc Tryz.prog W base (fun _=>true) held fuel 33 cs=some x→∀ v ∈ cs, ∃ z,v=.int .i64 z :=
  fun h=>oZ (c:=1) (m:=6) Tryz.underlying33 (by kernel_rfl) (by kernel_rfl) rfl (fun h=>zd Tryz.underlying2 h) h
 have a36:∀ {fuel:Nat} {cs:List Value} {x:DataW H × List MemPlace},DataW.trod enc Tryz.prog W base (fun _=>true) held fuel 34 cs=some x→∀ v ∈ cs, ∃ z,v=.int .i64 z :=
  fun h=>oZ (c:=6) (m:=36) Tryz.underlying34 (by kernel_rfl) (by kernel_rfl) rfl (fun h=>a6 h) h
 match xs,hx4 with
 | [x0,x1,x2,x3],_ =>
  have c6:Tryz.prog.cellsOf 33=6:=by kernel_rfl
  have c36:Tryz.prog.cellsOf 34=36:=by kernel_rfl
  have h0:DataW.trod enc Tryz.prog W base (fun _=>true) held n 33 ((cs.drop 0).take (Tryz.prog.cellsOf 33))=some x0:=hf 0 _ rfl
  have h1:DataW.trod enc Tryz.prog W base (fun _=>true) held n 33 ((cs.drop 6).take (Tryz.prog.cellsOf 33))=some x1:=hf 1 _ rfl
  have h2:DataW.trod enc Tryz.prog W base (fun _=>true) held n 33 ((cs.drop 12).take (Tryz.prog.cellsOf 33))=some x2:=hf 2 _ rfl
  have h3:DataW.trod enc Tryz.prog W base (fun _=>true) held n 34 ((cs.drop 18).take (Tryz.prog.cellsOf 34))=some x3:=hf 3 _ rfl
  rw [c6] at h0 h1 h2
  rw [c36] at h3
  have g0:=a6 h0
  have g1:=a6 h1
  have g2:=a6 h2
  have g3:=a36 h3
  rw [List.drop_zero] at g0
  refine uA 6 g0 (uA 6 g1 ?_)
  rw [List.drop_drop]
  refine uA 6 g2 ?_
  rw [List.drop_drop]
  rw [List.take_of_length_le (by rw [List.length_drop]; omega)] at g3
  exact g3
theorem Dm {fuel:Nat} {cs:List Value} {x:DataW H × List MemPlace} (h:DataW.trod enc Tryz.prog W base (fun _=>true) held fuel 38 cs=some x):∃ y:ND,cs=ndC y∧y.A.length=54:=by
 obtain ⟨xs,n,rfl,rfl,hlen,hxl,hf⟩:=DataW.trod_struct Tryz.underlying38 h
 have h56:cs.length=56:=by rw [hlen]; kernel_rfl
 have hx3:xs.length=3:=hxl
 match xs,hx3 with
 | [x0,x1,x2],_ =>
  match cs,h56 with
  | c0::c1::r,h56 =>
   have c1':Tryz.prog.cellsOf 24=1:=by kernel_rfl
   have c54:Tryz.prog.cellsOf 36=54:=by kernel_rfl
   have h0:DataW.trod enc Tryz.prog W base (fun _=>true) held n 24 (((c0::c1::r).drop 0).take (Tryz.prog.cellsOf 24))=some x0:=hf 0 _ rfl
   have h1:DataW.trod enc Tryz.prog W base (fun _=>true) held n 24 (((c0::c1::r).drop 1).take (Tryz.prog.cellsOf 24))=some x1:=hf 1 _ rfl
   have h2:DataW.trod enc Tryz.prog W base (fun _=>true) held n 36 (((c0::c1::r).drop 2).take (Tryz.prog.cellsOf 36))=some x2:=hf 2 _ rfl
   have hr:r.length=54:=by simpa using h56
   rw [c1'] at h0 h1
   rw [c54,show (c0::c1::r).drop 2=r from rfl,List.take_of_length_le (by omega)] at h2
   obtain ⟨z0,e0,_⟩:=DataW.trod_int Tryz.underlying24 h0
   obtain ⟨z1,e1,_⟩:=DataW.trod_int Tryz.underlying24 h1
   have e0':c0=.int .u64 z0:=(List.cons.inj e0).1
   have e1':c1=.int .u64 z1:=(List.cons.inj e1).1
   obtain ⟨ha,hl⟩:=AL h2
   obtain ⟨zs,h3,h4⟩:=ha.nums
   subst e0' e1'
   exact ⟨⟨z0,z1,zs⟩,by rw [h4]; rfl,by show zs.length=54; omega⟩
theorem Ce {fuel:Nat} {cs:List Value} {a:Option Addr} {n c:Nat} {x:DataW H × List MemPlace} (hc:cs=[.slice a n c])
  (hf:DataW.trod enc Tryz.prog W base (fun _=>true) held fuel 27 cs=some x):(∃ L,NR W a n c L)∧n≤c∧c≤9223372036854775807:=by
 obtain ⟨d,p⟩:=x
 rcases open_slice Tryz.underlying27 hf with ⟨hcs,_⟩ | ⟨ad,len,cap,m,k,D,Pl,hcs,hb0,hl,hm,hmm,hx,hall⟩
 ·rw [hc] at hcs
  simp only [List.cons.injEq,Value.slice.injEq,and_true] at hcs
  obtain ⟨rfl,rfl,rfl⟩:=hcs
  exact ⟨⟨[],rfl,Nat.le_refl _,fun h=>by omega,(fun x hx=>by cases hx),fun i s h=>by simp at h⟩,by omega,by omega⟩
 ·rw [hc] at hcs
  simp only [List.cons.injEq,Value.slice.injEq,and_true] at hcs
  obtain ⟨rfl,rfl,rfl⟩:=hcs
  simp only [if_true] at hmm
  subst hmm
  refine ⟨?_,hl,by simpa [maxLen] using hm⟩
  have h9:Tryz.prog.cellsOf 38=56:=by kernel_rfl
  have each:∀ i,i < n→∃ q:ND,q.A.length=54∧∀ j u,(ndC q)[j]? = some u→W.cell? ((ad.add (i * 56)).add j)=some u:=by
   intro i hi
   obtain ⟨cs',hcl,htr⟩:=hall i (by omega)
   rw [h9] at hcl
   obtain ⟨_,hlen,hcell⟩:=World.cells?_some hcl
   obtain ⟨s,rfl,h1⟩:=Dm htr
   refine ⟨s,h1,fun j u hu => ?_⟩
   have hj:=(List.getElem?_eq_some_iff.1 hu).1
   have hj:j < 56:=by rw [xg h1] at hj; exact hj
   rw [hcell j hj]; exact hu
  haveI:Inhabited ND:=⟨⟨0,0,[]⟩⟩
  obtain ⟨Q,hQ⟩:=choose_lt each
  have hsp:0 < n→ad.spot=none:=by
   intro h0
   obtain ⟨_,q4'⟩:=hQ 0 h0
   have:=World.cell?_spot (q4' 0 _ rfl)
   exact this
  refine ⟨(List.range n).map Q,by simp,hl,fun h0=>⟨ad.block,ad.off,by have:=hsp h0; obtain ⟨b,o,s⟩:=ad; cases this; rfl⟩,fun x hx => ?_,fun i s hs b o ha j u hu => ?_⟩
  ·obtain ⟨i,hi,rfl⟩:=List.mem_map.1 hx
   exact (hQ i (List.mem_range.1 hi)).1
  ·have hi:i < n:=by have:=(List.getElem?_eq_some_iff.1 hs).1; simpa using this
   simp only [List.getElem?_map,List.getElem?_range hi,Option.map_some,Option.some.injEq] at hs
   subst hs
   obtain ⟨q1,q4⟩:=hQ i hi
   cases ha
   have:=q4 j u hu
   rw [jI,jI] at this
   exact this
theorem six {α:Type} (l:List α) (k:Nat) (h:k+6≤l.length):((l.drop k).take 6).length=6:=by rw [List.length_take,List.length_drop]; omega
theorem Cf {fuel:Nat} {cs:List Value} {x:DataW H × List MemPlace} (h:DataW.trod enc Tryz.prog W base (fun _=>true) held fuel 30 cs=some x) :
  ∃ s:STA,cs=saC s∧(s.nodes.length≤1000000→SK W s)∧(saC s)[18]? = some (.slice s.na s.nodes.length s.nc):=by
 obtain ⟨xs,n,rfl,rfl,hlen,hxl,hf⟩:=DataW.trod_struct Tryz.underlying30 h
 have h20:cs.length=20:=by rw [hlen]; kernel_rfl
 have hx5:xs.length=5:=hxl
 match xs,hx5 with
 | [x0,x1,x2,x3,x4],_ =>
  have cB:Tryz.prog.cellsOf 23=6:=by kernel_rfl
  have cV:Tryz.prog.cellsOf 26=6:=by kernel_rfl
  have cN:Tryz.prog.cellsOf 27=1:=by kernel_rfl
  have cG:Tryz.prog.cellsOf 28=1:=by kernel_rfl
  have h0:DataW.trod enc Tryz.prog W base (fun _=>true) held n 23 ((cs.drop 0).take (Tryz.prog.cellsOf 23))=some x0:=hf 0 _ rfl
  have h1:DataW.trod enc Tryz.prog W base (fun _=>true) held n 23 ((cs.drop 6).take (Tryz.prog.cellsOf 23))=some x1:=hf 1 _ rfl
  have h2:DataW.trod enc Tryz.prog W base (fun _=>true) held n 26 ((cs.drop 12).take (Tryz.prog.cellsOf 26))=some x2:=hf 2 _ rfl
  have h3:DataW.trod enc Tryz.prog W base (fun _=>true) held n 27 ((cs.drop 18).take (Tryz.prog.cellsOf 27))=some x3:=hf 3 _ rfl
  have h4:DataW.trod enc Tryz.prog W base (fun _=>true) held n 28 ((cs.drop 19).take (Tryz.prog.cellsOf 28))=some x4:=hf 4 _ rfl
  rw [cB] at h0 h1
  rw [cV] at h2
  rw [cN] at h3
  rw [cG] at h4
  have g0:=oZ (p:=fun v => ∃ b,v=.bool b) (c:=1) (m:=6) Tryz.underlying23 (by kernel_rfl) (by kernel_rfl) rfl (fun h=>by
   obtain ⟨b,rfl,_⟩:=DataW.trod_bool Tryz.underlying4 h
   intro v hv; simp only [List.mem_singleton] at hv; exact ⟨b,hv⟩) h0
  have g1:=oZ (p:=fun v => ∃ b,v=.bool b) (c:=1) (m:=6) Tryz.underlying23 (by kernel_rfl) (by kernel_rfl) rfl (fun h=>by
   obtain ⟨b,rfl,_⟩:=DataW.trod_bool Tryz.underlying4 h
   intro v hv; simp only [List.mem_singleton] at hv; exact ⟨b,hv⟩) h1
  have g2:AllI .u64 _:=oZ (c:=1) (m:=6) Tryz.underlying26 (by kernel_rfl) (by kernel_rfl) rfl (fun h=>zd Tryz.underlying24 h) h2
  obtain ⟨I,i1,i2⟩:=uz g0
  obtain ⟨L,l1,l2⟩:=uz g1
  obtain ⟨V,v1,v2⟩:=g2.nums
  rw [six _ _ (by omega)] at i1 l1 v1
  obtain ⟨na,nn,nc,e3⟩:∃ a m c,(cs.drop 18).take 1=[.slice a m c]:=by
   rcases open_slice Tryz.underlying27 (x:=x3) h3 with ⟨hcs,_⟩ | ⟨ad,len,cap,m,k,D,Pl,hcs,_⟩
   ·exact ⟨_,_,_,hcs⟩
   ·exact ⟨_,_,_,hcs⟩
  obtain ⟨ga,gn,gc,e4⟩:∃ a m c,(cs.drop 19).take 1=[.slice a m c]:=by
   rcases open_slice Tryz.underlying28 (x:=x4) h4 with ⟨hcs,_⟩ | ⟨ad,len,cap,m,k,D,Pl,hcs,_⟩
   ·exact ⟨_,_,_,hcs⟩
   ·exact ⟨_,_,_,hcs⟩
  obtain ⟨⟨N,hN⟩,hle,hmx⟩:=Ce e3 h3
  obtain rfl:N.length=nn:=hN.len
  refine ⟨⟨I,L,V,N,na,nc,.slice ga gn gc⟩, ?_,fun hfew=>⟨i1,l1,v1,hN,hfew,rfl⟩, ?_⟩
  rotate_left
  ·rw [show saC _=(I.map .bool++L.map .bool++V.map (.int .u64))++[.slice na N.length nc,.slice ga gn gc] from rfl,List.getElem?_append_right (by simp; omega)]
   simp [i1,l1,v1]
  show cs=I.map .bool++L.map .bool++V.map (.int .u64)++[.slice na N.length nc,.slice ga gn gc]
  rw [← i2, ← l2, ← v2,List.drop_zero]
  have e34:(cs.drop 18)=[.slice na N.length nc,.slice ga gn gc]:=by
   have h2':(cs.drop 18).length=2:=by rw [List.length_drop]; omega
   have e4':((cs.drop 18).drop 1).take 1=[.slice ga gn gc]:=by rw [List.drop_drop]; exact e4
   match hq:cs.drop 18,h2' with
   | [p,q],_ =>
    rw [hq] at e3 e4'
    rw [(List.cons.inj e3).1,(List.cons.inj e4').1]
  rw [← e34]
  conv=>lhs; rw [← List.take_append_drop 18 cs]
  congr 1
  conv=>lhs; rw [show 18=6+(6+6) from rfl,List.take_add,List.take_add,List.drop_drop]
  rw [List.append_assoc]
end
end Go.Proofs.YtgpfkmdknlcemaaGreatDoor
namespace Go.Proofs.YtgpfkmdknlcemaaGreatDoor
set_option maxRecDepth 100000
open Go.RowKit
structure Loc where
 B:Nat
 cap:Nat
abbrev Lay:=Nat→Option Loc
def Lay.le (R R':Lay):Prop := ∀ i L,R i=some L→R' i=some L
theorem Lay.le.refl (R:Lay):Lay.le R R:=fun _ _ h=>h
theorem Lay.le.trans {a b c:Lay} (h:Lay.le a b) (k:Lay.le b c):Lay.le a c:=fun i L hi=>k i L (h i L hi)
inductive All2 {α β:Type} (r:α→β→Prop):List α→List β→Prop
 | nil:All2 r [] []
 | cons {a b l m}:r a b→All2 r l m→All2 r (a::l) (b::m)
section
variable {α β:Type} {r:α→β→Prop}
theorem All2.len {l:List α} {m:List β} (h:All2 r l m):m.length=l.length:=by
 induction h with
 | nil=>rfl
 | cons _ _ ih=>simp [ih]
theorem All2.get {l:List α} {m:List β} (h:All2 r l m):∀ {i:Nat} {a:α},l[i]? = some a→∃ b,m[i]? = some b∧r a b:=by
 induction h with
 | nil=>intro i a h; simp at h
 | cons h1 _ ih =>
  intro i a h
  cases i with
  | zero=>simp at h; subst h; exact ⟨_,rfl,h1⟩
  | succ i=>simp at h; simpa using ih h
theorem All2.mono {r':α→β→Prop} (hr:∀ a b,r a b→r' a b) {l:List α} {m:List β} (h:All2 r l m):All2 r' l m:=by
 induction h with
 | nil=>exact .nil
 | cons h1 _ ih=>exact .cons (hr _ _ h1) ih
theorem All2.take {l:List α} {m:List β} (h:All2 r l m):∀ n,All2 r (l.take n) (m.take n):=by
 induction h with
 | nil=>intro n; simp; exact .nil
 | cons h1 _ ih =>
  intro n
  cases n with
  | zero=>exact .nil
  | succ n=>exact .cons h1 (ih n)
theorem All2.drop {l:List α} {m:List β} (h:All2 r l m):∀ n,All2 r (l.drop n) (m.drop n):=by
 induction h with
 | nil=>intro n; simp; exact .nil
 | cons h1 h2 ih =>
  intro n
  cases n with
  | zero=>exact .cons h1 h2
  | succ n=>exact ih n
theorem All2.append {l l':List α} {m m':List β} (h:All2 r l m) (h':All2 r l' m'):All2 r (l++l') (m++m'):=by
 induction h with
 | nil=>exact h'
 | cons h1 _ ih=>exact .cons h1 ih
theorem All2.set {l:List α} {m:List β} (h:All2 r l m) {a:α} {b:β} (hab:r a b):∀ i,All2 r (l.set i a) (m.set i b):=by
 induction h with
 | nil=>intro i; exact .nil
 | cons h1 h2 ih =>
  intro i
  cases i with
  | zero=>exact .cons hab h2
  | succ i=>exact .cons h1 (ih i)
theorem All2.func {r:α→β→Prop} (hf:∀ a b c,r a b→r a c→b=c) {l:List α} {m m':List β} (h:All2 r l m) (h':All2 r l m'):m=m':=by
 induction h generalizing m' with
 | nil=>cases h'; rfl
 | cons h1 _ ih =>
  cases h' with
  | cons k1 k2=>rw [hf _ _ _ h1 k1,ih k2]
theorem All2.all {q:β→Prop} (hq:∀ a b,r a b→q b) {l:List α} {m:List β} (h:All2 r l m):∀ b ∈ m,q b:=by
 induction h with
 | nil=>intro b hb; cases hb
 | cons h1 _ ih =>
  intro b hb
  cases hb with
  | head=>exact hq _ _ h1
  | tail _ hb=>exact ih b hb
theorem All2.map {γ:Type} (f:α→γ) {r':γ→β→Prop} (hr:∀ a b,r a b→r' (f a) b) {l:List α} {m:List β} (h:All2 r l m):All2 r' (l.map f) m:=by
 induction h with
 | nil=>exact .nil
 | cons h1 _ ih=>exact .cons (hr _ _ h1) ih
end
inductive CV where
 | k (v:Value)
 | p (b o:Nat)
 | g (b o:Nat)
 | s (b o lo n:Nat) (c:Option Nat)
 | se (b o o' lo l:Nat)
 | m (b:Nat)
 | it (b:Nat)
 | f (fn:FuncId) (x y:List (Nat × Nat))
 | yd (b:Nat)
inductive AV where
 | one (v:CV)
 | agg (cs:List CV)
inductive GV where
 | val (a:AV)
 | tup (l:List AV)
 | bad
def prel (R:Lay) (q:Nat × Nat) (v:Value):Prop := ∃ L,R q.1=some L∧v=.pointer (some ⟨L.B,q.2,none⟩)
def dJ (L:Loc) (lo:Nat):Option Nat→Nat
 | some c=>c
 | none=>L.cap - lo
def CV.rel (R:Lay):CV→Value→Prop
 | .k u,v=>v=u
 | .p b o,v=>prel R (b,o) v
 | .g b o,v=>v=.pointer (some ⟨b,o,none⟩)
 | .s b o lo n c,v => ∃ L,R b=some L∧n≤dJ L lo c∧v=.slice (some ⟨L.B,o,none⟩) n (dJ L lo c)
 | .se b o o' lo l,v => ∃ L,R b=some L∧v=.slice (some ⟨L.B,(if L.cap - lo=l then o else o'),none⟩) 0 (L.cap - lo - l)
 | .m b,v => ∃ L,R b=some L∧v=.map (some L.B)
 | .it b,v => ∃ L,R b=some L∧v=.pointer (some ⟨L.B,0,none⟩)
 | .f fn x y,v => ∃ xs ys,All2 (prel R) x xs∧All2 (prel R) y ys∧v=.func (.func fn) xs.toArray ys.toArray
 | .yd b,v => ∃ L,R b=some L∧v=.func (.yield L.B) #[] #[]
def CR (R:Lay) (a:CV) (v:Value):Prop:=a.rel R v∧v.oneCell'=true
def AV.rel (R:Lay):AV→Value→Prop
 | .one a,v=>a.rel R v
 | .agg cs,v => ∃ vs,All2 (CR R) cs vs∧v=.agg vs.toArray
def GV.rel (R:Lay):GV→Value→Prop
 | .val a,v=>a.rel R v
 | .tup l,v => ∃ vs,All2 (AV.rel R) l vs∧v=.tuple vs.toArray
 | .bad,_=>True
theorem prel.mono {R R':Lay} (h:Lay.le R R') {q:Nat × Nat} {v:Value} (k:prel R q v):prel R' q v:=by
 obtain ⟨L,h1,h2⟩:=k; exact ⟨L,h _ _ h1,h2⟩
theorem CV.rel.mono {R R':Lay} (h:Lay.le R R') {a:CV} {v:Value} (k:a.rel R v):a.rel R' v:=by
 cases a with
 | k u=>exact k
 | p b o=>exact prel.mono h k
 | g b o=>exact k
 | s b o lo n c=>obtain ⟨L,h1,h0,h2⟩:=k; exact ⟨L,h _ _ h1,h0,h2⟩
 | se b o o' lo l=>obtain ⟨L,h1,h2⟩:=k; exact ⟨L,h _ _ h1,h2⟩
 | m b=>obtain ⟨L,h1,h2⟩:=k; exact ⟨L,h _ _ h1,h2⟩
 | it b=>obtain ⟨L,h1,h2⟩:=k; exact ⟨L,h _ _ h1,h2⟩
 | f fn x y=>obtain ⟨xs,ys,h1,h2,h3⟩:=k; exact ⟨xs,ys,h1.mono fun _ _=>prel.mono h,h2.mono fun _ _=>prel.mono h,h3⟩
 | yd b=>obtain ⟨L,h1,h2⟩:=k; exact ⟨L,h _ _ h1,h2⟩
theorem CR.mono {R R':Lay} (h:Lay.le R R') {a:CV} {v:Value} (k:CR R a v):CR R' a v:=⟨CV.rel.mono h k.1,k.2⟩
theorem AV.rel.mono {R R':Lay} (h:Lay.le R R') {a:AV} {v:Value} (k:a.rel R v):a.rel R' v:=by
 cases a with
 | one a=>have k:CV.rel R a v:=k; exact CV.rel.mono h k
 | agg cs=>obtain ⟨vs,h1,h2⟩:=k; exact ⟨vs,h1.mono fun _ _=>CR.mono h,h2⟩
theorem GV.rel.mono {R R':Lay} (h:Lay.le R R') {a:GV} {v:Value} (k:a.rel R v):a.rel R' v:=by
 cases a with
 | val a=>have k:AV.rel R a v:=k; exact AV.rel.mono h k
 | tup l=>obtain ⟨vs,h1,h2⟩:=k; exact ⟨vs,h1.mono fun _ _=>AV.rel.mono h,h2⟩
 | bad=>trivial
theorem prel.func {R:Lay} {q:Nat × Nat} {v v':Value} (h:prel R q v) (h':prel R q v'):v=v':=by
 obtain ⟨L,h1,rfl⟩:=h; obtain ⟨L',h1',rfl⟩:=h'
 rw [h1] at h1'; cases h1'; rfl
theorem CV.rel.func {R:Lay} {a:CV} {v v':Value} (h:a.rel R v) (h':a.rel R v'):v=v':=by
 cases a with
 | k u=>exact h.trans h'.symm
 | p b o=>exact prel.func h h'
 | g b o=>exact h.trans h'.symm
 | s b o lo n c=>obtain ⟨L,h1,_,rfl⟩:=h; obtain ⟨L',h1',_,rfl⟩:=h'; rw [h1] at h1'; cases h1'; rfl
 | se b o o' lo l=>obtain ⟨L,h1,rfl⟩:=h; obtain ⟨L',h1',rfl⟩:=h'; rw [h1] at h1'; cases h1'; rfl
 | m b=>obtain ⟨L,h1,rfl⟩:=h; obtain ⟨L',h1',rfl⟩:=h'; rw [h1] at h1'; cases h1'; rfl
 | it b=>obtain ⟨L,h1,rfl⟩:=h; obtain ⟨L',h1',rfl⟩:=h'; rw [h1] at h1'; cases h1'; rfl
 | yd b=>obtain ⟨L,h1,rfl⟩:=h; obtain ⟨L',h1',rfl⟩:=h'; rw [h1] at h1'; cases h1'; rfl
 | f fn x y =>
  obtain ⟨xs,ys,h1,h2,rfl⟩:=h; obtain ⟨xs',ys',h1',h2',rfl⟩:=h'
  rw [All2.func (r:=prel R) (fun _ _ _ h h' => prel.func h h') h1 h1',All2.func (r:=prel R) (fun _ _ _ h h' => prel.func h h') h2 h2']
theorem AV.rel.func {R:Lay} {a:AV} {v v':Value} (h:a.rel R v) (h':a.rel R v'):v=v':=by
 cases a with
 | one a=>have h:CV.rel R a v:=h; have h':CV.rel R a v':=h'; exact CV.rel.func h h'
 | agg cs =>
  obtain ⟨vs,h1,rfl⟩:=h; obtain ⟨vs',h1',rfl⟩:=h'
  rw [All2.func (r:=CR R) (fun _ _ _ h h' => CV.rel.func h.1 h'.1) h1 h1']
theorem GV.rel.func {R:Lay} {a:GV} {v v':Value} (hb:a≠.bad) (h:a.rel R v) (h':a.rel R v'):v=v':=by
 cases a with
 | bad=>exact absurd rfl hb
 | val a=>have h:AV.rel R a v:=h; have h':AV.rel R a v':=h'; exact AV.rel.func h h'
 | tup l =>
  obtain ⟨vs,h1,rfl⟩:=h; obtain ⟨vs',h1',rfl⟩:=h'
  rw [All2.func (r:=AV.rel R) (fun _ _ _ h h' => AV.rel.func h h') h1 h1']
/-! ## Trees by number. -/
inductive Tr (α:Type) where
 | e
 | l (a:α)
 | n (x y:Tr α)
def Tr.get {α:Type}:Nat→Tr α→Nat→Option α
 | 0,.l a,_=>some a
 | d+1,.n x y,i=>match Nat.beq (i % 2) 0 with | true=>Tr.get d x (i / 2) | false=>Tr.get d y (i / 2)
 | _,_,_=>none
def Tr.sub {α:Type}:Tr α→Tr α × Tr α
 | .n x y=>(x,y)
 | _=>(.e,.e)
def Tr.nl {α:Type} (x y:Tr α):Tr α:=match x with | .e => .n .e y | .l a => .n (.l a) y | .n p q => .n (.n p q) y
def Tr.nr {α:Type} (x y:Tr α):Tr α:=match y with | .e => .n x .e | .l a => .n x (.l a) | .n p q => .n x (.n p q)
theorem Tr.nl_eq {α:Type} (x y:Tr α):Tr.nl x y=.n x y:=by cases x <;> rfl
theorem Tr.nr_eq {α:Type} (x y:Tr α):Tr.nr x y=.n x y:=by cases y <;> rfl
def Tr.set {α:Type}:Nat→Tr α→Nat→α→Tr α
 | 0,_,_,a => .l a
 | d+1,.n x y,i,a=>match Nat.beq (i % 2) 0 with | true=>Tr.nl (Tr.set d x (i / 2) a) y | false=>Tr.nr x (Tr.set d y (i / 2) a)
 | d+1,_,i,a=>match Nat.beq (i % 2) 0 with | true=>Tr.nl (Tr.set d .e (i / 2) a) .e | false=>Tr.nr .e (Tr.set d .e (i / 2) a)
theorem Tr.sub_n {α:Type} (x y:Tr α):(Tr.n x y).sub=(x,y):=rfl
theorem Tr.set_sub {α:Type} (d:Nat) (t:Tr α) (i:Nat) (a:α):Tr.set (d+1) t i a=match Nat.beq (i % 2) 0 with | true => .n (Tr.set d t.sub.1 (i / 2) a) t.sub.2 | false => .n t.sub.1 (Tr.set d t.sub.2 (i / 2) a):=by
 cases t with
 | e =>
  show (match Nat.beq (i % 2) 0 with | true=>Tr.nl (Tr.set d .e (i / 2) a) .e | false=>Tr.nr .e (Tr.set d .e (i / 2) a))=_
  rw [Tr.nl_eq,Tr.nr_eq]; rfl
 | l b =>
  show (match Nat.beq (i % 2) 0 with | true=>Tr.nl (Tr.set d .e (i / 2) a) .e | false=>Tr.nr .e (Tr.set d .e (i / 2) a))=_
  rw [Tr.nl_eq,Tr.nr_eq]; rfl
 | n x y =>
  show (match Nat.beq (i % 2) 0 with | true=>Tr.nl (Tr.set d x (i / 2) a) y | false=>Tr.nr x (Tr.set d y (i / 2) a))=_
  rw [Tr.nl_eq,Tr.nr_eq]; rfl
theorem Tr.get_sub {α:Type} (d:Nat) (t:Tr α) (i:Nat):Tr.get (d+1) t i=match Nat.beq (i % 2) 0 with | true=>Tr.get d t.sub.1 (i / 2) | false=>Tr.get d t.sub.2 (i / 2):=by
 have he:∀ i,Tr.get d (.e:Tr α) i=none:=fun i=>by cases d <;> rfl
 cases t with
 | e=>simp only [Tr.sub,he]; unfold Tr.get; split <;> rfl
 | l a=>simp only [Tr.sub,he]; unfold Tr.get; split <;> rfl
 | n x y=>rfl
theorem eb {a b:Nat} {c:Bool} (h:Nat.beq a b=c):if c then a=b else a≠b:=by
 subst h
 by_cases hh:a=b
 ·subst hh; simp
 ·have:Nat.beq a b=false:=by
   cases hq:Nat.beq a b
   ·rfl
   ·exact absurd (Nat.eq_of_beq_eq_true hq) hh
  simp [this,hh]
theorem Tr.get_set {α:Type} (a:α):∀ (d:Nat) (t:Tr α) (i j:Nat),i < 2 ^ d→j < 2 ^ d→Tr.get d (Tr.set d t i a) j=if i=j then some a else Tr.get d t j
 | 0,t,i,j,hi,hj=>by
  have:i=j:=by omega
  simp [this,Tr.set,Tr.get]
 | d+1,t,i,j,hi,hj=>by
  have hi2:i / 2 < 2 ^ d:=by rw [Nat.pow_succ] at hi; omega
  have hj2:j / 2 < 2 ^ d:=by rw [Nat.pow_succ] at hj; omega
  rw [Tr.get_sub,Tr.get_sub,Tr.set_sub]
  cases ei:Nat.beq (i % 2) 0 <;> cases ej:Nat.beq (j % 2) 0 <;> simp only [Tr.sub_n]
  ·rw [Tr.get_set a d _ _ _ hi2 hj2]
   have e1:=eb ei
   have e2:=eb ej
   simp only [Bool.false_eq_true,if_true,if_false] at e1 e2
   by_cases hij:i / 2=j / 2
   ·rw [if_pos hij,if_pos (by omega)]
   ·rw [if_neg hij,if_neg (by omega)]
  ·have e1:=eb ei
   have e2:=eb ej
   simp only [Bool.false_eq_true,if_true,if_false] at e1 e2
   rw [if_neg (by omega)]
  ·have e1:=eb ei
   have e2:=eb ej
   simp only [Bool.false_eq_true,if_true,if_false] at e1 e2
   rw [if_neg (by omega)]
  ·rw [Tr.get_set a d _ _ _ hi2 hj2]
   have e1:=eb ei
   have e2:=eb ej
   simp only [Bool.false_eq_true,if_true,if_false] at e1 e2
   by_cases hij:i / 2=j / 2
   ·rw [if_pos hij,if_pos (by omega)]
   ·rw [if_neg hij,if_neg (by omega)]
/-! ## The same, for reckoning: each level spelt. -/
section
variable {α:Type}
def Tr.g0 (t:Tr α) (_:Nat):Option α:=match t with | .l a=>some a | _=>none
def Tr.gs (f:Tr α→Nat→Option α) (t:Tr α) (i:Nat):Option α:=match t with | .n x y=>(match Nat.beq (Nat.mod i 2) 0 with | true=>f x (Nat.div i 2) | false=>f y (Nat.div i 2)) | _=>none
def Tr.s0 (_:Tr α) (_:Nat) (a:α):Tr α:=.l a
def Tr.ss (f:Tr α→Nat→α→Tr α) (t:Tr α) (i:Nat) (a:α):Tr α :=
 match t with
 | .n x y=>(match Nat.beq (Nat.mod i 2) 0 with | true=>Tr.nl (f x (Nat.div i 2) a) y | false=>Tr.nr x (f y (Nat.div i 2) a))
 | _=>(match Nat.beq (Nat.mod i 2) 0 with | true=>Tr.nl (f .e (Nat.div i 2) a) .e | false=>Tr.nr .e (f .e (Nat.div i 2) a))
theorem Tr.gs_eq {f:Tr α→Nat→Option α} {d:Nat} (h:f=Tr.get d):Tr.gs f=Tr.get (d+1):=by
 subst h
 funext t i
 cases t <;> rfl
theorem Tr.ss_eq {f:Tr α→Nat→α→Tr α} {d:Nat} (h:f=Tr.set d):Tr.ss f=Tr.set (d+1):=by
 subst h
 funext t i a
 cases t <;> rfl
theorem Tr.g0_eq:(Tr.g0:Tr α→Nat→Option α)=Tr.get 0:=by
 funext t i
 cases t <;> rfl
theorem Tr.s0_eq:(Tr.s0:Tr α→Nat→α→Tr α)=Tr.set 0:=by
 funext t i a
 cases t <;> rfl
def Tr.get8:Tr α→Nat→Option α:=Tr.gs (Tr.gs (Tr.gs (Tr.gs (Tr.gs (Tr.gs (Tr.gs (Tr.gs Tr.g0)))))))
def Tr.set8:Tr α→Nat→α→Tr α:=Tr.ss (Tr.ss (Tr.ss (Tr.ss (Tr.ss (Tr.ss (Tr.ss (Tr.ss Tr.s0)))))))
def Tr.get13:Tr α→Nat→Option α:=Tr.gs (Tr.gs (Tr.gs (Tr.gs (Tr.gs (Tr.gs (Tr.gs (Tr.gs (Tr.gs (Tr.gs (Tr.gs (Tr.gs (Tr.gs Tr.g0))))))))))))
def Tr.set13:Tr α→Nat→α→Tr α:=Tr.ss (Tr.ss (Tr.ss (Tr.ss (Tr.ss (Tr.ss (Tr.ss (Tr.ss (Tr.ss (Tr.ss (Tr.ss (Tr.ss (Tr.ss Tr.s0))))))))))))
theorem Tr.get8_eq:(Tr.get8:Tr α→Nat→Option α)=Tr.get 8:=Tr.gs_eq (Tr.gs_eq (Tr.gs_eq (Tr.gs_eq (Tr.gs_eq (Tr.gs_eq (Tr.gs_eq (Tr.gs_eq Tr.g0_eq)))))))
theorem Tr.set8_eq:(Tr.set8:Tr α→Nat→α→Tr α)=Tr.set 8:=Tr.ss_eq (Tr.ss_eq (Tr.ss_eq (Tr.ss_eq (Tr.ss_eq (Tr.ss_eq (Tr.ss_eq (Tr.ss_eq Tr.s0_eq)))))))
theorem Tr.get13_eq:(Tr.get13:Tr α→Nat→Option α)=Tr.get 13:=Tr.gs_eq (Tr.gs_eq (Tr.gs_eq (Tr.gs_eq (Tr.gs_eq (Tr.gs_eq (Tr.gs_eq (Tr.gs_eq (Tr.gs_eq (Tr.gs_eq (Tr.gs_eq (Tr.gs_eq (Tr.gs_eq Tr.g0_eq))))))))))))
theorem Tr.set13_eq:(Tr.set13:Tr α→Nat→α→Tr α)=Tr.set 13:=Tr.ss_eq (Tr.ss_eq (Tr.ss_eq (Tr.ss_eq (Tr.ss_eq (Tr.ss_eq (Tr.ss_eq (Tr.ss_eq (Tr.ss_eq (Tr.ss_eq (Tr.ss_eq (Tr.ss_eq (Tr.ss_eq Tr.s0_eq))))))))))))
theorem Tr.get8_set8 (a:α) (t:Tr α) (i j:Nat) (hi:i < 256) (hj:j < 256):Tr.get8 (Tr.set8 t i a) j=if i=j then some a else Tr.get8 t j:=by
 rw [Tr.get8_eq,Tr.set8_eq]
 exact Tr.get_set a 8 t i j hi hj
theorem Tr.get13_set13 (a:α) (t:Tr α) (i j:Nat) (hi:i < 8192) (hj:j < 8192):Tr.get13 (Tr.set13 t i a) j=if i=j then some a else Tr.get13 t j:=by
 rw [Tr.get13_eq,Tr.set13_eq]
 exact Tr.get_set a 13 t i j hi hj
end
end Go.Proofs.YtgpfkmdknlcemaaGreatDoor
namespace Go.Proofs.YtgpfkmdknlcemaaGreatDoor
set_option maxRecDepth 100000
open Go.RowKit
structure kj where
 key:Value
 val:AV
 born:Nat
inductive AO where
 | cells (e:TypeId) (z:Nat) (g:Bool) (cs:List CV)
 | map (es:List kj) (clock:Nat)
 | mit (m:Option Nat) (since:Nat) (seen:List Nat) (stepped:Nat)
 | sit (s:ByteArray) (pos:Nat)
 | dead
def AO.live:AO→Bool
 | .dead=>false
 | _=>true
def EntR (R:Lay) (a:kj) (v:MapEntry):Prop:=v.key=a.key∧a.val.rel R v.val∧v.born=a.born
structure CellsR (R:Lay) (L:Loc) (z:Nat) (g:Bool) (cs:List CV) (c:List Value):Prop where
 rel:All2 (CR R) cs (c.take cs.length)
 le:cs.length≤c.length
 eq:g=false→c.length=cs.length
 room:g=true→0 < z∧L.cap≤maxLen∧c.length=L.cap * z
def objR (R:Lay) (w:World) (L:Loc):AO→Prop
 | .cells e z g cs => ∃ c,blk w L.B e c∧CellsR R L z g cs c
 | .map es clock => ∃ vs,All2 (EntR R) es vs∧w.heap[L.B]? = some (.map vs.toArray clock)
 | .mit none a b d=>w.heap[L.B]? = some (.mapIter none a b.toArray d)
 | .mit (some m) a b d => ∃ M,R m=some M∧w.heap[L.B]? = some (.mapIter (some M.B) a b.toArray d)
 | .sit s pos=>w.heap[L.B]? = some (.stringIter s pos)
 | .dead=>True
structure AH where
 t:Tr AO
 n:Nat
def AH.get (H:AH) (i:Nat):Option AO:=match Nat.blt i H.n with | true=>Tr.get13 H.t i | false=>none
def AH.put (H:AH) (i:Nat) (o:AO):AH:=⟨Tr.set13 H.t i o,H.n⟩
def AH.new (H:AH) (o:AO):AH:=⟨Tr.set13 H.t H.n o,Nat.add H.n 1⟩
theorem ba {a b:Nat}:Nat.blt a b=true↔a < b:=by
 unfold Nat.blt; rw [Nat.ble_eq]; exact Iff.rfl
theorem AH.get_lt {H:AH} {i:Nat} {o:AO} (h:H.get i=some o):i < H.n:=by
 unfold AH.get at h
 split at h
 ·rename_i hb; exact ba.1 hb
 ·cases h
theorem AH.get_put {H:AH} {i j:Nat} {o:AO} (hi:i < H.n) (hn:H.n≤8192):(H.put i o).get j=if i=j then some o else H.get j:=by
 unfold AH.get AH.put
 simp only
 cases hb:Nat.blt j H.n with
 | true =>
  have:=ba.1 hb
  simp only
  rw [Tr.get13_set13 _ _ _ _ (by omega) (by omega)]
 | false =>
  have h2 : ¬ j < H.n:=fun hh=>by rw [ba.2 hh] at hb; cases hb
  simp only
  rw [if_neg (by omega)]
theorem AH.get_new {H:AH} {j:Nat} {o:AO} (hn:H.n < 8192):(H.new o).get j=if j=H.n then some o else H.get j:=by
 unfold AH.get AH.new
 simp only
 cases hb:Nat.blt j (H.n+1) with
 | true =>
  have:=ba.1 hb
  simp only
  rw [Tr.get13_set13 _ _ _ _ (by omega) (by omega)]
  by_cases hj:j=H.n
  ·rw [if_pos hj,if_pos hj.symm]
  ·rw [if_neg hj,if_neg (fun h=>hj h.symm),ba.2 (by omega)]
 | false =>
  have h2 : ¬ j < H.n+1:=fun hh=>by rw [ba.2 hh] at hb; cases hb
  have h3:Nat.blt j H.n=false:=by
   cases hq:Nat.blt j H.n
   ·rfl
   ·have:=ba.1 hq; omega
  rw [if_neg (by omega),h3]
abbrev Glo:=Nat→Option (TypeId × List Value)
def gbk (w:World) (g:Nat) (cs:List Value):Prop := ∃ E fr,w.heap[g]? = some (.cells cs.toArray E fr)
theorem gbk.cell {w:World} {g:Nat} {cs:List Value} (h:gbk w g cs) (o:Nat):w.cell? ⟨g,o,none⟩=cs[o]? := by
 obtain ⟨E,fr,h⟩:=h
 unfold World.cell?
 rw [h]; simp
theorem gbk.same {w w':World} {g:Nat} {cs:List Value} (h:gbk w g cs) (hw:w'.heap[g]? = w.heap[g]?):gbk w' g cs:=by
 obtain ⟨E,fr,h⟩:=h
 exact ⟨E,fr,by rw [hw]; exact h⟩
theorem gbk.lt {w:World} {g:Nat} {cs:List Value} (h:gbk w g cs):g < w.heap.size:=by
 obtain ⟨E,fr,h⟩:=h
 exact (Array.getElem?_eq_some_iff.1 h).1
structure Sim (G:Glo) (B0:Nat) (R:Lay) (H:AH) (w:World):Prop where
 obj:∀ i o,H.get i=some o→o.live=true→∃ L,R i=some L∧B0≤L.B∧objR R w L o
 inj:∀ i j oi oj Li Lj,H.get i=some oi→H.get j=some oj→oi.live=true→oj.live=true→i≠j→R i=some Li→R j=some Lj→Li.B≠Lj.B
 dom:∀ i L,R i=some L→i < H.n
 big:H.n≤8192
 size:B0≤w.heap.size
 glob:∀ g e cs,G g=some (e,cs)→g < B0∧gbk w g cs
theorem objR.lt {R:Lay} {w:World} {L:Loc} {o:AO} (h:objR R w L o) (hl:o.live=true):L.B < w.heap.size:=by
 cases o with
 | cells e z g cs=>obtain ⟨c,h,_⟩:=h; exact h.lt
 | map es clock=>obtain ⟨c,_,h⟩:=h; exact (Array.getElem?_eq_some_iff.1 h).1
 | mit m a b d =>
  cases m with
  | none=>exact (Array.getElem?_eq_some_iff.1 h).1
  | some m=>obtain ⟨c,_,h⟩:=h; exact (Array.getElem?_eq_some_iff.1 h).1
 | sit s pos=>exact (Array.getElem?_eq_some_iff.1 h).1
 | dead=>cases hl
theorem objR.same {R:Lay} {w w':World} {L:Loc} {o:AO} (h:objR R w L o) (hw:w'.heap[L.B]? = w.heap[L.B]?):objR R w' L o:=by
 cases o with
 | cells e z g cs=>obtain ⟨c,h,k⟩:=h; exact ⟨c,by unfold blk at *; rw [hw]; exact h,k⟩
 | map es clock=>obtain ⟨c,k,h⟩:=h; exact ⟨c,k,by rw [hw]; exact h⟩
 | mit m a b d =>
  cases m with
  | none=>show w'.heap[L.B]? = _; rw [hw]; exact h
  | some m=>obtain ⟨c,k,h⟩:=h; exact ⟨c,k,by rw [hw]; exact h⟩
 | sit s pos=>show w'.heap[L.B]? = _; rw [hw]; exact h
 | dead=>trivial
theorem EntR.mono {R R':Lay} (hR:Lay.le R R') {a:kj} {v:MapEntry} (h:EntR R a v):EntR R' a v:=⟨h.1,AV.rel.mono hR h.2.1,h.2.2⟩
theorem CellsR.mono {R R':Lay} (hR:Lay.le R R') {L:Loc} {z:Nat} {g:Bool} {cs:List CV} {c:List Value} (h:CellsR R L z g cs c):CellsR R' L z g cs c :=
 ⟨h.rel.mono fun _ _=>CR.mono hR,h.le,h.eq,h.room⟩
theorem objR.mono {R R':Lay} (hR:Lay.le R R') {w:World} {L:Loc} {o:AO} (h:objR R w L o):objR R' w L o:=by
 cases o with
 | cells e z g cs=>obtain ⟨c,h,k⟩:=h; exact ⟨c,h,k.mono hR⟩
 | map es clock=>obtain ⟨c,k,h⟩:=h; exact ⟨c,k.mono fun _ _=>EntR.mono hR,h⟩
 | mit m a b d =>
  cases m with
  | none=>exact h
  | some m=>obtain ⟨c,k,h⟩:=h; exact ⟨c,hR _ _ k,h⟩
 | sit s pos=>exact h
 | dead=>trivial
section
variable {G:Glo} {B0:Nat} {R:Lay} {H:AH} {w w':World}
theorem Sim.below (h:Sim G B0 R H w) (hb:Below w.heap.size w w'):Sim G B0 R H w' where
 obj i o hi hl:=by
  obtain ⟨L,h1,h2,h3⟩:=h.obj i o hi hl
  exact ⟨L,h1,h2,h3.same (hb.block _ (h3.lt hl))⟩
 inj:=h.inj
 dom:=h.dom
 big:=h.big
 size:=Nat.le_trans h.size hb.size
 glob g e cs hg:=⟨(h.glob g e cs hg).1,(h.glob g e cs hg).2.same (hb.block g (h.glob g e cs hg).2.lt)⟩
def upd (R:Lay) (i:Nat) (L:Loc):Lay:=fun j=>if j=i then some L else R j
theorem Sim.upd_le (h:Sim G B0 R H w) (L:Loc):Lay.le R (upd R H.n L):=by
 intro i M hi
 have:=h.dom i M hi
 unfold upd
 rw [if_neg (by omega)]; exact hi
theorem eZ {i:Nat} {L:Loc}:upd R i L i=some L:=if_pos rfl
theorem Sim.new {o:AO} {L:Loc} (h:Sim G B0 R H w) (hb:Below w.heap.size w w') (hL:w.heap.size≤L.B) (ho:objR (upd R H.n L) w' L o) (hn:H.n < 8192):Sim G B0 (upd R H.n L) (H.new o) w' where
 obj i o' hi hl:=by
  rw [AH.get_new hn] at hi
  split at hi
  ·rename_i e; subst e; cases hi; exact ⟨L,eZ,Nat.le_trans h.size hL,ho⟩
  ·obtain ⟨M,h1,h2,h3⟩:=(h.below hb).obj i o' hi hl
   exact ⟨M,h.upd_le L _ _ h1,h2,h3.mono (h.upd_le L)⟩
 inj i j oi oj Li Lj hi hj li lj hij ri rj:=by
  rw [AH.get_new hn] at hi hj
  unfold upd at ri rj
  split at hi <;> split at hj
  ·rename_i a b; omega
  ·rename_i a b
   rw [if_pos a] at ri; cases ri
   rw [if_neg b] at rj
   obtain ⟨M,h1,h2,h3⟩:=h.obj j oj hj lj
   rw [h1] at rj; cases rj
   have:=h3.lt lj; omega
  ·rename_i a b
   rw [if_pos b] at rj; cases rj
   rw [if_neg a] at ri
   obtain ⟨M,h1,h2,h3⟩:=h.obj i oi hi li
   rw [h1] at ri; cases ri
   have:=h3.lt li; omega
  ·rename_i a b
   rw [if_neg a] at ri; rw [if_neg b] at rj
   exact h.inj i j oi oj Li Lj hi hj li lj hij ri rj
 dom i M hi:=by
  show i < H.n+1
  unfold upd at hi
  split at hi
  ·omega
  ·have:=h.dom i M hi; omega
 big:=by show H.n+1≤8192; omega
 size:=(h.below hb).size
 glob:=(h.below hb).glob
theorem Sim.put {i:Nat} {o o':AO} {L:Loc} (h:Sim G B0 R H w) (hi:H.get i=some o) (hl:o.live=true) (hL:R i=some L) (hs:w'.heap.size=w.heap.size) (hw:∀ k,k≠L.B→w'.heap[k]? = w.heap[k]?) (ho:objR R w' L o'):Sim G B0 R (H.put i o') w' where
 obj j oj hj lj:=by
  rw [AH.get_put (AH.get_lt hi) h.big] at hj
  split at hj
  ·rename_i e; subst e; cases hj
   obtain ⟨M,h1,h2,h3⟩:=h.obj i o hi hl
   rw [hL] at h1; cases h1
   exact ⟨L,hL,h2,ho⟩
  ·rename_i e
   obtain ⟨M,h1,h2,h3⟩:=h.obj j oj hj lj
   exact ⟨M,h1,h2,h3.same (hw _ (h.inj j i oj o M L hj hi lj hl (fun hh=>e hh.symm) h1 hL))⟩
 inj a b oa ob La Lb ha hb la lb hab ra rb:=by
  have key:∀ {c oc},(H.put i o').get c=some oc→oc.live=true→∃ oc',H.get c=some oc'∧oc'.live=true:=by
   intro c oc hc lc
   rw [AH.get_put (AH.get_lt hi) h.big] at hc
   split at hc
   ·rename_i e; subst e; exact ⟨o,hi,hl⟩
   ·exact ⟨oc,hc,lc⟩
  obtain ⟨oa',ha',la'⟩:=key ha la
  obtain ⟨ob',hb',lb'⟩:=key hb lb
  exact h.inj a b oa' ob' La Lb ha' hb' la' lb' hab ra rb
 dom:=h.dom
 big:=h.big
 size:=by rw [hs]; exact h.size
 glob g e cs hg:=by
  obtain ⟨h1,h2⟩:=h.glob g e cs hg
  obtain ⟨M,h3,h4,_⟩:=h.obj i o hi hl
  rw [hL] at h3; cases h3
  exact ⟨h1,h2.same (hw g (by omega))⟩
end
/-! ## Temporaries. -/
def jU:GV:=.val (.one (.k undef))
def gK (E:Tr GV) (i:Nat):GV:=match Tr.get8 E i with | some v=>v | none=>jU
structure EnvR (R:Lay) (n:Nat) (E:Tr GV) (e:Env):Prop where
 len:e.length=n
 big:n≤256
 rel:∀ i,i < n→(gK E i).rel R (gd e i)
theorem EnvR.mono {R R':Lay} (hR:Lay.le R R') {n:Nat} {E:Tr GV} {e:Env} (h:EnvR R n E e):EnvR R' n E e:=⟨h.len,h.big,fun i hi=>GV.rel.mono hR (h.rel i hi)⟩
def ptE (E:Tr GV) (n:Nat) (d:Option Tmp) (v:GV):Tr GV :=
 match d with
 | none=>E
 | some d=>match Nat.blt d n with | true=>Tr.set8 E d v | false=>E
theorem EnvR.put {R:Lay} {n:Nat} {E:Tr GV} {e:Env} {d:Option Tmp} {a:GV} {v:Value} (h:EnvR R n E e) (hv:a.rel R v):EnvR R n (ptE E n d a) (pt e d v):=by
 cases d with
 | none=>exact h
 | some d =>
  unfold ptE pt
  simp only
  cases hb:Nat.blt d n with
  | true =>
   have hd:=ba.1 hb
   have hbig:=h.big
   refine ⟨by simpa using h.len,h.big,fun i hi => ?_⟩
   unfold gK
   rw [Tr.get8_set8 _ _ _ _ (by omega) (by omega)]
   by_cases hdi:d=i
   ·subst hdi
    rw [if_pos rfl]
    have:gd (e.set d v) d=v:=by unfold gd; simp [List.getD_eq_getElem?_getD,h.len,hi]
    rw [this]; exact hv
   ·rw [if_neg hdi]
    have:gd (e.set d v) i=gd e i:=by unfold gd; simp [List.getD_eq_getElem?_getD,List.getElem?_set_ne hdi]
    rw [this]; exact h.rel i hi
  | false =>
   have hd : ¬ d < n:=fun hh=>by rw [ba.2 hh] at hb; cases hb
   have:e.set d v=e:=List.set_eq_of_length_le (by rw [h.len]; exact Nat.le_of_not_lt hd)
   rw [this]; exact h
def kG (v:Value):GV:=.val (.one (.k v))
theorem Ic {R:Lay} {v:Value}:(kG v).rel R v:=rfl
def ofV (v:Value):GV :=
 match v with
 | .agg cs=>match cs.toList.all (·.oneCell') with | true => .val (.agg (cs.toList.map .k)) | false=>kG v
 | _=>kG v
theorem rO {R:Lay}:∀ {l:List Value},l.all (·.oneCell')=true→All2 (CR R) (l.map .k) l
 | [],_ => .nil
 | v::l,h=>by
  rw [List.all_cons,Bool.and_eq_true] at h
  exact .cons ⟨rfl,h.1⟩ (rO h.2)
theorem kP {R:Lay} {v:Value}:(ofV v).rel R v:=by
 unfold ofV
 split
 ·split
  ·rename_i cs h
   exact ⟨_,rO h,rfl⟩
  ·exact rfl
 ·exact rfl
def evG (E:Tr GV) (n:Nat):Operand→Option GV
 | .tmp t=>match Nat.blt t n with | true=>(match gK E t with | .bad=>none | v=>some v) | false=>none
 | .const v=>some (ofV v)
 | .global g=>some (.val (.one (.g g 0)))
 | .func f=>some (kG (.func (.func f) #[] #[]))
theorem aO {R:Lay} {n:Nat} {E:Tr GV} {e:Env} (h:EnvR R n E e) {x:Operand} {a:GV} (ha:evG E n x=some a):a.rel R (ev e x):=by
 cases x with
 | tmp t =>
  unfold evG at ha
  simp only at ha
  split at ha
  ·rename_i hb
   have:=h.rel t (ba.1 hb)
   split at ha
   ·cases ha
   ·cases ha; exact this
  ·cases ha
 | const v=>cases ha; exact kP
 | global g=>cases ha; exact rfl
 | func f=>cases ha; exact rfl
/-! ## What asks no world. -/
def gU {α:Type} (P:Program):Sem α→Option α
 | .pure a=>some a
 | .program k=>gU P (k P)
 | .mark _ k=>gU P k
 | _=>none
theorem eQ {α:Type} {P:Program}:∀ {s:Sem α} {a:α},gU P s=some a→∀ w,s.run P w=.ok a w
 | .pure _,_,h,w=>by cases h; rfl
 | .program k,_,h,w=>by unfold Sem.run; exact eQ (s:=k P) h w
 | .mark _ k,_,h,w=>by unfold Sem.run; exact eQ (s:=k) h w
def Cg:List CV→Option (List Value)
 | []=>some []
 | .k v::r=>match Cg r with | some l=>some (v::l) | none=>none
 | _=>none
theorem ze {R:Lay}:∀ {cs:List CV} {l vs:List Value},Cg cs=some l→All2 (CR R) cs vs→vs=l
 | [],_,_,h,hr=>by cases h; cases hr; rfl
 | .k v::r,l,vs,h,hr=>by
  unfold Cg at h
  split at h
  ·rename_i l' hl
   cases h
   cases hr with
   | cons h1 h2=>rw [ze hl h2,h1.1]
  ·cases h
def toV:GV→Option Value
 | .val (.one (.k v))=>some v
 | .val (.agg cs)=>match Cg cs with | some l=>some (.agg l.toArray) | none=>none
 | _=>none
theorem gX {R:Lay} {a:GV} {u v:Value} (h:toV a=some u) (hr:a.rel R v):v=u:=by
 unfold toV at h
 split at h
 ·cases h; exact hr
 ·split at h
  ·rename_i hl
   cases h
   obtain ⟨vs,h1,rfl⟩:=hr
   rw [ze hl h1]
  ·cases h
 ·cases h
def Yld (op:KV→World→Prop) (R:Lay) (r:GV) (w:World):Prop := ∃ v,r.rel R v∧∀ K:KV,K v w→op K w
end Go.Proofs.YtgpfkmdknlcemaaGreatDoor
namespace Go.Proofs.YtgpfkmdknlcemaaGreatDoor
set_option maxRecDepth 100000
open Go.RowKit
def fH (a:CV):GV:=.val (.one a)
/-! ## Comparisons, numbers, conversions. -/
def wU (P:Program) (t:TypeId) (x y:GV):Bool :=
 match x,y with
 | .val (.one (.p _ _)),.val (.one (.k (.pointer none)))=>match P.underlying t with | some (.pointer _)=>true | _=>false
 | .val (.one (.s ..)),.val (.one (.k (.slice none 0 0)))=>match P.underlying t with | some (.slice _)=>true | _=>false
 | .val (.one (.se ..)),.val (.one (.k (.slice none 0 0)))=>match P.underlying t with | some (.slice _)=>true | _=>false
 | .val (.one (.m _)),.val (.one (.k (.map none)))=>match P.underlying t with | some (.map _ _)=>true | _=>false
 | .val (.one (.f ..)),.val (.one (.k .nilFunc))=>match P.underlying t with | some (.func ..)=>true | _=>false
 | _,_=>false
def Et (P:Program) (op:BinOp) (t:TypeId) (cx cy:Bool) (x y:GV):Option GV :=
 match toV x,toV y with
 | some u,some v=>(gU P (do eqG op t cx cy u v; binOp op t u v)).map kG
 | _,_=>match wU P t x y with
  | true=>match op with | .eql=>some (kG (.bool false)) | .neq=>some (kG (.bool true)) | _=>none
  | false=>none
section
variable {P:Program} {G:Glo} {B0:Nat} {R:Lay} {H:AH} {w:World} {t:TypeId} {x y r:GV} {u v:Value}
theorem Id {d:Nat} {e:TypeId} {a:Addr} (h:P.underlying t=some (.pointer e)):(Op.equalIn (d+1) t (.pointer (some a)) (.pointer none)).run P w=.ok false w:=by
 simp [Op.equalIn,run_underlying h]
theorem Ie {d:Nat} {a b:Array TypeId} {q:Bool} {fn:Fn} {xs ys:Array Value} (h:P.underlying t=some (.func a b q)):(Op.equalIn (d+1) t (.func fn xs ys) .nilFunc).run P w=.ok false w:=by
 simp [Op.equalIn,run_underlying h]
theorem GO (h:wU P t x y=true) (hx:x.rel R u) (hy:y.rel R v):(∀ w,(Op.equal t u v).run P w=.ok false w)∧∀ op cx cy w,(eqG op t cx cy u v).run P w=.ok () w:=by
 unfold wU at h
 split at h
 ·split at h
  ·rename_i hu; obtain ⟨L,_,rfl⟩:=hx; cases hy
   exact ⟨fun w=>Id (d:=9999) hu,fun op cx cy w=>by unfold eqG eqGuard; cases op <;> simp [Sem.run_pure]⟩
  ·cases h
 ·split at h
  ·rename_i hu; obtain ⟨L,_,_,rfl⟩:=hx; cases hy
   exact ⟨fun w=>run_equal_slice_nil w t _ _ _ _ hu,fun op cx cy w=>by unfold eqG eqGuard; cases op <;> simp [Sem.run_pure]⟩
  ·cases h
 ·split at h
  ·rename_i hu; obtain ⟨L,_,rfl⟩:=hx; cases hy
   exact ⟨fun w=>run_equal_slice_nil w t _ _ _ _ hu,fun op cx cy w=>by unfold eqG eqGuard; cases op <;> simp [Sem.run_pure]⟩
  ·cases h
 ·split at h
  ·rename_i hu; obtain ⟨L,_,rfl⟩:=hx; cases hy
   exact ⟨fun w=>run_equal_map_nil w t _ _ _ hu,fun op cx cy w=>by unfold eqG eqGuard; cases op <;> simp [Sem.run_pure]⟩
  ·cases h
 ·split at h
  ·rename_i hu; obtain ⟨xs,ys,_,_,rfl⟩:=hx; cases hy
   exact ⟨fun w=>Ie (d:=9999) hu,fun op cx cy w=>by unfold eqG eqGuard; cases op <;> simp [Sem.run_pure]⟩
  ·cases h
 ·cases h
theorem B7 {op:BinOp} {cx cy:Bool} (h:Et P op t cx cy x y=some r) (hx:x.rel R u) (hy:y.rel R v):Yld (bin P op t cx cy u v) R r w:=by
 unfold Et at h
 split at h
 ·rename_i a b ha hb
  cases hq:gU P (do eqG op t cx cy a b; binOp op t a b) with
  | none=>rw [hq] at h; cases h
  | some q =>
   rw [hq] at h; cases h
   rw [gX ha hx,gX hb hy]
   exact ⟨q,rfl,fun K hk=>bF (eQ hq w) hk⟩
 ·split at h
  ·rename_i hn
   obtain ⟨he,hg⟩:=GO hn hx hy
   have key:∀ c:Bool,(op=.eql∧c=false∨op=.neq∧c=true)→Yld (bin P op t cx cy u v) R (kG (.bool c)) w:=by
    intro c hc
    refine ⟨.bool c,rfl,fun K hk=>gM (hg ..) ?_ hk⟩
    have hi:∀ k k' a b, ¬ (u=.int k a∧v=.int k' b):=by
     rintro k k' a b ⟨rfl,rfl⟩
     unfold wU at hn
     split at hn <;> first | (cases hy; done) | cases hn
    rcases hc with ⟨rfl,rfl⟩ | ⟨rfl,rfl⟩
    ·unfold wU at hn
     split at hn <;> first
      | (obtain ⟨L,_,rfl⟩:=hx; cases hy; simp only [binOp,Sem.run_bind,he,Result.andThen_ok,Sem.run_pure]; done)
      | (obtain ⟨_,_,_,rfl⟩:=hx; cases hy; simp only [binOp,Sem.run_bind,he,Result.andThen_ok,Sem.run_pure]; done)
      | (obtain ⟨_,_,_,_,rfl⟩:=hx; cases hy; simp only [binOp,Sem.run_bind,he,Result.andThen_ok,Sem.run_pure]; done)
      | cases hn
    ·unfold wU at hn
     split at hn <;> first
      | (obtain ⟨L,_,rfl⟩:=hx; cases hy; simp only [binOp,Sem.run_bind,he,Result.andThen_ok,Sem.run_pure]; rfl)
      | (obtain ⟨_,_,_,rfl⟩:=hx; cases hy; simp only [binOp,Sem.run_bind,he,Result.andThen_ok,Sem.run_pure]; rfl)
      | (obtain ⟨_,_,_,_,rfl⟩:=hx; cases hy; simp only [binOp,Sem.run_bind,he,Result.andThen_ok,Sem.run_pure]; rfl)
      | cases hn
   split at h
   ·cases h; exact key _ (.inl ⟨rfl,rfl⟩)
   ·cases h; exact key _ (.inr ⟨rfl,rfl⟩)
   ·cases h
  ·cases h
end
def unG (P:Program) (op:UnOp) (x:GV):Option GV:=match toV x with | some u=>(gU P (Op.unary op u)).map kG | none=>none
theorem If {P:Program} {R:Lay} {w:World} {op:UnOp} {x r:GV} {u:Value} (h:unG P op x=some r) (hx:x.rel R u):Yld (un P op u) R r w:=by
 unfold unG at h
 split at h
 ·rename_i a ha
  cases hq:gU P (Op.unary op a) with
  | none=>rw [hq] at h; cases h
  | some q =>
   rw [hq] at h; cases h
   rw [gX ha hx]
   exact ⟨q,rfl,fun K hk=>bF (eQ hq w) hk⟩
 ·cases h
def p7:List CV→Option (List UInt8)
 | []=>some []
 | .k (.int .u8 (.ofNat n))::r=>match Nat.blt n 256 with | true=>(match p7 r with | some l=>some (UInt8.ofNat n::l) | none=>none) | false=>none
 | _=>none
theorem vt {R:Lay}:∀ {cs:List CV} {l:List UInt8} {vs:List Value},p7 cs=some l→All2 (CR R) cs vs→vs=l.map u8v
 | [],_,_,h,hr=>by cases h; cases hr; rfl
 | .k (.int .u8 (.ofNat n))::r,l,vs,h,hr=>by
  unfold p7 at h
  split at h
  ·rename_i hb
   split at h
   ·rename_i l' hl
    cases h
    cases hr with
    | cons h1 h2 =>
     rw [vt hl h2,h1.1]
     have:(UInt8.ofNat n).toNat=n:=by
      have:=ba.1 hb
      simp; omega
     simp [u8v,this]
   ·cases h
  ·cases h
theorem vu:∀ {cs:List CV} {l:List UInt8},p7 cs=some l→l.length=cs.length
 | [],_,h=>by cases h; rfl
 | .k (.int .u8 (.ofNat n))::r,l,h=>by
  unfold p7 at h
  split at h
  ·split at h
   ·rename_i hl; cases h; simp [vu hl]
   ·cases h
  ·cases h
def Ch (P:Program) (H:AH) (s d:TypeId) (x:GV):Option GV :=
 match toV x with
 | some u=>(gU P (convert s d u)).map kG
 | none=>match x with
  | .val (.one (.s b o _ n _))=>match P.underlying s,P.underlying d,H.get b with
   | some (.slice e),some .string,some (.cells _ _ _ cs)=>match P.underlying e with
    | some (.int .u8)=>match p7 ((cs.drop o).take n) with
     | some l=>match Nat.beq l.length n with | true=>some (kG (.string (kZ l))) | false=>none
     | none=>none
    | _=>none
   | _,_,_=>none
  | _=>none
theorem ks {cs:List CV} {R:Lay} {c:List Value} (hc:All2 (CR R) cs (c.take cs.length)) {o n:Nat} (hn:((cs.drop o).take n).length=n):All2 (CR R) ((cs.drop o).take n) ((c.drop o).take n):=by
 have h:=(hc.drop o).take n
 have e:((c.take cs.length).drop o).take n=(c.drop o).take n:=by
  rw [List.drop_take,List.take_take]
  congr 1
  have:n≤cs.length - o:=by rw [List.length_take,List.length_drop] at hn; omega
  omega
 rw [e] at h; exact h
section
variable {P:Program} {G:Glo} {B0:Nat} {R:Lay} {H:AH} {w:World} {t:TypeId} {x y r:GV} {u v:Value}
theorem Sim.cells (hs:Sim G B0 R H w) {b:Nat} {e:TypeId} {z:Nat} {g:Bool} {cs:List CV} (hb:H.get b=some (.cells e z g cs)) {L:Loc} (hL:R b=some L):∃ c,blk w L.B e c∧CellsR R L z g cs c∧B0≤L.B:=by
 obtain ⟨M,h1,h2,c,h3,h4⟩:=hs.obj b _ hb rfl
 rw [hL] at h1; cases h1
 exact ⟨c,h3,h4,h2⟩
theorem Eu {s d:TypeId} (h:Ch P H s d x=some r) (hs:Sim G B0 R H w) (hx:x.rel R u):Yld (conv P s d u) R r w:=by
 unfold Ch at h
 split at h
 ·rename_i a ha
  cases hq:gU P (convert s d a) with
  | none=>rw [hq] at h; cases h
  | some q =>
   rw [hq] at h; cases h
   rw [gX ha hx]
   exact ⟨q,rfl,fun K hk=>bF (eQ hq w) hk⟩
 ·split at h
  ·rename_i b o lo n c hno
   split at h
   ·rename_i e0 e z g cs hs' hd hg
    split at h
    ·rename_i he
     split at h
     ·rename_i l hl
      split at h
      ·rename_i hbq
       cases h
       obtain ⟨L,hL,hnc,rfl⟩:=hx
       obtain ⟨cc,hb,hc,_⟩:=hs.cells hg hL
       have hbn:l.length=n:=Nat.eq_of_beq_eq_true hbq
       have hlen:((cs.drop o).take n).length=n:=by
        rw [← vu hl,hbn]
       have hv':=vt hl (ks hc.rel hlen)
       refine ⟨_,rfl,fun K hk=>Fj hs' he hd (l:=l) ?_ hk⟩
       refine ⟨by simpa using hbn,hnc,fun _=>⟨_,_,rfl⟩,(fun h=>nomatch h),fun i v hv => ?_⟩
       rw [jG,hb.cell, ← hv, ← hv']
       rw [List.getElem?_take,List.getElem?_drop,if_pos]
       have:=(List.getElem?_eq_some_iff.1 hv).1
       rw [List.length_map] at this
       omega
      ·cases h
     ·cases h
    ·cases h
   ·cases h
  ·cases h
/-! ## Places. -/
def mvG (x:GV) (d:Nat):Option GV :=
 match x with
 | .val (.one (.p b o))=>some (fH (.p b (o+d)))
 | .val (.one (.g b o))=>some (fH (.g b (o+d)))
 | _=>none
theorem Bb {d:Nat} (h:mvG x d=some r) (hx:x.rel R u):∃ B o,u=.pointer (some ⟨B,o,none⟩)∧r.rel R (.pointer (some ⟨B,o+d,none⟩)):=by
 unfold mvG at h
 split at h
 ·cases h; obtain ⟨L,h1,rfl⟩:=hx; exact ⟨_,_,rfl,L,h1,rfl⟩
 ·cases h; cases hx; exact ⟨_,_,rfl,rfl⟩
 ·cases h
def Ci (P:Program) (t:TypeId) (x:GV) (f:Nat):Option GV:=match Cu P t f with | some off=>mvG x off | none=>none
theorem Ev {f:Nat} (h:Ci P t x f=some r) (hx:x.rel R u):Yld (aa P t u f) R r w:=by
 unfold Ci at h
 split at h
 ·rename_i off hf
  obtain ⟨B,o,rfl,hr⟩:=Bb h hx
  exact ⟨_,hr,fun K hk=>aq hf hk⟩
 ·cases h
theorem jn {e:TypeId} {i:TypeInfo} (hi:P.info? e=some i):∀ w,(sizeOf e).run P w=.ok i.size w:=fun w=>by simp [sizeOf,typeInfo,hi]
def wV:GV→Option (IntKind × Nat)
 | .val (.one (.k (.int k (.ofNat n))))=>some (k,n)
 | _=>none
theorem nu {q:IntKind × Nat} (h:wV x=some q) (hx:x.rel R u):u=.int q.1 (q.2:Int):=by
 unfold wV at h
 split at h
 ·cases h; cases hx; rfl
 ·cases h
def Cj (P:Program) (t:TypeId) (x i:GV):Option GV :=
 match wV i,P.underlying t with
 | some (_,j),some (.array n e)=>match Nat.blt j n,P.info? e with
  | true,some ie=>mvG x (j * ie.size)
  | _,_=>none
 | some (_,j),some (.slice e)=>match x,P.info? e with
  | .val (.one (.s b o _ n _)),some ie=>match Nat.blt j n with
   | true=>some (fH (.p b (o+j * ie.size)))
   | false=>none
  | _,_=>none
 | _,_=>none
theorem Ew {i:GV} (h:Cj P t x i=some r) (hx:x.rel R u) (hi:i.rel R v):Yld (af P t u v) R r w:=by
 unfold Cj at h
 split at h
 ·rename_i k j n e hn ht
  have hv:=nu hn hi
  subst hv
  split at h
  ·rename_i ie hb hie
   obtain ⟨B,o,rfl,hr⟩:=Bb h hx
   have hlt:=ba.1 hb
   exact ⟨_,hr,fun K hk=>aT ht (jn hie) (by simp) (by simpa using hlt) (by simpa using hk)⟩
  ·cases h
 ·rename_i k j e hn ht
  have hv:=nu hn hi
  subst hv
  split at h
  ·rename_i b o lo n c ie hie
   split at h
   ·rename_i hb
    cases h
    obtain ⟨L,hL,_,rfl⟩:=hx
    have hlt:=ba.1 hb
    exact ⟨_,⟨L,hL,rfl⟩,fun K hk=>bJ ht (jn hie) (by simp) (by simpa using hlt) (by simpa using hk)⟩
   ·cases h
  ·cases h
 ·cases h
def Ck:GV→Bool
 | .val (.one (.p ..))=>true
 | .val (.one (.g ..))=>true
 | .val (.one (.f ..))=>true
 | .val (.one (.k (.func (.func _) _ _)))=>true
 | _=>false
theorem Ex (h:Ck x=true) (hx:x.rel R u):Yld (aj u) R x w:=by
 refine ⟨u,hx,fun K hk => ?_⟩
 unfold Ck at h
 split at h
 ·obtain ⟨L,_,rfl⟩:=hx; exact hk
 ·cases hx; exact hk
 ·obtain ⟨xs,ys,_,_,rfl⟩:=hx; exact hk
 ·cases hx; exact hk
 ·cases h
/-! ## Reading. -/
def th (P:Program) (t:TypeId) (cs:List CV) (o:Nat):Option GV :=
 match P.underlying t with
 | some d=>match d.isRow with
  | true=>match P.info? t with
   | some i=>match Nat.beq ((cs.drop o).take i.size).length i.size with | true=>some (.val (.agg ((cs.drop o).take i.size))) | false=>none
   | none=>none
  | false=>match cs[o]? with | some c=>some (fH c) | none=>none
 | none=>none
theorem yc {d:TypeDesc} (hd:P.underlying t=some d) (hr:d.isRow=false):∀ w,(isAgg t).run P w=.ok false w:=fun w=>by
 unfold isAgg
 rw [Sem.run_bind,run_underlying hd w]
 cases d <;> simp_all [TypeDesc.isRow]
theorem ul {cs:List CV} {o B:Nat} {c:List Value} (h:th P t cs o=some r) (hb:∀ o,w.cell? ⟨B,o,none⟩=c[o]?) (hc:All2 (CR R) cs (c.take cs.length)):Yld (ld P t (.pointer (some ⟨B,o,none⟩))) R r w:=by
 unfold th at h
 split at h
 ·rename_i d hd
  split at h
  ·rename_i hr
   split at h
   ·rename_i i hi
    split at h
    ·rename_i hbq
     cases h
     have hlen:=Nat.eq_of_beq_eq_true hbq
     have ha:=ks hc hlen
     refine ⟨_,⟨_,ha,rfl⟩,fun K hk=>pW (run_loadVar_mid w B o t _ d ?_ hd hr (by rw [ha.len,hlen]; simp [hi])) hk⟩
     intro j v hj
     rw [hb]
     rw [List.getElem?_take] at hj
     split at hj
     ·rw [List.getElem?_drop] at hj; exact hj
     ·cases hj
    ·cases h
   ·cases h
  ·rename_i hr
   split at h
   ·rename_i a ha
    cases h
    obtain ⟨v,hv,hav⟩:=hc.get ha
    have hv2:c[o]? = some v:=by
     rw [List.getElem?_take] at hv
     split at hv
     ·exact hv
     ·cases hv
    exact ⟨v,hav.1,fun K hk=>dp (yc hd hr) (by rw [hb,hv2]) hk⟩
   ·cases h
 ·cases h
def ldG (P:Program) (G:Glo) (H:AH) (t:TypeId) (x:GV):Option GV :=
 match x with
 | .val (.one (.p b o))=>match H.get b with
  | some (.cells _ _ _ cs)=>th P t cs o
  | _=>none
 | .val (.one (.g b o))=>match G b with
  | some (_,cs)=>match cs.all (·.oneCell') with | true=>th P t (cs.map .k) o | false=>none
  | none=>none
 | _=>none
theorem Dn (h:ldG P G H t x=some r) (hs:Sim G B0 R H w) (hx:x.rel R u):Yld (ld P t u) R r w:=by
 unfold ldG at h
 split at h
 ·split at h
  ·rename_i e z g cs hg
   obtain ⟨L,hL,rfl⟩:=hx
   obtain ⟨c,hb,hc,_⟩:=hs.cells hg hL
   exact ul h hb.cell hc.rel
  ·cases h
 ·rename_i b o
  split at h
  ·rename_i e cs hg
   split at h
   ·rename_i hall
    cases hx
    exact ul h (hs.glob _ _ _ hg).2.cell (by have:=rO (R:=R) hall; rwa [List.take_of_length_le (by simp)])
   ·cases h
  ·cases h
 ·cases h
def Ey (P:Program) (t:TypeId) (x:GV) (f:Nat):Option GV :=
 match x with
 | .val (.agg cs)=>match vF P t f with
  | some (off,n,true)=>match Nat.beq ((cs.drop off).take n).length n with | true=>some (.val (.agg ((cs.drop off).take n))) | false=>none
  | some (off,_,false)=>match cs[off]? with | some c=>some (fH c) | none=>none
  | none=>none
 | _=>none
theorem GP {f:Nat} (h:Ey P t x f=some r) (hx:x.rel R u):Yld (fld P t u f) R r w:=by
 unfold Ey at h
 split at h
 ·rename_i cs
  obtain ⟨vs,hvs,rfl⟩:=hx
  split at h
  ·rename_i off n hf
   split at h
   ·cases h
    exact ⟨_,⟨_,(hvs.drop off).take n,rfl⟩,fun K hk=>JU hf rfl hk⟩
   ·cases h
  ·rename_i off n hf
   split at h
   ·rename_i a ha
    cases h
    obtain ⟨v,hv,hav⟩:=hvs.get ha
    exact ⟨v,hav.1,fun K hk=>JT hf hv hk⟩
   ·cases h
  ·cases h
 ·cases h
def Ez (x:GV) (i:Nat):Option GV:=match x with | .tup l=>(match l[i]? with | some a=>some (.val a) | none=>none) | _=>none
theorem GQ {i:Nat} (h:Ez x i=some r) (hx:x.rel R u):Yld (ext P u i) R r w:=by
 unfold Ez at h
 split at h
 ·obtain ⟨vs,hvs,rfl⟩:=hx
  split at h
  ·rename_i a ha
   cases h
   obtain ⟨v,hv,hav⟩:=hvs.get ha
   exact ⟨v,hav,fun K hk=>nJ (by simpa using hv) hk⟩
  ·cases h
 ·cases h
def Cm (c x y:GV):Option GV:=match c with | .val (.one (.k (.bool b)))=>(match b with | true=>some x | false=>some y) | _=>none
theorem EA {c:GV} {q:Value} (h:Cm c x y=some r) (hc:c.rel R q) (hx:x.rel R u) (hy:y.rel R v):Yld (pick q u v) R r w:=by
 unfold Cm at h
 split at h
 ·cases hc
  split at h
  ·cases h; exact ⟨u,hx,fun K hk=>⟨true,rfl,hk⟩⟩
  ·cases h; exact ⟨v,hy,fun K hk=>⟨false,rfl,hk⟩⟩
 ·cases h
end
end Go.Proofs.YtgpfkmdknlcemaaGreatDoor
namespace Go.Proofs.YtgpfkmdknlcemaaGreatDoor
set_option maxRecDepth 100000
open Go.RowKit
section
variable {P:Program} {G:Glo} {B0:Nat} {R:Lay} {H:AH} {w:World} {t:TypeId} {x y r:GV} {u v:Value}
/-! ## An element of an array value. -/
def EB (P:Program) (t:TypeId) (x i:GV):Option GV :=
 match toV x,toV i with
 | some u,some v=>(gU P (Instr.index t u v)).map ofV
 | _,_=>match x,wV i,P.underlying t with
  | .val (.agg cs),some (_,j),some (.array n e)=>match Nat.blt j n,P.info? e,P.underlying e with
   | true,some ie,some d=>match d.isRow with
    | true=>match Nat.beq ((cs.drop (j * ie.size)).take ie.size).length ie.size with | true=>some (.val (.agg ((cs.drop (j * ie.size)).take ie.size))) | false=>none
    | false=>match cs[j * ie.size]? with | some c=>some (fH c) | none=>none
   | _,_,_=>none
  | _,_,_=>none
theorem GS {i:GV} (h:EB P t x i=some r) (hx:x.rel R u) (hi:i.rel R v):Yld (idx P t u v) R r w:=by
 unfold EB at h
 split at h
 ·rename_i a b ha hb
  cases hq:gU P (Instr.index t a b) with
  | none=>rw [hq] at h; cases h
  | some q =>
   rw [hq] at h; cases h
   rw [gX ha hx,gX hb hi]
   exact ⟨q,kP,fun K hk=>bF (eQ hq w) hk⟩
 ·split at h
  ·rename_i cs k j n e hn ht hno
   have hv:=nu hn hi
   subst hv
   obtain ⟨vs,hvs,rfl⟩:=hx
   split at h
   ·rename_i ie d hb hie hd
    have hlt:=ba.1 hb
    have h1:(0:Int)≤(j:Int):=by omega
    have h2:((j:Nat):Int) < (n:Int):=by omega
    split at h
    ·rename_i hr
     split at h
     ·rename_i hbq
      cases h
      have ha:∀ w,(isAgg e).run P w=.ok true w:=fun w=>by
       unfold isAgg
       rw [Sem.run_bind,run_underlying hd w]
       cases d <;> simp_all [TypeDesc.isRow]
      refine ⟨_,⟨_,(hvs.drop _).take _,rfl⟩,fun K hk => ?_⟩
      unfold idx
      refine bF (w':=w) ?_ hk
      simp only [Instr.index,asIntOf,Sem.run_bind,Sem.run_pure,Result.andThen_ok,run_underlying ht,h1,h2,and_self,if_true,jn hie,part,ha,Int.toNat_natCast]
      congr 3
      rw [List.extract_toArray]
      simp [List.extract_eq_take_drop]
     ·cases h
    ·rename_i hr
     split at h
     ·rename_i a ha
      cases h
      obtain ⟨v,hv,hav⟩:=hvs.get ha
      refine ⟨v,hav.1,fun K hk => ?_⟩
      unfold idx
      refine bF (w':=w) ?_ hk
      simp only [Instr.index,asIntOf,Sem.run_bind,Sem.run_pure,Result.andThen_ok,run_underlying ht,h1,h2,and_self,if_true,jn hie,part,yc hd hr,Int.toNat_natCast]
      simp [hv]
     ·cases h
   ·cases h
  ·cases h
/-! ## Parts of slices. -/
def zf:Option GV→Option (Option (IntKind × Nat))
 | none=>some none
 | some x=>match wV x with | some q=>some (some q) | none=>none
def zg:Option GV→Option (Option Value)
 | none=>some none
 | some x=>match toV x with | some q=>some (some q) | none=>none
def oN (b o lo n l h z:Nat):Option Nat→Option GV
 | some m=>match Nat.beq m l with
  | true=>some (fH (.s b o 0 (h - l) (some 0)))
  | false=>some (fH (.s b (o+l * z) 0 (h - l) (some (m - l))))
 | none=>match Nat.blt l h,Nat.beq l 0 with
  | true,_=>some (fH (.s b (o+l * z) (lo+l) (h - l) none))
  | false,true=>some (fH (.s b o lo 0 none))
  | false,false=>some (fH (.se b o (o+l * z) lo l))
def ED (P:Program) (t:TypeId) (x:GV) (lo hi mx:Option GV):Option GV :=
 match toV x,zg lo,zg hi,zg mx with
 | some u,some l,some h,some m=>(gU P (Instr.sliceAt t u l h m)).map kG
 | _,_,_,_=>match P.underlying t,zf lo,zf hi,zf mx,x with
  | some (.slice e),some l,some h,some m,.val (.one (.s b o q n c))=>match P.info? e with
   | some ie =>
    let l':=(l.map (·.2)).getD 0
    let h':=(h.map (·.2)).getD n
    match Nat.ble l' h',m,h,c with
    | true,none,none,none=>oN b o q n l' h' ie.size none
    | true,none,some _,none=>match Nat.ble h' n with | true=>oN b o q n l' h' ie.size none | false=>none
    | true,none,none,some C=>oN b o q n l' h' ie.size (some C)
    | true,none,some _,some C=>match Nat.ble h' C with | true=>oN b o q n l' h' ie.size (some C) | false=>none
    | true,some (_,m'),some _,none=>match Nat.ble h' m',Nat.ble m' n with | true,true=>oN b o q n l' h' ie.size (some m') | _,_=>none
    | true,some (_,m'),some _,some C=>match Nat.ble h' m',Nat.ble m' C with | true,true=>oN b o q n l' h' ie.size (some m') | _,_=>none
    | _,_,_,_=>none
   | none=>none
  | some (.slice e),some l,some h,some none,.val (.one (.se b o o' q k))=>match P.info? e,Nat.beq ((l.map (·.2)).getD 0) 0,Nat.beq ((h.map (·.2)).getD 0) 0 with
   | some _,true,true=>some x
   | _,_,_=>none
  | some (.array n e),some l,some h,some m,.val (.one (.p b o))=>match P.info? e with
   | some ie =>
    let l':=(l.map (·.2)).getD 0
    let h':=(h.map (·.2)).getD n
    match Nat.ble l' h',Nat.ble h' n,m with
    | true,true,none=>oN b o 0 n l' h' ie.size (some n)
    | _,_,_=>none
   | none=>none
  | _,_,_,_,_=>none
def lE (R:Lay):Option GV→Option Value→Prop
 | none,none=>True
 | some a,some v=>a.rel R v
 | _,_=>False
def tv (q:IntKind × Nat):Value:=.int q.1 (q.2:Int)
theorem iH {lo:Option GV} {l:Option (IntKind × Nat)} {lv:Option Value} (h:zf lo=some l) (hr:lE R lo lv):lv=l.map tv:=by
 cases lo with
 | none=>cases h; cases lv with | none=>rfl | some _=>exact hr.elim
 | some a =>
  cases lv with
  | none=>exact hr.elim
  | some v =>
   unfold zf at h
   simp only at h
   split at h
   ·rename_i q hq; cases h; rw [nu hq hr]; rfl
   ·cases h
theorem uB {lo:Option GV} {l lv:Option Value} (h:zg lo=some l) (hr:lE R lo lv):lv=l:=by
 cases lo with
 | none=>cases h; cases lv with | none=>rfl | some _=>exact hr.elim
 | some a =>
  cases lv with
  | none=>exact hr.elim
  | some v =>
   unfold zg at h
   simp only at h
   split at h
   ·rename_i q hq; cases h; rw [gX hq hr]
   ·cases h
theorem EE {isS:Bool} {n C:Nat} {l h m:Option (IntKind × Nat)} (hm:(m.map (·.2)).getD C≤C) (hh:((h.map (·.2)).getD n≤(m.map (·.2)).getD C)∨h=none) (hl:(l.map (·.2)).getD 0≤(h.map (·.2)).getD n) (hmh:m≠none→h≠none) :
  ∀ w,(Instr.sliceBounds isS n C (l.map tv) (h.map tv) (m.map tv)).run P w=.ok ((l.map (·.2)).getD 0,(h.map (·.2)).getD n,(m.map (·.2)).getD C) w:=by
 intro w
 have sb:∀ (k:IntKind) (i y:Nat) code,i≤y→(Instr.sliceBound (.int k (i:Int)) y code).run P w=.ok i w:=fun k i y code hi=>by
  have:=run_sliceBound (P:=P) w k (i:Int) y code (by omega) (by omega)
  simpa using this
 cases m with
 | none =>
  cases h with
  | none =>
   cases l with
   | none=>simp [Instr.sliceBounds]
   | some q=>simp at hl; simp [Instr.sliceBounds,tv,sb _ _ _ _ hl]
  | some p =>
   have hh:p.2≤C:=by simpa using hh
   cases l with
   | none=>simp [Instr.sliceBounds,tv,sb _ _ _ _ hh]
   | some q=>simp at hl; simp [Instr.sliceBounds,tv,sb _ _ _ _ hh,sb _ _ _ _ hl]
 | some a =>
  cases h with
  | none=>exact absurd rfl (hmh (by simp))
  | some p =>
   have hh:p.2≤a.2:=by simpa using hh
   have hm:a.2≤C:=by simpa using hm
   cases l with
   | none=>simp [Instr.sliceBounds,tv,sb _ _ _ _ hh,sb _ _ _ _ hm]
   | some q=>simp at hl; simp [Instr.sliceBounds,tv,sb _ _ _ _ hh,sb _ _ _ _ hm,sb _ _ _ _ hl]
theorem Bc {e:TypeId} {ie:TypeInfo} {B o n C l h m:Nat} {lo hi mx:Option Value} {K:KV} (ht:P.underlying t=some (.slice e)) (hie:P.info? e=some ie) (hb:∀ w,(Instr.sliceBounds true n C lo hi mx).run P w=.ok (l,h,m) w)
  (hk:K (.slice (some ⟨B,(if m=l then o else o+l * ie.size),none⟩) (h - l) (m - l)) w):slc P t (.slice (some ⟨B,o,none⟩) n C) lo hi mx K w:=by
 unfold slc
 refine bF (w':=w) ?_ hk
 simp only [Instr.sliceAt,Instr.slice,Sem.run_bind,run_underlying ht,Result.andThen_ok,hb,jn hie,Sem.run_pure]
 split <;> simp [jI]
theorem EF {e:TypeId} {ie:TypeInfo} {B o n l h m:Nat} {lo hi mx:Option Value} {K:KV} (ht:P.underlying t=some (.array n e)) (hie:P.info? e=some ie) (hb:∀ w,(Instr.sliceBounds false n n lo hi mx).run P w=.ok (l,h,m) w)
  (hk:K (.slice (some ⟨B,(if m=l then o else o+l * ie.size),none⟩) (h - l) (m - l)) w):slc P t (.pointer (some ⟨B,o,none⟩)) lo hi mx K w:=by
 unfold slc
 refine bF (w':=w) ?_ hk
 simp only [Instr.sliceAt,Instr.sureAddr,Sem.run_bind,run_underlying ht,Result.andThen_ok,hb,jn hie,Sem.run_pure]
 split <;> simp [jI]
theorem zh {b o lo n l h z:Nat} {mo:Option Nat} {L:Loc} (hc:oN b o lo n l h z mo=some r) (hL:R b=some L) (hlh:l≤h) (hm:h≤mo.getD (L.cap - lo)) :
  r.rel R (.slice (some ⟨L.B,(if mo.getD (L.cap - lo)=l then o else o+l * z),none⟩) (h - l) (mo.getD (L.cap - lo) - l)):=by
 unfold oN at hc
 cases mo with
 | some m =>
  simp only [Option.getD_some] at *
  split at hc
  ·rename_i hb
   cases hc
   have:=Nat.eq_of_beq_eq_true hb
   subst this
   refine ⟨L,hL, ?_, ?_⟩
   ·simp [dJ]; omega
   ·simp [dJ]
  ·rename_i hb
   cases hc
   have:=eb hb
   simp only [Bool.false_eq_true,if_false] at this
   refine ⟨L,hL, ?_, ?_⟩
   ·simp [dJ]; omega
   ·rw [if_neg this]; simp [dJ]
 | none =>
  simp only [Option.getD_none] at *
  split at hc
  ·rename_i hb
   cases hc
   have:=ba.1 hb
   refine ⟨L,hL, ?_, ?_⟩
   ·simp [dJ]; omega
   ·rw [if_neg (by omega)]; simp [dJ]; omega
  ·rename_i hb h0
   cases hc
   have : ¬ l < h:=fun hh=>by rw [ba.2 hh] at hb; cases hb
   have h0:=Nat.eq_of_beq_eq_true h0
   subst h0
   have:h=0:=by omega
   subst this
   refine ⟨L,hL, ?_, ?_⟩
   ·simp
   ·simp [dJ]
  ·rename_i hb h0
   cases hc
   have : ¬ l < h:=fun hh=>by rw [ba.2 hh] at hb; cases hb
   refine ⟨L,hL, ?_⟩
   have:h - l=0:=by omega
   rw [this]
theorem GT {lo hi mx:Option GV} {lv hv mv:Option Value} (h:ED P t x lo hi mx=some r) (hx:x.rel R u)
  (hl:lE R lo lv) (hh:lE R hi hv) (hm:lE R mx mv):Yld (slc P t u lv hv mv) R r w:=by
 unfold ED at h
 split at h
 ·rename_i a l h' m ha el eh em
  cases hq:gU P (Instr.sliceAt t a l h' m) with
  | none=>rw [hq] at h; cases h
  | some q =>
   rw [hq] at h; cases h
   rw [gX ha hx,uB el hl,uB eh hh,uB em hm]
   exact ⟨q,rfl,fun K hk=>bF (eQ hq w) hk⟩
 ·split at h
  ·rename_i e l h' m b o q n c ht el eh em hno
   rw [iH el hl,iH eh hh,iH em hm]
   obtain ⟨L,hL,hnc,rfl⟩:=hx
   split at h
   ·rename_i ie hie
    simp only at h
    have fin:∀ (mo:Option Nat),oN b o q n ((l.map (·.2)).getD 0) ((h'.map (·.2)).getD n) ie.size mo=some r→mo.getD (L.cap - q)=(m.map (·.2)).getD (dJ L q c)→(m.map (·.2)).getD (dJ L q c)≤dJ L q c →
      ((h'.map (·.2)).getD n≤(m.map (·.2)).getD (dJ L q c))→(l.map (·.2)).getD 0≤(h'.map (·.2)).getD n→(m≠none→h'≠none)→Yld (slc P t (.slice (some ⟨L.B,o,none⟩) n (dJ L q c)) (l.map tv) (h'.map tv) (m.map tv)) R r w:=by
     intro mo hc h1 h2 h3 h4 h5
     refine ⟨_,zh hc hL h4 (by rw [h1]; exact h3),fun K hk=>Bc ht hie (EE h2 (.inl h3) h4 h5) ?_⟩
     rw [h1] at hk; exact hk
    split at h
    ·rename_i hle; exact fin _ h (by simp [dJ]) (by simp) (by simpa using hnc) (Nat.le_of_ble_eq_true hle) (fun h=>absurd rfl h)
    ·rename_i hle
     split at h
     ·rename_i hhn; exact fin _ h (by simp [dJ]) (by simp) (Nat.le_trans (Nat.le_of_ble_eq_true hhn) (by simpa using hnc)) (Nat.le_of_ble_eq_true hle) (fun h=>absurd rfl h)
     ·cases h
    ·rename_i hle; exact fin _ h (by simp [dJ]) (by simp) (by simpa using hnc) (Nat.le_of_ble_eq_true hle) (fun h=>absurd rfl h)
    ·rename_i hle
     split at h
     ·rename_i hhn; exact fin _ h (by simp [dJ]) (by simp) (Nat.le_trans (Nat.le_of_ble_eq_true hhn) (by simp [dJ])) (Nat.le_of_ble_eq_true hle) (fun h=>absurd rfl h)
     ·cases h
    ·rename_i hle
     split at h
     ·rename_i h1 h2; exact fin _ h (by simp) (Nat.le_trans (Nat.le_of_ble_eq_true h2) (by simpa using hnc)) (by simpa using Nat.le_of_ble_eq_true h1) (Nat.le_of_ble_eq_true hle) (fun _ h=>by cases h)
     ·cases h
    ·rename_i hle
     split at h
     ·rename_i h1 h2; exact fin _ h (by simp) (Nat.le_trans (Nat.le_of_ble_eq_true h2) (by simp [dJ])) (by simpa using Nat.le_of_ble_eq_true h1) (Nat.le_of_ble_eq_true hle) (fun _ h=>by cases h)
     ·cases h
    ·cases h
   ·cases h
  ·rename_i e l h' b o o' q k ht el eh em hno
   rw [iH el hl,iH eh hh,iH em hm]
   obtain ⟨L,hL,rfl⟩:=hx
   split at h
   ·rename_i ie hie h1 h2
    cases h
    have h1:=Nat.eq_of_beq_eq_true h1
    have h2:=Nat.eq_of_beq_eq_true h2
    refine ⟨_,⟨L,hL,rfl⟩,fun K hk=>Bc ht hie (EE (m:=none) (by simp) (.inl (by rw [h2]; simp)) (by rw [h1]; exact Nat.zero_le _) (fun h=>absurd rfl h)) ?_⟩
    rw [h1,h2]
    simpa using hk
   ·cases h
  ·rename_i n e l h' m b o ht el eh em hno
   rw [iH el hl,iH eh hh,iH em hm]
   obtain ⟨L,hL,rfl⟩:=hx
   split at h
   ·rename_i ie hie
    simp only at h
    split at h
    ·rename_i h1 h2
     have h1:=Nat.le_of_ble_eq_true h1
     have h2:=Nat.le_of_ble_eq_true h2
     have:=zh (R:=R) h hL h1 (by simpa using h2)
     refine ⟨_,this,fun K hk=>EF ht hie (EE (by simp) (.inl (by simpa using h2)) h1 (fun h=>absurd rfl h)) (by simpa using hk)⟩
    ·cases h
   ·cases h
  ·cases h
end
end Go.Proofs.YtgpfkmdknlcemaaGreatDoor
namespace Go.Proofs.YtgpfkmdknlcemaaGreatDoor
set_option maxRecDepth 100000
open Go.RowKit
/-! ## Finding a key. -/
def mM (P:Program) (kt:TypeId) (k:Value):List kj→Nat→Option (Option Nat)
 | [],_=>some none
 | e::r,i=>match gU P (Op.equal kt k e.key) with | some true=>some (some i) | some false=>mM P kt k r (i+1) | none=>none
section
variable {P:Program} {G:Glo} {B0:Nat} {R:Lay} {H:AH} {w:World} {t:TypeId} {x y r:GV} {u v:Value}
theorem AM {d:TypeDesc} {kt:TypeId} {a b:Value} {c:Bool} (hd:P.underlying kt=some d) (h:Instr.sameNow d a b=some c):(Op.equal kt a b).run P w=.ok c w:=by
 unfold Instr.sameNow at h
 split at h
 ·split at h
  ·rename_i hk; cases h; subst hk; exact run_equalIn_int w 9999 kt _ _ _ _ hd
  ·cases h
 ·rename_i x y
  cases h
  have:=run_equalIn_string (P:=P) w 9999 kt x y hd
  rw [← beq_toListBytes x y] at this
  exact this
 ·cases h; exact run_equalIn_bool' w 9999 kt _ _ hd
 ·cases h
def FR (R:Lay) (es:List kj) (i:Nat):Option Nat→Option (Nat × Value)→Prop
 | none,none=>True
 | some j,some (j',v)=>j'=j∧i≤j∧∃ a,es[j - i]? = some a∧a.val.rel R v
 | _,_=>False
theorem FR.succ {a:kj} {es:List kj} {i:Nat} {p:Option Nat} {q:Option (Nat × Value)} (h:FR R es (i+1) p q):FR R (a::es) i p q:=by
 cases p with
 | none=>cases q with | none=>trivial | some _=>exact h.elim
 | some j =>
  cases q with
  | none=>exact h.elim
  | some q =>
   obtain ⟨h1,h2,b,h3,h4⟩:=h
   refine ⟨h1,by omega,b, ?_,h4⟩
   have:j - i=(j - (i+1))+1:=by omega
   rw [this]; exact h3
theorem Ig {d:TypeDesc} {kt:TypeId} {k:Value} (hd:P.underlying kt=some d):∀ {es:List kj} {vs:List MapEntry} {i:Nat} {p:Option Nat} {q:Option (Nat × Value)},
  All2 (EntR R) es vs→mM P kt k es i=some p→Instr.findNow d k vs i=some q→FR R es i p q:=by
 intro es vs i p q hr
 induction hr generalizing i with
 | nil=>intro h1 h2; cases h1; cases h2; trivial
 | @cons a b l m hab _ ih =>
  intro h1 h2
  unfold mM at h1
  unfold Instr.findNow at h2
  cases hs:Instr.sameNow d k b.key with
  | none=>rw [hs] at h2; cases h2
  | some c =>
   have hrun:=AM (w:=default) hd hs
   rw [hab.1] at hrun
   rw [hs] at h2
   cases he:gU P (Op.equal kt k a.key) with
   | none=>rw [he] at h1; cases h1
   | some c' =>
    have:=eQ he default
    rw [hrun] at this
    cases this
    rw [he] at h1
    cases c with
    | true=>cases h1; cases h2; exact ⟨rfl,Nat.le_refl _,a,by simp,hab.2.1⟩
    | false=>exact (ih h1 h2).succ
theorem Ih {kt:TypeId} {k:Value}:∀ {es:List kj} {vs:List MapEntry} {i:Nat} {p:Option Nat},
  All2 (EntR R) es vs→mM P kt k es i=some p→∃ q,(∀ w,(Instr.findAsking kt k vs i).run P w=.ok q w)∧FR R es i p q:=by
 intro es vs i p hr
 induction hr generalizing i with
 | nil=>intro h1; cases h1; exact ⟨none,fun w=>rfl,trivial⟩
 | @cons a b l m hab _ ih =>
  intro h1
  unfold mM at h1
  cases he:gU P (Op.equal kt k a.key) with
  | none=>rw [he] at h1; cases h1
  | some c =>
   have hrun:=fun w=>eQ he w
   rw [he] at h1
   cases c with
   | true =>
    cases h1
    refine ⟨some (i,b.val),fun w => ?_,⟨rfl,Nat.le_refl _,a,by simp,hab.2.1⟩⟩
    simp only [Instr.findAsking,Sem.run_bind,hab.1,hrun,Result.andThen_ok,if_true,Sem.run_pure]
   | false =>
    obtain ⟨q,h2,h3⟩:=ih h1
    refine ⟨q,fun w => ?_,h3.succ⟩
    simp only [Instr.findAsking,Sem.run_bind,hab.1,hrun,Result.andThen_ok,Bool.false_eq_true,if_false,h2]
theorem nk {kt:TypeId} {k:Value} {d:TypeDesc} (hd:P.underlying kt=some d) {es:List kj} {vs:List MapEntry} {p:Option Nat} (hr:All2 (EntR R) es vs) (h:mM P kt k es 0=some p) :
  ∃ q,(∀ w,(Instr.findKey kt k vs).run P w=.ok q w)∧FR R es 0 p q:=by
 cases hn:Instr.findNow d k vs 0 with
 | some q=>exact ⟨q,fun w=>by simp only [Instr.findKey,Sem.run_bind,run_underlying hd,Result.andThen_ok,hn,Sem.run_pure],Ig hd hr h hn⟩
 | none =>
  obtain ⟨q,h1,h2⟩:=Ih hr h
  exact ⟨q,fun w=>by simp only [Instr.findKey,Sem.run_bind,run_underlying hd,Result.andThen_ok,hn,h1],h2⟩
/-! ## Looking up. -/
def Cn (H:AH) (x:GV):Option (List kj) :=
 match x with
 | .val (.one (.m b))=>match H.get b with | some (.map es _)=>some es | _=>none
 | .val (.one (.k (.map none)))=>some []
 | _=>none
def Co (P:Program) (t:TypeId):Option AV :=
 match (P.info? t).bind (·.zero) with
 | some z=>match ofV z with | .val a=>some a | _=>none
 | none=>none
def EG (P:Program) (H:AH) (t:TypeId) (x i:GV) (ok:Bool):Option GV :=
 match P.underlying t,Cn H x,toV i with
 | some (.map kt e),some es,some k=>match P.underlying kt,gU P (Instr.checkKey es.isEmpty 10000 kt k),mM P kt k es 0,Co P e with
  | some _,some (),some (some j),_=>match es[j]? with | some a=>some (match ok with | true => .tup [a.val,.one (.k (.bool true))] | false => .val a.val) | none=>none
  | some _,some (),some none,some z=>some (match ok with | true => .tup [z,.one (.k (.bool false))] | false => .val z)
  | _,_,_,_=>none
 | _,_,_=>none
theorem EH {a:AV} (h:Co P t=some a):∃ z,(∀ w,(zeroValue t).run P w=.ok z w)∧a.rel R z:=by
 unfold Co at h
 cases hi:P.info? t with
 | none=>simp [hi] at h
 | some i =>
  cases hz:i.zero with
  | none=>simp [hi,hz] at h
  | some z =>
   simp only [hi,Option.bind_some,hz] at h
   refine ⟨z,fun w=>by simp [zeroValue,typeInfo,hi,hz], ?_⟩
   have:=kP (R:=R) (v:=z)
   split at h
   ·rename_i q hq; cases h; rw [hq] at this; exact this
   ·cases h
theorem EI {es:List kj} (h:Cn H x=some es) (hs:Sim G B0 R H w) (hx:x.rel R u) :
  (u=.map none∧es=[])∨∃ B vs clock,u=.map (some B)∧All2 (EntR R) es vs∧w.heap[B]? = some (.map vs.toArray clock):=by
 unfold Cn at h
 split at h
 ·rename_i b
  split at h
  ·rename_i es' clock hg
   cases h
   obtain ⟨L,hL,rfl⟩:=hx
   obtain ⟨M,h1,h2,vs,h3,h4⟩:=hs.obj b _ hg rfl
   rw [hL] at h1; cases h1
   exact .inr ⟨_,vs,clock,rfl,h3,h4⟩
  ·cases h
 ·cases h; cases hx; exact .inl ⟨rfl,rfl⟩
 ·cases h
theorem GU {i:GV} {ok:Bool} (h:EG P H t x i ok=some r) (hs:Sim G B0 R H w) (hx:x.rel R u) (hi:i.rel R v):Yld (lkp P t u v ok) R r w:=by
 unfold EG at h
 split at h
 ·rename_i kt e es k ht hm hk
  have hv:=gX hk hi
  subst hv
  obtain ⟨vs,hvs,hu⟩:∃ vs,All2 (EntR R) es vs∧((u=.map none∧vs=[])∨∃ B clock,u=.map (some B)∧w.heap[B]? = some (.map vs.toArray clock)):=by
   rcases EI hm hs hx with ⟨rfl,rfl⟩ | ⟨B,vs,clock,rfl,h1,h2⟩
   ·exact ⟨[],.nil,.inl ⟨rfl,rfl⟩⟩
   ·exact ⟨vs,h1,.inr ⟨B,clock,rfl,h2⟩⟩
  have hemp:vs.toArray.isEmpty=es.isEmpty:=by
   cases hvs with
   | nil=>rfl
   | cons _ _=>simp
  have body:∀ (q:Option (Nat × Value)),(∀ w,(Instr.findKey kt v vs).run P w=.ok q w)→(gU P (Instr.checkKey es.isEmpty 10000 kt v)=some ())→∀ (p:Value × Bool),(match q with | some (_,v)=>p=(v,true) | none=>(∀ w,(zeroValue e).run P w=.ok p.1 w)∧p.2=false) →
    ∀ K:KV,K (if ok then .tuple #[p.1,.bool p.2] else p.1) w→lkp P t u v ok K w:=by
   intro q hq hck p hp K hK
   have hck':(Instr.checkKey vs.toArray.isEmpty 10000 kt v).run P w=.ok () w:=by rw [hemp]; exact eQ hck w
   unfold lkp
   refine bF (w':=w) ?_ hK
   rcases hu with ⟨rfl,rfl⟩ | ⟨B,clock,rfl,hB⟩
   ·unfold Instr.lookup
    simp only [Sem.run_bind,run_underlying ht,Result.andThen_ok,Sem.run_pure,hck',hq]
    cases q with
    | none=>simp only [Sem.run_bind,hp.1,Result.andThen_ok,Sem.run_pure,hp.2]
    | some q=>simp only at hp; subst hp; simp only [Sem.run_bind,Sem.run_pure,Result.andThen_ok]
   ·unfold Instr.lookup
    have hg:(getObj B).run P w=.ok (.map vs.toArray clock) w:=by simp [getObj,Sem.run,hB]
    simp only [Sem.run_bind,run_underlying ht,Result.andThen_ok,Sem.run_pure,hg,hck',hq]
    cases q with
    | none=>simp only [Sem.run_bind,hp.1,Result.andThen_ok,Sem.run_pure,hp.2]
    | some q=>simp only at hp; subst hp; simp only [Sem.run_bind,Sem.run_pure,Result.andThen_ok]
  split at h
  ·rename_i d j _ hd hck hf
   obtain ⟨q,hq,hfr⟩:=nk hd hvs hf
   split at h
   ·rename_i a ha
    cases h
    cases q with
    | none=>exact hfr.elim
    | some q =>
     obtain ⟨h1,_,b,h2,h3⟩:=hfr
     rw [Nat.sub_zero,ha] at h2; cases h2
     cases ok with
     | true=>exact ⟨_,⟨_,.cons h3 (.cons rfl .nil),rfl⟩,body _ hq hck (q.2,true) rfl⟩
     | false=>exact ⟨_,h3,body _ hq hck (q.2,true) rfl⟩
   ·cases h
  ·rename_i d z hd hck hf hz
   obtain ⟨q,hq,hfr⟩:=nk hd hvs hf
   cases h
   cases q with
   | some q=>exact hfr.elim
   | none =>
    obtain ⟨zv,hz1,hz2⟩:=EH (R:=R) hz
    cases ok with
    | true=>exact ⟨_,⟨_,.cons hz2 (.cons rfl .nil),rfl⟩,body _ hq hck (zv,false) ⟨hz1,rfl⟩⟩
    | false=>exact ⟨_,hz2,body _ hq hck (zv,false) ⟨hz1,rfl⟩⟩
  ·cases h
 ·cases h
/-! ## Lengths, and other builtins. -/
def Cq:List GV→Option (List Value)
 | []=>some []
 | a::r=>match toV a,Cq r with | some v,some l=>some (v::l) | _,_=>none
theorem zi:∀ {l:List GV} {q m:List Value},Cq l=some q→All2 (GV.rel R) l m→m=q
 | [],_,_,h,hr=>by cases h; cases hr; rfl
 | a::l,q,m,h,hr=>by
  unfold Cq at h
  split at h
  ·rename_i v q' hv hq
   cases h
   cases hr with
   | cons h1 h2=>rw [gX hv h1,zi hq h2]
  ·cases h
def EJ (P:Program) (H:AH) (b:Builtin) (ats:Array TypeId) (ty:TypeId) (cs:Array Bool) (l:List GV):Option GV :=
 match Cq l with
 | some vs=>match gU P (builtin b ats ty cs vs.toArray) with | some (.value v)=>some (kG v) | _=>none
 | none=>match b,ats.toList,l with
  | .len,[t],[.val (.one (.s _ _ _ n _))]=>match P.underlying t with | some (.slice _)=>some (kG (.int .i64 (n:Int))) | _=>none
  | .len,[t],[.val (.one (.se ..))]=>match P.underlying t with | some (.slice _)=>some (kG (.int .i64 ((0:Nat):Int))) | _=>none
  | .len,[t],[.val (.one (.m b))]=>match P.underlying t,H.get b with | some (.map _ _),some (.map es _)=>some (kG (.int .i64 (es.length:Int))) | _,_=>none
  | _,_,_=>none
theorem GW {b:Builtin} {ats:Array TypeId} {ty:TypeId} {cs:Array Bool} {l:List GV} {m:List Value} (h:EJ P H b ats ty cs l=some r) (hs:Sim G B0 R H w) (hl:All2 (GV.rel R) l m):Yld (blt P b ats ty cs m.toArray) R r w:=by
 unfold EJ at h
 split at h
 ·rename_i vs hvs
  rw [zi hvs hl]
  split at h
  ·rename_i v hv
   cases h
   exact ⟨v,rfl,fun K hk=>gN (eQ hv w) hk⟩
  ·cases h
 ·split at h
  ·rename_i t0 b0 o lo n c hat hno
   split at h
   ·rename_i e ht
    cases h
    cases hl with
    | cons h1 h2 =>
     cases h2
     obtain ⟨L,hL,hnc,rfl⟩:=h1
     have:ats=#[t0]:=by rw [← Array.toArray_toList (xs:=ats),hat]
     subst this
     exact ⟨_,rfl,fun K hk=>aI ht hk⟩
   ·cases h
  ·rename_i t0 b0 o o' lo q hat hno
   split at h
   ·rename_i e ht
    cases h
    cases hl with
    | cons h1 h2 =>
     cases h2
     obtain ⟨L,hL,rfl⟩:=h1
     have:ats=#[t0]:=by rw [← Array.toArray_toList (xs:=ats),hat]
     subst this
     exact ⟨_,rfl,fun K hk=>aI ht hk⟩
   ·cases h
  ·rename_i t0 b0 hat hno
   split at h
   ·rename_i k e es clock ht hg
    cases h
    cases hl with
    | cons h1 h2 =>
     cases h2
     obtain ⟨L,hL,rfl⟩:=h1
     obtain ⟨M,g1,g2,vs,g3,g4⟩:=hs.obj b0 _ hg rfl
     rw [hL] at g1; cases g1
     have:ats=#[t0]:=by rw [← Array.toArray_toList (xs:=ats),hat]
     subst this
     refine ⟨_,rfl,fun K hk=>gN ?_ hk⟩
     have hget:(getObj L.B).run P w=.ok (.map vs.toArray clock) w:=by simp [getObj,Sem.run,g4]
     rw [BigFrame.builtin_len]
     simp [Builtin.len_,run_underlying ht,Sem.run_pure,goInt,hget,g3.len]
   ·cases h
  ·cases h
/-! ## All of them. -/
def wW (E:Tr GV) (n:Nat):Option Operand→Option (Option GV)
 | none=>some none
 | some x=>match evG E n x with | some a=>some (some a) | none=>none
def evL (E:Tr GV) (n:Nat):List Operand→Option (List GV)
 | []=>some []
 | x::r=>match evG E n x,evL E n r with | some a,some l=>some (a::l) | _,_=>none
theorem nv {n:Nat} {E:Tr GV} {e:Env} (he:EnvR R n E e) {x:Option Operand} {a:Option GV} (h:wW E n x=some a):lE R a (x.map (ev e)):=by
 cases x with
 | none=>cases h; trivial
 | some x =>
  unfold wW at h
  simp only at h
  split at h
  ·rename_i q hq; cases h; exact aO he hq
  ·cases h
theorem gJ {n:Nat} {E:Tr GV} {e:Env} (he:EnvR R n E e):∀ {l:List Operand} {m:List GV},evL E n l=some m→All2 (GV.rel R) m (l.map (ev e))
 | [],_,h=>by cases h; exact .nil
 | x::l,m,h=>by
  unfold evL at h
  split at h
  ·rename_i a m' ha hm
   cases h
   exact .cons (aO he ha) (gJ he hm)
  ·cases h
def vv:List GV→Option (List (Nat × Nat))
 | []=>some []
 | .val (.one (.p b o))::r=>match vv r with | some l=>some ((b,o)::l) | none=>none
 | _=>none
theorem rP:∀ {l:List GV} {q:List (Nat × Nat)} {m:List Value},vv l=some q→All2 (GV.rel R) l m→All2 (prel R) q m
 | [],_,_,h,hr=>by cases h; cases hr; exact .nil
 | .val (.one (.p b o))::l,q,m,h,hr=>by
  unfold vv at h
  split at h
  ·rename_i q' hq
   cases h
   cases hr with
   | cons h1 h2=>exact .cons h1 (rP hq h2)
  ·cases h
def fnG (fn:Fn) (x y:List GV):Option GV :=
 match x,y,fn with
 | [],[],fn=>some (kG (.func fn #[] #[]))
 | _,_,.func f=>match vv x,vv y with | some a,some b=>some (fH (.f f a b)) | _,_=>none
 | _,_,_=>none
theorem GX {fn:Fn} {a b:List GV} {aS bs:List Value} (h:fnG fn a b=some r) (ha:All2 (GV.rel R) a aS) (hb:All2 (GV.rel R) b bs):r.rel R (.func fn aS.toArray bs.toArray):=by
 unfold fnG at h
 split at h
 ·cases h; cases ha; cases hb; exact rfl
 ·split at h
  ·rename_i p q hp hq
   cases h
   exact ⟨_,_,rP hp ha,rP hq hb,rfl⟩
  ·cases h
 ·cases h
section
variable {P:Program} {G:Glo} {B0:Nat} {R:Lay} {H H':AH} {w w':World} {t:TypeId} {x y r:GV} {u v:Value}
def zj (H:AH) (x:GV) (hi:Option GV):GV :=
 match hi,x with
 | some _,.val (.one (.s b o lo n none))=>match H.get b with
  | some (.cells _ z true cs)=>match Nat.blt n (Nat.sub (Nat.div cs.length z) lo) with | true => .val (.one (.s b o lo (Nat.sub (Nat.div cs.length z) lo) none)) | false=>x
  | _=>x
 | _,_=>x
theorem GY {a:Option Addr} {n m c:Nat} {lo mx:Option Value} {h:Value} {K:KV} (k:slc P t (.slice a n c) lo (some h) mx K w):slc P t (.slice a m c) lo (some h) mx K w:=by
 unfold slc at *
 have e:(Instr.sliceAt t (.slice a n c) lo (some h) mx)=(Instr.sliceAt t (.slice a m c) lo (some h) mx):=by
  have hb:∀ b,Instr.sliceBounds b n c lo (some h) mx=Instr.sliceBounds b m c lo (some h) mx:=fun b=>by cases mx <;> rfl
  have e2:Instr.slice t (.slice a n c) lo (some h) mx=Instr.slice t (.slice a m c) lo (some h) mx:=by
   unfold Instr.slice
   congr 1
   funext d
   cases d <;> first | rfl | (dsimp only; rw [hb true])
  unfold Instr.sliceAt
  congr 1
  funext d
  cases d <;> first | exact e2 | rfl
 rw [← e]; exact k
theorem Ii (hs:Sim G B0 R H w) (hx:x.rel R u) (hi:Option GV) {hv:Option Value} (hr:lE R hi hv):∃ u',(zj H x hi).rel R u'∧∀ lo mx (K:KV),slc P t u' lo hv mx K w→slc P t u lo hv mx K w:=by
 have same:zj H x hi=x→∃ u',(zj H x hi).rel R u'∧∀ lo mx (K:KV),slc P t u' lo hv mx K w→slc P t u lo hv mx K w:=fun e=>⟨u,by rw [e]; exact hx,fun _ _ _ h=>h⟩
 unfold zj at *
 split
 ·rename_i a b o lo n
  split
  ·rename_i e z cs hg
   split
   ·rename_i hb
    obtain ⟨L,hL,hn,rfl⟩:=hx
    obtain ⟨c,_,hc,_⟩:=hs.cells hg hL
    obtain ⟨hz,hm,hcl⟩:=hc.room rfl
    have hle:=hc.le
    have hdiv:cs.length / z≤L.cap:=Nat.div_le_of_le_mul (by rw [hcl] at hle; rw [Nat.mul_comm]; exact hle)
    cases hv with
    | none=>exact hr.elim
    | some h =>
     refine ⟨.slice (some ⟨L.B,o,none⟩) (cs.length / z - lo) (dJ L lo none),⟨L,hL, ?_,rfl⟩,fun lo' mx K k=>GY k⟩
     show cs.length / z - lo≤L.cap - lo
     omega
   ·exact ⟨u,hx,fun _ _ _ h=>h⟩
  ·exact ⟨u,hx,fun _ _ _ h=>h⟩
 ·exact ⟨u,hx,fun _ _ _ h=>h⟩
end
def rOp (P:Program) (G:Glo) (H:AH) (E:Tr GV) (n:Nat) (o:Oper):Option GV :=
 match o.op with
 | .move x=>evG E n x
 | .assign x=>evG E n x
 | .load t a=>match evG E n a with | some a=>ldG P G H t a | none=>none
 | .fieldAddr t x f=>match evG E n x with | some x=>Ci P t x f | none=>none
 | .indexAddr t x i=>match evG E n x,evG E n i with | some x,some i=>Cj P t x i | _,_=>none
 | .binOp op t x y _=>match evG E n x,evG E n y with | some a,some b=>Et P op t (isC x) (isC y) a b | _,_=>none
 | .nilCheck x=>match evG E n x with | some x=>(match Ck x with | true=>some x | false=>none) | none=>none
 | .pick c a b=>match evG E n c,evG E n a,evG E n b with | some c,some a,some b=>Cm c a b | _,_,_=>none
 | .extract t i=>match evG E n t with | some x=>Ez x i | none=>none
 | .unOp op _ x=>match evG E n x with | some x=>unG P op x | none=>none
 | .convert s d x=>match evG E n x with | some x=>Ch P H s d x | none=>none
 | .field t x f=>match evG E n x with | some x=>Ey P t x f | none=>none
 | .index t x i=>match evG E n x,evG E n i with | some x,some i=>EB P t x i | _,_=>none
 | .slice t x lo hi mx=>match evG E n x,wW E n lo,wW E n hi,wW E n mx with | some x,some l,some h,some m=>ED P t (zj H x h) l h m | _,_,_,_=>none
 | .lookup t x i ok=>match evG E n x,evG E n i with | some x,some i=>EG P H t x i ok | _,_=>none
 | .makeFunc fn a b=>match evL E n a.toList,evL E n b.toList with | some a,some b=>fnG fn a b | _,_=>none
 | .call c=>match c.callee with
  | .builtin b=>match evL E n c.args.toList with | some l=>EJ P H b c.argTypes o.type (c.args.toList.map isC).toArray l | none=>none
  | _=>none
 | _=>none
theorem ti {n:Nat} {E:Tr GV} {e:Env} {o:Oper} (h:rOp P G H E n o=some r) (he:EnvR R n E e) (hs:Sim G B0 R H w):Yld (fun K w=>cOp P (ev e) o K w) R r w:=by
 obtain ⟨dst,op,ty,pos,after,guard⟩:=o
 unfold rOp at h
 cases op with
 | move x=>exact ⟨_,aO he h,fun K hk=>hk⟩
 | assign x=>exact ⟨_,aO he h,fun K hk=>hk⟩
 | load t a =>
  simp only at h
  split at h
  ·rename_i a ha; exact Dn h hs (aO he ha)
  ·cases h
 | fieldAddr t x f =>
  simp only at h
  split at h
  ·rename_i a ha; exact Ev h (aO he ha)
  ·cases h
 | indexAddr t x i =>
  simp only at h
  split at h
  ·rename_i a b ha hb; exact Ew h (aO he ha) (aO he hb)
  ·cases h
 | binOp op t x y yt =>
  simp only at h
  split at h
  ·rename_i a b ha hb; exact B7 h (aO he ha) (aO he hb)
  ·cases h
 | nilCheck x =>
  simp only at h
  split at h
  ·rename_i a ha
   split at h
   ·rename_i hc; cases h; exact Ex hc (aO he ha)
   ·cases h
  ·cases h
 | pick c x y =>
  simp only at h
  split at h
  ·rename_i a b c ha hb hc; exact EA h (aO he ha) (aO he hb) (aO he hc)
  ·cases h
 | extract t i =>
  simp only at h
  split at h
  ·rename_i a ha; exact GQ h (aO he ha)
  ·cases h
 | unOp op t x =>
  simp only at h
  split at h
  ·rename_i a ha; exact If h (aO he ha)
  ·cases h
 | convert s d x =>
  simp only at h
  split at h
  ·rename_i a ha; exact Eu h hs (aO he ha)
  ·cases h
 | field t x f =>
  simp only at h
  split at h
  ·rename_i a ha; exact GP h (aO he ha)
  ·cases h
 | index t x i =>
  simp only at h
  split at h
  ·rename_i a b ha hb; exact GS h (aO he ha) (aO he hb)
  ·cases h
 | slice t x lo hi mx =>
  simp only at h
  split at h
  ·rename_i a b c d ha hb hc hd
   obtain ⟨u',hu,hk⟩:=Ii (P:=P) (t:=t) hs (aO he ha) c (nv he hc)
   obtain ⟨v,h1,h2⟩:=GT h hu (nv he hb) (nv he hc) (nv he hd)
   exact ⟨v,h1,fun K k=>hk _ _ K (h2 K k)⟩
  ·cases h
 | lookup t x i ok =>
  simp only at h
  split at h
  ·rename_i a b ha hb; exact GU h hs (aO he ha) (aO he hb)
  ·cases h
 | makeFunc fn a b =>
  simp only at h
  split at h
  ·rename_i a b ha hb; exact ⟨_,GX h (gJ he ha) (gJ he hb),fun K hk=>hk⟩
  ·cases h
 | call c =>
  obtain ⟨cal,args,ats⟩:=c
  cases cal with
  | builtin b =>
   simp only at h
   split at h
   ·rename_i l hl
    exact GW h hs (gJ he hl)
   ·cases h
  | _=>cases h
 | _=>cases h
end
end Go.Proofs.YtgpfkmdknlcemaaGreatDoor
