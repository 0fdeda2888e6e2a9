import Derived.Test.YtgohpbmmcgenpaaGreatDoorQ16
import Derived.Test.YtgohpbmmcgenpaaGreatDoorAgaF
import Derived.Test.YtgohpbmmcgenpaaGreatDoorTie
import Derived.Test.YtgohpbmmcgenpaaGreatDoorCards
import Derived.SevenTiedAt
import Derived.WalkKit
import Derived.ProofKit
import Derived.OpenShut
import Derived.ShutString
import Derived.ChangeOld
import Derived.Below
import Derived.JoinedCond
import Derived.Deep.Matrix
import Derived.LaidMore
import Derived.Stop.Joined
namespace Go.Proofs.YtgohpbmmcgenpaaGreatDoor
set_option maxRecDepth 100000
set_option linter.defProp false
open Go.ChangeShapes Go.WideShapes Go.ChangeAt Go.RowKit
def nO:List (String × DataW Unit):=[("leat/ledger.kinds",Rows.laid_leat_ledger_kinds),("leat/cluster.doings",Rows.laid_leat_cluster_doings)]
set_option maxRecDepth 100000 in
theorem KQ (H:Type)(enc:TypeId×oF->H)(W:oG)(base:Nat)(b:Array oF)(ds gs:List (DataW H))(d:List MemPlace)(c:∀(j:Nat) t v,Tryz.f3.params[j]? = some t->b[j]? = some v->Value.okWide Q W .any base t v)(hW:DataW.Whole enc Q Tryz.f3.params.toList Rows.clusterAgainSpec.vars false W b.toList ds gs d)(hL:laidMetH Q nO W):Calls Q 3 b W λe W' => ∃v,e=.returned v/\Rows.clusterAgainSpec.post enc Q Tryz.f3 false true false false W b v W':=by
 have a:=c;have L:=hW;obtain⟨p,q,r,hV,rfl,ah,ai⟩:=hW;have hA:DataW.TrodAll enc Q W 0 (λ_=>true) true Tryz.f3.params.toList b.toList ds p:=r;rw[Tryz.params3]at hA a;obtain⟨v0,aj,d0,aa,p0,q0,M,rfl,rfl,h0,r0⟩:=trodAll_cons hA;obtain⟨v1,ak,d1,ab,p1,q1,rfl,rfl,rfl,h1,r1⟩:=trodAll_cons r0;obtain⟨v2,al,d2,ac,p2,q2,rfl,rfl,rfl,h2,r2⟩:=trodAll_cons r1
 obtain⟨v3,am,d3,ad,p3,q3,rfl,rfl,rfl,h3,r3⟩:=trodAll_cons r2;obtain⟨v4,an,d4,ae,p4,q4,rfl,rfl,rfl,h4,r4⟩:=trodAll_cons r3;obtain⟨v5,ao,d5,af,p5,q5,rfl,rfl,rfl,h5,r5⟩:=trodAll_cons r4;obtain⟨v6,ap,d6,ag,p6,q6,rfl,rfl,rfl,h6,r6⟩:=trodAll_cons r5;obtain⟨rfl,rfl,rfl⟩:=trodAll_nil r6;obtain rfl:b=#[v0,v1,v2,v3,v4,v5,v6]:=by cases b;simp_all
 obtain⟨rfl,rfl⟩:=trodVars_none hV;obtain⟨A,rfl,rfl,rfl,w0⟩:=open_int Tryz.underlying5 (a 0 5 v0 rfl rfl) h0;have P:0<=A/\A<=255:=by simpa[Lit.wf,IntKind.min,IntKind.max,IntKind.signed,IntKind.bits]using w0
 have k1:=h1;have V:∀x∈p1,x.block<W.heap.size:=by obtain⟨m,O⟩:=k1;exact DataW.trod_lt m _ _ _ O
 obtain⟨I,F,k,rfl⟩:=okWide_slice Tryz.underlying22 (a 1 22 v1 rfl rfl);obtain⟨⟨l1,Z⟩,u,y⟩:(∃l,S24R W I F k l)/\F<=k/\k<=9223372036854775807:=by
  obtain⟨o,N⟩:=h1;exact ZC rfl N
 obtain⟨B,rfl,rfl,rfl,w2⟩:=open_int Tryz.underlying5 (a 2 5 v2 rfl rfl) h2;have R:0<=B/\B<=255:=by simpa[Lit.wf,IntKind.min,IntKind.max,IntKind.signed,IntKind.bits]using w2
 obtain⟨C,rfl,rfl,rfl,w3⟩:=open_int Tryz.underlying5 (a 3 5 v3 rfl rfl) h3;have S:0<=C/\C<=255:=by simpa[Lit.wf,IntKind.min,IntKind.max,IntKind.signed,IntKind.bits]using w3
 obtain⟨D,rfl,rfl,rfl,w4⟩:=open_int Tryz.underlying23 (a 4 23 v4 rfl rfl) h4;have T:0<=D/\D<=65535:=by simpa[Lit.wf,IntKind.min,IntKind.max,IntKind.signed,IntKind.bits]using w4
 obtain⟨E,rfl,rfl,rfl,w5⟩:=open_int Tryz.underlying5 (a 5 5 v5 rfl rfl) h5;have U:0<=E/\E<=255:=by simpa[Lit.wf,IntKind.min,IntKind.max,IntKind.signed,IntKind.bits]using w5
 have k6:=h6;have X:∀x∈p6,x.block<W.heap.size:=by obtain⟨m,O⟩:=k6;exact DataW.trod_lt m _ _ _ O
 obtain⟨J,G,n,rfl⟩:=okWide_slice Tryz.underlying24 (a 6 24 v6 rfl rfl);obtain⟨⟨l6,Y⟩,w,z⟩:(∃l,RIn W J G n l)/\G<=n/\n<=9223372036854775807:=by
  obtain⟨o,N⟩:=h6;exact Uy rfl N
 clear r c a;have hg:∀g e cs,rlG g=some (e,cs)->gbk W g cs:=by
  intro g e cs h;unfold rlG at h;split at h
  .rename_i s;rw[Nat.eq_of_beq_eq_true s];cases h;exact zcj hL (by simp[nO])
  split at h
  .rename_i s;rw[Nat.eq_of_beq_eq_true s];cases h;exact zaV hL (by simp[nO])
  .cases h
 have f:Calls Q 3 #[.int .u8 A,.slice I F k,.int .u8 B,.int .u8 C,.int .u16 D,.int .u8 E,.slice J G n] W λe w' => e=.returned (.bool true)/\Below W.heap.size W w':=by
  have h:=Rq A P I F k l1 Z u y B R C S D T E U J G n l6 Y w z (W:=W) (K:=λv a => v=.bool true/\Below W.heap.size W a) hg (λa s=>⟨rfl,s⟩);refine Calls.mono h.2 ?_;rintro e w' ⟨v,rfl,rfl,hr⟩;exact⟨rfl,hr⟩
 refine f.mono λe W' ⟨he,i⟩=>?_;subst he
 exact⟨_,rfl,_,_,_,[],_,[],L,trodAll_mk1 (shut_bool Tryz.underlying4 _),(trodAll_cons_mk (shut_int Tryz.underlying5 w0) (trodAll_cons_mk (Below.trod Rk kr (of_decide_eq_true kr) k1 i V) (trodAll_cons_mk (shut_int Tryz.underlying5 w2) (trodAll_cons_mk (shut_int Tryz.underlying5 w3) (trodAll_cons_mk (shut_int Tryz.underlying23 w4) (trodAll_cons_mk (shut_int Tryz.underlying5 w5) (trodAll_cons_mk (Below.trod Rk kr (of_decide_eq_true kr) k6 i X) trodAll_mk0))))))),rfl,i.frame _,λh=>by cases h⟩
def Qw(b:Os)(a:Array oF):laidMetH Q nO ((World.doorLaid Q 600 b).forCall (λ_ _=>0) ⟨#[],a,[]⟩).memory :=
 laidMetH_of_parts3 (fuel:=8) (laidMet_of_run' 8 kr kr) kr kr
set_option maxRecDepth 100000 in
theorem NK (os:Os)(b:os.Started)(H:Type)(enc:TypeId×oF->H):ReturnsInHanded {} Tryz.checked os 3 .any (λw a=>(Rows.clusterAgainSpec.pre enc Q Tryz.f3 [] false w a/\laidMetH Q nO w)/\sizedMet enc Q Tryz.f3 (OpenSpec.ofChange Rows.clusterAgainSpec) false w a)
   (Rows.clusterAgainSpec.post enc Q Tryz.f3 false true false false):=by
 refine returnsInHanded_of_change_and (C:=Tryz.checked) (X:=λw _=>laidMetH Q nO w) (λ_ _ _ k h=>h.of_heap k) zaX b kr Tryz.func3
  (ChangeSpec.witness_shaped (enc:=enc) (C:=Tryz.checked) (os:=os) (X:=λw _=>laidMetH Q nO w) false (World.doorLaid Q 600 os) #[.int .u8 0,.slice none 0 0,.int .u8 0,.int .u8 0,.int .u16 0,.int .u8 0,.slice none 0 0] 8 rfl (World.shaped_of_RefB kr kr) kr kr kr (Qw os _)) ?_
 intro W d a f g c e j _ _ i _;exact KQ H enc W d a f g c e j i
def Rr:Rows.ClusterAgainSaid :=
 OpenClaim.holds_of_wide 3 Tryz.f3 rfl rfl rfl rfl rfl rfl rfl ⟨rfl,rfl,rfl,rfl,rfl⟩ rfl rfl rfl rfl rfl kr Tryz.func3 NJ
  (of_decide_eq_true kr) (by unfold Func.isWrapper;first|(rw[oJ (by decide +kernel)];kernel_rfl)|(rw[oI (by decide +kernel)];exact⟨rfl,rfl⟩))
  (λc a H b _=>NK c a H b)
theorem clusterAgain_proved:Rows.ClusterAgainCardSaid :=
 Claim7.holds_tied_plain_at .later [] [.funcs,.funcs] true (true, "ae38bfb905781acf0bba12a4823ee59d26b1aae54b72c4b72d07d60f0a12b27e") false
  Rr (fun _ h=>by cases h) kr (fun _ h=>by cases h) clusterAgain_row_tie rfl ⟨rfl,rfl⟩ kr rfl
  (fun f d e b=>by
   obtain rfl:f=3:=Option.some.inj ((show Tryz.prog.funcNamed "leat/leatlaw24.ClusterAgain" = some 3 by kernel_rfl).symm.trans e) |>.symm;obtain rfl:d=Tryz.f3:=(Option.some.inj (Tryz.func3.symm.trans b)).symm;exact ⟨by kernel_rfl,fun j t c=>by
    rw [Tryz.params3] at c;have g:t ∈ [5,22,5,5,23,5,24]:=by simpa using Array.mem_of_getElem? c
    have a:([5,22,5,5,23,5,24].all fun u => !Tryz.prog.wantsStandIn u)=true:=by kernel_rfl
    exact (show Tryz.prog.wantsStandIn t=false by simpa using List.all_eq_true.1 a t g)⟩)
  Qx
end Go.Proofs.YtgohpbmmcgenpaaGreatDoor
