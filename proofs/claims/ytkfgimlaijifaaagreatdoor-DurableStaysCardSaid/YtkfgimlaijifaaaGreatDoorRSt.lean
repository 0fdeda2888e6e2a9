import Derived.Test.YtkfgimlaijifaaaGreatDoorQ15
import Derived.Test.YtkfgimlaijifaaaGreatDoorRStF
import Derived.Test.YtkfgimlaijifaaaGreatDoorTie
import Derived.Test.YtkfgimlaijifaaaGreatDoorCards
import Derived.SevenTiedAt
import Derived.WalkKit
import Derived.ProofKit
import Derived.OpenShut
import Derived.ShutString
import Derived.ChangeOld
import Derived.Below
import Derived.JoinedCond
import Derived.Deep.Matrix
import Derived.LaidMore
import Derived.Stop.Joined
namespace Go.Proofs.YtkfgimlaijifaaaGreatDoor
set_option maxRecDepth 100000
open Go.ChangeShapes Go.WideShapes Go.ChangeAt Go.RowKit
def oe:List (String × DataW Unit):=[("leat/ledger.kinds",Rows.laid_leat_ledger_kinds)]
set_option maxRecDepth 100000 in
theorem HC (H:Type)(enc:TypeId×Value→H)(W:World)(base:Nat)(args:Array Value)(ds gs:List (DataW H))(I:List MemPlace)(C:∀(j:Nat) t v,Tryz.f3.params[j]? = some t→args[j]? = some v→Value.okWide Q W .any base t v)(hW:DataW.Whole enc Q Tryz.f3.params.toList Rows.durableStaysSpec.vars false W args.toList ds gs I)(hL:laidMetH Q oe W):Calls Q 3 args W fun e W' => ∃v,e=.returned v∧Rows.durableStaysSpec.post enc Q Tryz.f3 false true false false W args v W':=by
 have u:=C;have al:=hW;obtain⟨p,q,Z,hV,rfl,a8,a9⟩:=hW;have hA:DataW.TrodAll enc Q W 0 (fun _=>true) true Tryz.f3.params.toList args.toList ds p:=Z;rw[Tryz.params3]at hA u;obtain⟨v0,bb,d0,a4,p0,q0,am,rfl,rfl,h0,r0⟩:=trodAll_cons hA;obtain⟨v1,bd,d1,a5,p1,q1,rfl,rfl,rfl,h1,r1⟩:=trodAll_cons r0;obtain⟨v2,be,d2,a6,p2,q2,rfl,rfl,rfl,h2,r2⟩:=trodAll_cons r1
 obtain⟨v3,bi,d3,a7,p3,q3,rfl,rfl,rfl,h3,r3⟩:=trodAll_cons r2;obtain⟨rfl,rfl,rfl⟩:=trodAll_nil r3;obtain rfl:args=#[v0,v1,v2,v3]:=by cases args;simp_all
 obtain⟨rfl,rfl⟩:=trodVars_none hV;obtain⟨a0,rfl,rfl,rfl,w0⟩:=open_int Tryz.underlying5 (u 0 5 v0 rfl rfl) h0;have an:0≤a0∧a0≤255:=by simpa[Lit.wf,IntKind.min,IntKind.max,IntKind.signed,IntKind.bits]using w0
 have k1:=h1;have ar:∀x∈p1,x.block<W.heap.size:=by obtain⟨m,hm⟩:=k1;exact DataW.trod_lt m _ _ _ hm
 obtain⟨a1,n1,O,rfl⟩:=okWide_slice Tryz.underlying22 (u 1 22 v1 rfl rfl);obtain⟨⟨l1,az⟩,aa,af⟩:(∃l,AR W a1 n1 O l)∧n1≤O∧O≤9223372036854775807:=by
  obtain⟨fuel,hf⟩:=h1;exact Wi rfl hf
 obtain⟨a2,rfl,rfl,rfl,w2⟩:=open_int Tryz.underlying5 (u 2 5 v2 rfl rfl) h2;have ap:0≤a2∧a2≤255:=by simpa[Lit.wf,IntKind.min,IntKind.max,IntKind.signed,IntKind.bits]using w2
 have k3:=h3;have av:∀x∈p3,x.block<W.heap.size:=by obtain⟨m,hm⟩:=k3;exact DataW.trod_lt m _ _ _ hm
 obtain⟨a3,n3,U,rfl⟩:=okWide_slice Tryz.underlying23 (u 3 23 v3 rfl rfl);obtain⟨⟨l3,aS⟩,ad,ag⟩:(∃l,RIn W a3 n3 U l)∧n3≤U∧U≤9223372036854775807:=by
  obtain⟨fuel,hf⟩:=h3;exact WR rfl hf
 clear Z C u;have hg:∀g e cs,rlG g=some (e,cs)→gbk W g cs:=by
  intro g e cs h;unfold rlG at h;split at h
  ·rename_i hb;rw[Nat.eq_of_beq_eq_true hb];cases h;exact XO hL (by simp[oe])
  ·cases h
 have J:Calls Q 3 #[.int .u8 a0,.slice a1 n1 O,.int .u8 a2,.slice a3 n3 U] W fun e w' => e=.returned (.bool true)∧Below W.heap.size W w':=by
  have h:=NI a0 an a1 n1 O l1 az aa af a2 ap a3 n3 U l3 aS ad ag (W:=W) (K:=fun v w' => v=.bool true∧Below W.heap.size W w') hg (fun w' hb=>⟨rfl,hb⟩);refine Calls.mono h.2 ?_;rintro e w' ⟨v,rfl,rfl,hr⟩;exact⟨rfl,hr⟩
 refine J.mono fun e W' ⟨he,M⟩=>?_;subst he
 exact⟨_,rfl,_,_,_,[],_,[],al,trodAll_mk1 (shut_bool Tryz.underlying4 _),(trodAll_cons_mk (shut_int Tryz.underlying5 w0) (trodAll_cons_mk (Below.trod Nt kr (of_decide_eq_true kr) k1 M ar) (trodAll_cons_mk (shut_int Tryz.underlying5 w2) (trodAll_cons_mk (Below.trod Nt kr (of_decide_eq_true kr) k3 M av) trodAll_mk0)))),rfl,M.frame _,fun h=>by cases h⟩
theorem MP (os:Os)(args:Array Value):laidMetH Q oe ((World.doorLaid Q 600 os).forCall (fun _ _=>0) ⟨#[],args,[]⟩).memory :=
 laidMetH_of_parts3 (fuel:=8) (laidMet_of_run' 8 kr kr) kr kr
set_option maxRecDepth 100000 in
theorem Ka (os:Os)(j:os.Started)(H:Type)(enc:TypeId×Value→H):ReturnsInHanded {} Tryz.checked os 3 .any (fun w args=>(Rows.durableStaysSpec.pre enc Q Tryz.f3 [] false w args∧laidMetH Q oe w)∧sizedMet enc Q Tryz.f3 (OpenSpec.ofChange Rows.durableStaysSpec) false w args)
   (Rows.durableStaysSpec.post enc Q Tryz.f3 false true false false):=by
 refine returnsInHanded_of_change_and (C:=Tryz.checked) (X:=fun w _=>laidMetH Q oe w) (fun _ _ _ O h=>h.of_heap O) Wu j kr Tryz.func3
  (ChangeSpec.witness_shaped (enc:=enc) (C:=Tryz.checked) (os:=os) (X:=fun w _=>laidMetH Q oe w) false (World.doorLaid Q 600 os) #[.int .u8 0,.slice none 0 0,.int .u8 0,.slice none 0 0] 8 rfl (World.shaped_of_RefB kr kr) kr kr kr (MP os _)) ?_
 intro W base args ds J u I M _ _ hL _;exact HC H enc W base args ds J u I M hL
theorem NJ :Rows.DurableStaysSaid :=
 OpenClaim.holds_of_wide 3 Tryz.f3 rfl rfl rfl rfl rfl rfl rfl ⟨rfl,rfl,rfl,rfl,rfl⟩ rfl rfl rfl rfl rfl kr Tryz.func3 K8
  (of_decide_eq_true kr) (by unfold Func.isWrapper;first|(rw[if_pos (by decide +kernel)];kernel_rfl)|(rw[if_neg (by decide +kernel)];exact⟨rfl,rfl⟩))
  (fun os h H enc _=>Ka os h H enc)
theorem durableStays_proved:Rows.DurableStaysCardSaid :=
 Claim7.holds_tied_plain_at .later [] [.funcs] true (true, "81bd9afab0d507523dad24a6500cd8400044fb39742f91b62d05f8a6aba5cae1") false
  NJ (fun _ h=>by cases h) kr (fun _ h=>by cases h) durableStays_row_tie rfl ⟨rfl,rfl⟩ kr rfl
  (fun f M O I=>by
   obtain rfl:f=3:=Option.some.inj ((show Tryz.prog.funcNamed "leat/leatlaw22.DurableStays" = some 3 by kernel_rfl).symm.trans O) |>.symm;obtain rfl:M=Tryz.f3:=(Option.some.inj (Tryz.func3.symm.trans I)).symm;exact ⟨by kernel_rfl,fun j t J=>by
    rw [Tryz.params3] at J;have U:t ∈ [5,22,5,23]:=by simpa using Array.mem_of_getElem? J
    have C:([5,22,5,23].all fun u => !Tryz.prog.wantsStandIn u)=true:=by kernel_rfl
    exact (show Tryz.prog.wantsStandIn t=false by simpa using List.all_eq_true.1 C t U)⟩)
  MQ
end Go.Proofs.YtkfgimlaijifaaaGreatDoor
