import Derived.Test.YtkbhfjljieopoaaGreatDoorQ15
import Derived.Test.YtkbhfjljieopoaaGreatDoorQ8
import Derived.Test.YtkbhfjljieopoaaGreatDoorRLnF
import Derived.Test.YtkbhfjljieopoaaGreatDoorTie
import Derived.Test.YtkbhfjljieopoaaGreatDoorCards
import Derived.SevenTiedAt
import Derived.WalkKit
import Derived.ProofKit
import Derived.OpenShut
import Derived.ShutString
import Derived.ChangeOld
import Derived.Below
import Derived.JoinedCond
import Derived.Deep.Matrix
import Derived.LaidMore
import Derived.Stop.Joined
namespace Go.Proofs.YtkbhfjljieopoaaGreatDoor
set_option maxRecDepth 100000
open Go.ChangeShapes Go.WideShapes Go.ChangeAt Go.RowKit
def mN:List (String × DataW Unit):=[("leat/ledger.kinds",Rows.laid_leat_ledger_kinds)]
set_option maxRecDepth 100000 in
theorem BZ (H:Type)(enc:TypeId×Value→H)(W:World)(base:Nat)(args:Array Value)(ds gs:List (DataW H))(I:List MemPlace)(u:∀(j:Nat) t v,Tryz.f4.params[j]? = some t→args[j]? = some v→Value.okWide Tryz.prog W .any base t v)(hW:DataW.Whole enc Tryz.prog Tryz.f4.params.toList Rows.replicaLearnsSpec.vars false W args.toList ds gs I)(hL:laidMetH Tryz.prog mN W):Calls Tryz.prog 4 args W fun e W' => ∃v,e=.returned v∧Rows.replicaLearnsSpec.post enc Tryz.prog Tryz.f4 false true false false W args v W':=by
 have d:=u;have am:=hW;obtain⟨p,q,X,hV,rfl,a7,a8⟩:=hW;have hA:DataW.TrodAll enc Tryz.prog W 0 (fun _=>true) true Tryz.f4.params.toList args.toList ds p:=X;rw[Tryz.params4]at hA d;obtain⟨v0,a9,d0,a3,p0,q0,an,rfl,rfl,h0,r0⟩:=trodAll_cons hA;obtain⟨v1,bb,d1,a4,p1,q1,rfl,rfl,rfl,h1,r1⟩:=trodAll_cons r0;obtain⟨v2,bd,d2,a6,p2,q2,rfl,rfl,rfl,h2,r2⟩:=trodAll_cons r1
 obtain⟨rfl,rfl,rfl⟩:=trodAll_nil r2;obtain rfl:args=#[v0,v1,v2]:=by cases args;simp_all
 obtain⟨rfl,rfl⟩:=trodVars_none hV;obtain⟨a0,rfl,rfl,rfl,w0⟩:=open_int Tryz.underlying5 (d 0 5 v0 rfl rfl) h0;have ap:0≤a0∧a0≤255:=by simpa[Lit.wf,IntKind.min,IntKind.max,IntKind.signed,IntKind.bits]using w0
 have k1:=h1;have ar:∀x∈p1,x.block<W.heap.size:=by obtain⟨m,hm⟩:=k1;exact DataW.trod_lt m _ _ _ hm
 obtain⟨a1,n1,O,rfl⟩:=okWide_slice Tryz.underlying63 (d 1 63 v1 rfl rfl);obtain⟨⟨l1,az⟩,Z,ag⟩:(∃l,AR W a1 n1 O l)∧n1≤O∧O≤9223372036854775807:=by
  obtain⟨fuel,hf⟩:=h1;exact Om rfl hf
 have k2:=h2;have av:∀x∈p2,x.block<W.heap.size:=by obtain⟨m,hm⟩:=k2;exact DataW.trod_lt m _ _ _ hm
 obtain⟨a2,n2,U,rfl⟩:=okWide_slice Tryz.underlying64 (d 2 64 v2 rfl rfl);obtain⟨⟨l2,aS⟩,ad,al⟩:(∃l,RB W a2 n2 U l)∧n2≤U∧U≤9223372036854775807:=by
  obtain⟨fuel,hf⟩:=h2;exact OM rfl hf
 clear X u d;have hg:∀g e cs,rlG g=some (e,cs)→gbk W g cs:=by
  intro g e cs h;unfold rlG at h;split at h
  ·rename_i hb;rw[Nat.eq_of_beq_eq_true hb];cases h;exact PD hL (by simp[mN])
  ·cases h
 have J:Calls Tryz.prog 4 #[.int .u8 a0,.slice a1 n1 O,.slice a2 n2 U] W fun e w' => e=.returned (.bool true)∧Below W.heap.size W w':=by
  have h:=Gv a0 ap a1 n1 O l1 az Z ag a2 n2 U l2 aS ad al (W:=W) (K:=fun v w' => v=.bool true∧Below W.heap.size W w') hg (fun w' hb=>⟨rfl,hb⟩);refine Calls.mono h.2 ?_;rintro e w' ⟨v,rfl,rfl,hr⟩;exact⟨rfl,hr⟩
 refine J.mono fun e W' ⟨he,M⟩=>?_;subst he
 exact⟨_,rfl,_,_,_,[],_,[],am,trodAll_mk1 (shut_bool Tryz.underlying4 _),(trodAll_cons_mk (shut_int Tryz.underlying5 w0) (trodAll_cons_mk (Below.trod GE (by kernel_rfl) (of_decide_eq_true (by kernel_rfl)) k1 M ar) (trodAll_cons_mk (Below.trod GE (by kernel_rfl) (of_decide_eq_true (by kernel_rfl)) k2 M av) trodAll_mk0))),rfl,M.frame _,fun h=>by cases h⟩
theorem Fr (os:Os)(args:Array Value):laidMetH Tryz.prog mN ((World.doorLaid Tryz.prog 600 os).forCall (fun _ _=>0) ⟨#[],args,[]⟩).memory :=
 laidMetH_of_parts3 (fuel:=8) (laidMet_of_run' 8 (by kernel_rfl) (by kernel_rfl)) (by kernel_rfl) (by kernel_rfl)
set_option maxRecDepth 100000 in
theorem DS (os:Os)(d:os.Started)(H:Type)(enc:TypeId×Value→H):ReturnsInHanded {} Tryz.checked os 4 .any (fun w args=>(Rows.replicaLearnsSpec.pre enc Tryz.prog Tryz.f4 [] false w args∧laidMetH Tryz.prog mN w)∧sizedMet enc Tryz.prog Tryz.f4 (OpenSpec.ofChange Rows.replicaLearnsSpec) false w args)
   (Rows.replicaLearnsSpec.post enc Tryz.prog Tryz.f4 false true false false):=by
 refine returnsInHanded_of_change_and (C:=Tryz.checked) (X:=fun w _=>laidMetH Tryz.prog mN w) (fun _ _ _ M h=>h.of_heap M) Ou d (by kernel_rfl) Tryz.func4
  (ChangeSpec.witness_shaped (enc:=enc) (C:=Tryz.checked) (os:=os) (X:=fun w _=>laidMetH Tryz.prog mN w) false (World.doorLaid Tryz.prog 600 os) #[.int .u8 0,.slice none 0 0,.slice none 0 0] 8 rfl (World.shaped_of_RefB (by kernel_rfl) (by kernel_rfl)) (by kernel_rfl) (by kernel_rfl) (by kernel_rfl) (Fr os _)) ?_
 intro W base args ds I j u J _ _ hL _;exact BZ H enc W base args ds I j u J hL
theorem Gw :Rows.ReplicaLearnsSaid :=
 OpenClaim.holds_of_wide 4 Tryz.f4 rfl rfl rfl rfl rfl rfl rfl ⟨rfl,rfl,rfl,rfl,rfl⟩ rfl rfl rfl rfl rfl (by kernel_rfl) Tryz.func4 DQ
  (of_decide_eq_true (by kernel_rfl)) (by unfold Func.isWrapper;first|(rw[if_pos (by decide +kernel)];kernel_rfl)|(rw[if_neg (by decide +kernel)];exact⟨rfl,rfl⟩))
  (fun os d H enc _=>DS os d H enc)
theorem replicaLearns_proved:Rows.ReplicaLearnsCardSaid :=
 Claim7.holds_tied_plain_at .later [] [.funcs] true (true, "baea186d534e632af2352f68a2d7e62d4bf33a5ab3f1443adaa91daf11388dd9") false
  Gw (fun _ h=>by cases h) (by kernel_rfl) (fun _ h=>by cases h) replicaLearns_row_tie rfl ⟨rfl,rfl⟩ (by kernel_rfl) rfl
  (fun f M O I=>by
   obtain rfl:f=4:=Option.some.inj ((show Tryz.prog.funcNamed "leat/leatlaw21.ReplicaLearns" = some 4 by kernel_rfl).symm.trans O) |>.symm;obtain rfl:M=Tryz.f4:=(Option.some.inj (Tryz.func4.symm.trans I)).symm;exact ⟨by kernel_rfl,fun j t J=>by
    rw [Tryz.params4] at J;have U:t ∈ [5,63,64]:=by simpa using Array.mem_of_getElem? J
    have d:([5,63,64].all fun u => !Tryz.prog.wantsStandIn u)=true:=by kernel_rfl
    exact (show Tryz.prog.wantsStandIn t=false by simpa using List.all_eq_true.1 d t U)⟩)
  Fs
end Go.Proofs.YtkbhfjljieopoaaGreatDoor
