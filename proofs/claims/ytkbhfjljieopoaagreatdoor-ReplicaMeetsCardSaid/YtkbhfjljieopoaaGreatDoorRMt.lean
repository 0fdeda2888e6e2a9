import Derived.Test.YtkbhfjljieopoaaGreatDoorQ13
import Derived.Test.YtkbhfjljieopoaaGreatDoorQ7
import Derived.Test.YtkbhfjljieopoaaGreatDoorRMtF
import Derived.Test.YtkbhfjljieopoaaGreatDoorQ12
import Derived.Test.YtkbhfjljieopoaaGreatDoorTie
import Derived.Test.YtkbhfjljieopoaaGreatDoorCards
import Derived.SevenTiedAt
import Derived.WalkKit
import Derived.ProofKit
import Derived.OpenShut
import Derived.ShutString
import Derived.ChangeOld
import Derived.Below
import Derived.JoinedCond
import Derived.Deep.Matrix
import Derived.LaidMore
import Derived.Stop.Joined
namespace Go.Proofs.YtkbhfjljieopoaaGreatDoor
set_option maxRecDepth 100000
open Go.ChangeShapes Go.WideShapes Go.ChangeAt Go.RowKit
def jo:List (String × DataW Unit):=[("leat/ledger.kinds",Rows.laid_leat_ledger_kinds)]
set_option maxRecDepth 100000 in
theorem wR (H:Type)(enc:TypeId×Value→H)(W:World)(base:Nat)(args:Array Value)(ds gs:List (DataW H))(I:List MemPlace)(C:∀(j:Nat) t v,Tryz.f3.params[j]? = some t→args[j]? = some v→Value.okWide Tryz.prog W .any base t v)(hW:DataW.Whole enc Tryz.prog Tryz.f3.params.toList Rows.replicaMeetsSpec.vars false W args.toList ds gs I)(hL:laidMetH Tryz.prog jo W):Calls Tryz.prog 3 args W fun e W' => ∃v,e=.returned v∧Rows.replicaMeetsSpec.post enc Tryz.prog Tryz.f3 false true false false W args v W':=by
 have u:=C;have af:=hW;obtain⟨p,q,U,hV,rfl,av,az⟩:=hW;have hA:DataW.TrodAll enc Tryz.prog W 0 (fun _=>true) true Tryz.f3.params.toList args.toList ds p:=U;rw[Tryz.params3]at hA u;obtain⟨v0,aE,d0,ap,p0,q0,ag,rfl,rfl,h0,r0⟩:=trodAll_cons hA;obtain⟨v1,aS,d1,ar,p1,q1,rfl,rfl,rfl,h1,r1⟩:=trodAll_cons r0;obtain⟨rfl,rfl,rfl⟩:=trodAll_nil r1
 obtain rfl:args=#[v0,v1]:=by cases args;simp_all
 obtain⟨rfl,rfl⟩:=trodVars_none hV;obtain⟨a0,rfl,rfl,rfl,w0⟩:=open_int Tryz.underlying5 (u 0 5 v0 rfl rfl) h0;have al:0≤a0∧a0≤255:=by simpa[Lit.wf,IntKind.min,IntKind.max,IntKind.signed,IntKind.bits]using w0
 have k1:=h1;have am:∀x∈p1,x.block<W.heap.size:=by obtain⟨m,hm⟩:=k1;exact DataW.trod_lt m _ _ _ hm
 obtain⟨a1,n1,O,rfl⟩:=okWide_slice Tryz.underlying22 (u 1 22 v1 rfl rfl);obtain⟨⟨l1,an⟩,aa,ad⟩:(∃l,SMR W a1 n1 O l)∧n1≤O∧O≤9223372036854775807:=by
  obtain⟨fuel,hf⟩:=h1;exact Co rfl hf
 clear U C u;have hg:∀g e cs,rlG g=some (e,cs)→gbk W g cs:=by
  intro g e cs h;unfold rlG at h;split at h
  ·rename_i hb;rw[Nat.eq_of_beq_eq_true hb];cases h;exact PD hL (by simp[jo])
  ·cases h
 have J:Calls Tryz.prog 3 #[.int .u8 a0,.slice a1 n1 O] W fun e w' => e=.returned (.bool true)∧Below W.heap.size W w':=by
  have h:=yv a0 al a1 n1 O l1 an aa ad (W:=W) (K:=fun v w' => v=.bool true∧Below W.heap.size W w') hg (fun w' hb=>⟨rfl,hb⟩);refine Calls.mono h.2 ?_;rintro e w' ⟨v,rfl,rfl,hr⟩;exact⟨rfl,hr⟩
 refine J.mono fun e W' ⟨he,M⟩=>?_;subst he;exact⟨_,rfl,_,_,_,[],_,[],af,trodAll_mk1 (shut_bool Tryz.underlying4 _),(trodAll_cons_mk (shut_int Tryz.underlying5 w0) (trodAll_cons_mk (Below.trod GE (by kernel_rfl) (of_decide_eq_true (by kernel_rfl)) k1 M am) trodAll_mk0)),rfl,M.frame _,fun h=>by cases h⟩
theorem yl (os:Os)(args:Array Value):laidMetH Tryz.prog jo ((World.doorLaid Tryz.prog 600 os).forCall (fun _ _=>0) ⟨#[],args,[]⟩).memory :=
 laidMetH_of_parts3 (fuel:=8) (laidMet_of_run' 8 (by kernel_rfl) (by kernel_rfl)) (by kernel_rfl) (by kernel_rfl)
set_option maxRecDepth 100000 in
theorem xI (os:Os)(j:os.Started)(H:Type)(enc:TypeId×Value→H):ReturnsInHanded {} Tryz.checked os 3 .any (fun w args=>(Rows.replicaMeetsSpec.pre enc Tryz.prog Tryz.f3 [] false w args∧laidMetH Tryz.prog jo w)∧sizedMet enc Tryz.prog Tryz.f3 (OpenSpec.ofChange Rows.replicaMeetsSpec) false w args)
   (Rows.replicaMeetsSpec.post enc Tryz.prog Tryz.f3 false true false false):=by
 refine returnsInHanded_of_change_and (C:=Tryz.checked) (X:=fun w _=>laidMetH Tryz.prog jo w) (fun _ _ _ O h=>h.of_heap O) Ou j (by kernel_rfl) Tryz.func3
  (ChangeSpec.witness_shaped (enc:=enc) (C:=Tryz.checked) (os:=os) (X:=fun w _=>laidMetH Tryz.prog jo w) false (World.doorLaid Tryz.prog 600 os) #[.int .u8 0,.slice none 0 0] 8 rfl (World.shaped_of_RefB (by kernel_rfl) (by kernel_rfl)) (by kernel_rfl) (by kernel_rfl) (by kernel_rfl) (yl os _)) ?_
 intro W base args ds J u I M _ _ hL _;exact wR H enc W base args ds J u I M hL
theorem yw :Rows.ReplicaMeetsSaid :=
 OpenClaim.holds_of_wide 3 Tryz.f3 rfl rfl rfl rfl rfl rfl rfl ⟨rfl,rfl,rfl,rfl,rfl⟩ rfl rfl rfl rfl rfl (by kernel_rfl) Tryz.func3 xH
  (of_decide_eq_true (by kernel_rfl)) (by unfold Func.isWrapper;first|(rw[if_pos (by decide +kernel)];kernel_rfl)|(rw[if_neg (by decide +kernel)];exact⟨rfl,rfl⟩))
  (fun os h H enc _=>xI os h H enc)
theorem replicaMeets_proved:Rows.ReplicaMeetsCardSaid :=
 Claim7.holds_tied_plain_at .later [] [.funcs] true (true, "baea186d534e632af2352f68a2d7e62d4bf33a5ab3f1443adaa91daf11388dd9") false
  yw (fun _ h=>by cases h) (by kernel_rfl) (fun _ h=>by cases h) replicaMeets_row_tie rfl ⟨rfl,rfl⟩ (by kernel_rfl) rfl
  (fun f M O I=>by
   obtain rfl:f=3:=Option.some.inj ((show Tryz.prog.funcNamed "leat/leatlaw21.ReplicaMeets" = some 3 by kernel_rfl).symm.trans O) |>.symm;obtain rfl:M=Tryz.f3:=(Option.some.inj (Tryz.func3.symm.trans I)).symm;exact ⟨by kernel_rfl,fun j t J=>by
    rw [Tryz.params3] at J;have U:t ∈ [5,22]:=by simpa using Array.mem_of_getElem? J
    have C:([5,22].all fun u => !Tryz.prog.wantsStandIn u)=true:=by kernel_rfl
    exact (show Tryz.prog.wantsStandIn t=false by simpa using List.all_eq_true.1 C t U)⟩)
  ym
end Go.Proofs.YtkbhfjljieopoaaGreatDoor
