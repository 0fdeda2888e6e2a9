import Derived.Test.YtgpfkmdknlcemaaGreatDoorQ15
import Derived.Test.YtgpfkmdknlcemaaGreatDoorQ9
import Derived.Test.YtgpfkmdknlcemaaGreatDoorEMkF
import Derived.Test.YtgpfkmdknlcemaaGreatDoorTie
import Derived.Test.YtgpfkmdknlcemaaGreatDoorCards
import Derived.SevenTiedAt
import Derived.WalkKit
import Derived.ProofKit
import Derived.OpenShut
import Derived.ShutString
import Derived.ChangeOld
import Derived.Below
import Derived.JoinedCond
import Derived.Deep.Matrix
import Derived.LaidMore
import Derived.Stop.Joined
namespace Go.Proofs.YtgpfkmdknlcemaaGreatDoor
set_option maxRecDepth 100000
open Go.ChangeShapes Go.WideShapes Go.ChangeAt Go.RowKit
def oG:List (String × DataW Unit):=[("leat/ledger.kinds",Rows.laid_leat_ledger_kinds)]
set_option maxRecDepth 100000 in
theorem CI (H:Type)(enc:TypeId×Value→H)(W:World)(base:Nat)(args:Array Value)(ds gs:List (DataW H))(I:List MemPlace)(u:∀(j:Nat) t v,Tryz.f4.params[j]? = some t→args[j]? = some v→Value.okWide Tryz.prog W .any base t v)(hW:DataW.Whole enc Tryz.prog Tryz.f4.params.toList Rows.evenMakesSpec.vars false W args.toList ds gs I)(hL:laidMetH Tryz.prog oG W):Calls Tryz.prog 4 args W fun e W' => ∃v,e=.returned v∧Rows.evenMakesSpec.post enc Tryz.prog Tryz.f4 false true false false W args v W':=by
 have d:=u;have ad:=hW;obtain⟨p,q,U,hV,rfl,av,a6⟩:=hW;have hA:DataW.TrodAll enc Tryz.prog W 0 (fun _=>true) true Tryz.f4.params.toList args.toList ds p:=U;rw[Tryz.params4]at hA d;obtain⟨v0,ar,d0,a7,p0,q0,am,rfl,rfl,h0,r0⟩:=trodAll_cons hA;obtain⟨v1,a3,d1,a4,p1,q1,rfl,rfl,rfl,h1,r1⟩:=trodAll_cons r0;obtain⟨v2,az,d2,aS,p2,q2,rfl,rfl,rfl,h2,r2⟩:=trodAll_cons r1
 obtain⟨rfl,rfl,rfl⟩:=trodAll_nil r2;obtain rfl:args=#[v0,v1,v2]:=by cases args;simp_all
 obtain⟨rfl,rfl⟩:=trodVars_none hV;obtain⟨X,rfl,rfl,rfl,w0⟩:=open_int Tryz.underlying5 (d 0 5 v0 rfl rfl) h0;have ag:0≤X∧X≤255:=by simpa[Lit.wf,IntKind.min,IntKind.max,IntKind.signed,IntKind.bits]using w0
 have k1:=h1;have ap:∀x∈p1,x.block<W.heap.size:=by obtain⟨m,hm⟩:=k1;exact DataW.trod_lt m _ _ _ hm
 obtain⟨a1,n1,J,rfl⟩:=okWide_slice Tryz.underlying22 (d 1 22 v1 rfl rfl);obtain⟨⟨l1,an⟩,R,M⟩:(∃l,AR W a1 n1 J l)∧n1≤J∧J≤9223372036854775807:=by
  obtain⟨fuel,hf⟩:=h1;exact Nb rfl hf
 obtain⟨Z,rfl,rfl,rfl,w2⟩:=open_int Tryz.underlying5 (d 2 5 v2 rfl rfl) h2;have al:0≤Z∧Z≤255:=by simpa[Lit.wf,IntKind.min,IntKind.max,IntKind.signed,IntKind.bits]using w2
 clear U u d;have hg:∀g e cs,emG g=some (e,cs)→gbk W g cs:=by
  intro g e cs h;unfold emG at h;split at h
  ·rename_i hb;rw[Nat.eq_of_beq_eq_true hb];cases h;exact PF hL (by simp[oG])
  ·cases h
 have C:Calls Tryz.prog 4 #[.int .u8 X,.slice a1 n1 J,.int .u8 Z] W fun e w' => e=.returned (.bool true)∧Below W.heap.size W w':=by
  have h:=Jo X ag a1 n1 J l1 an R M Z al (W:=W) (K:=fun v w' => v=.bool true∧Below W.heap.size W w') hg (fun w' hb=>⟨rfl,hb⟩);refine Calls.mono h.2 ?_;rintro e w' ⟨v,rfl,rfl,hr⟩;exact⟨rfl,hr⟩
 refine C.mono fun e W' ⟨he,V⟩=>?_;subst he;exact⟨_,rfl,_,_,_,[],_,[],ad,trodAll_mk1 (shut_bool Tryz.underlying4 _),(trodAll_cons_mk (shut_int Tryz.underlying5 w0) (trodAll_cons_mk (Below.trod LR (by kernel_rfl) (of_decide_eq_true (by kernel_rfl)) k1 V ap) (trodAll_cons_mk (shut_int Tryz.underlying5 w2) trodAll_mk0))),rfl,V.frame _,fun h=>by cases h⟩
theorem Hw (os:Os)(args:Array Value):laidMetH Tryz.prog oG ((World.doorLaid Tryz.prog 600 os).forCall (fun _ _=>0) ⟨#[],args,[]⟩).memory :=
 laidMetH_of_parts3 (fuel:=8) (laidMet_of_run' 8 (by kernel_rfl) (by kernel_rfl)) (by kernel_rfl) (by kernel_rfl)
set_option maxRecDepth 100000 in
theorem EP (os:Os)(d:os.Started)(H:Type)(enc:TypeId×Value→H):ReturnsInHanded {} Tryz.checked os 4 .any (fun w args=>(Rows.evenMakesSpec.pre enc Tryz.prog Tryz.f4 [] false w args∧laidMetH Tryz.prog oG w)∧sizedMet enc Tryz.prog Tryz.f4 (OpenSpec.ofChange Rows.evenMakesSpec) false w args)
   (Rows.evenMakesSpec.post enc Tryz.prog Tryz.f4 false true false false):=by
 refine returnsInHanded_of_change_and (C:=Tryz.checked) (X:=fun w _=>laidMetH Tryz.prog oG w) (fun _ _ _ hh h=>h.of_heap hh) NO d (by kernel_rfl) Tryz.func4
  (ChangeSpec.witness_shaped (enc:=enc) (C:=Tryz.checked) (os:=os) (X:=fun w _=>laidMetH Tryz.prog oG w) false (World.doorLaid Tryz.prog 600 os) #[.int .u8 0,.slice none 0 0,.int .u8 0] 8 rfl (World.shaped_of_RefB (by kernel_rfl) (by kernel_rfl)) (by kernel_rfl) (by kernel_rfl) (by kernel_rfl) (Hw os _)) ?_
 intro W base args ds I j u J _ _ hL _;exact CI H enc W base args ds I j u J hL
theorem Jn :Rows.EvenMakesSaid :=
 OpenClaim.holds_of_wide 4 Tryz.f4 rfl rfl rfl rfl rfl rfl rfl ⟨rfl,rfl,rfl,rfl,rfl⟩ rfl rfl rfl rfl rfl (by kernel_rfl) Tryz.func4 Gg
  (of_decide_eq_true (by kernel_rfl)) (by unfold Func.isWrapper;first|(rw[if_pos (by decide +kernel)];kernel_rfl)|(rw[if_neg (by decide +kernel)];exact⟨rfl,rfl⟩))
  (fun os d H enc _=>EP os d H enc)
theorem evenMakes_proved:Rows.EvenMakesCardSaid :=
 Claim7.holds_tied_plain_at .later [] [.funcs] true (true, "0dd4ce75a16e3a261cc0ad0a31044847fa5350dca8bc85d34146adbf54e3a97e") false
  Jn (fun _ h=>by cases h) (by kernel_rfl) (fun _ h=>by cases h) evenMakes_row_tie rfl ⟨rfl,rfl⟩ (by kernel_rfl) rfl
  (fun f J M C=>by
   obtain rfl:f=4:=Option.some.inj ((show Tryz.prog.funcNamed "leat/leatlaw31.EvenMakes" = some 4 by kernel_rfl).symm.trans M) |>.symm;obtain rfl:J=Tryz.f4:=(Option.some.inj (Tryz.func4.symm.trans C)).symm;exact ⟨by kernel_rfl,fun j t I=>by
    rw [Tryz.params4] at I;have R:t ∈ [5,22,5]:=by simpa using Array.mem_of_getElem? I
    have d:([5,22,5].all fun u => !Tryz.prog.wantsStandIn u)=true:=by kernel_rfl
    exact (show Tryz.prog.wantsStandIn t=false by simpa using List.all_eq_true.1 d t R)⟩)
  IP
end Go.Proofs.YtgpfkmdknlcemaaGreatDoor
