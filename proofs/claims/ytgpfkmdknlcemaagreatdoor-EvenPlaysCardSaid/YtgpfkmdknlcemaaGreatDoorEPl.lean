import Derived.Test.YtgpfkmdknlcemaaGreatDoorEvp
import Derived.Test.YtgpfkmdknlcemaaGreatDoorCardL
import Derived.Test.YtgpfkmdknlcemaaGreatDoorEPlF
import Derived.Test.YtgpfkmdknlcemaaGreatDoorTie
import Derived.Test.YtgpfkmdknlcemaaGreatDoorCards
import Derived.SevenTiedAt
import Derived.WalkKit
import Derived.ProofKit
import Derived.OpenShut
import Derived.ShutString
import Derived.ChangeOld
import Derived.Below
import Derived.JoinedCond
import Derived.Deep.Matrix
import Derived.LaidMore
import Derived.Stop.Joined
namespace Go.Proofs.YtgpfkmdknlcemaaGreatDoor
set_option maxRecDepth 100000
open Go.ChangeShapes Go.WideShapes Go.ChangeAt Go.RowKit
def gW:List (String × DataW Unit):=[("leat/ledger.kinds",Rows.laid_leat_ledger_kinds)]
set_option maxRecDepth 100000 in
theorem rN (H:Type) (enc:TypeId × Value→H) (W:World) (base:Nat) (args:Array Value) (ds gs:List (DataW H)) (before:List MemPlace)
  (hval0:∀ (j:Nat) t v,Tryz.f3.params[j]? = some t→args[j]? = some v→Value.okWide Tryz.prog W .any base t v)
  (hW:DataW.Whole enc Tryz.prog Tryz.f3.params.toList Rows.evenPlaysSpec.vars false W args.toList ds gs before) (hL:laidMetH Tryz.prog gW W) :
  Calls Tryz.prog 3 args W fun e W' => ∃ v,e=.returned v∧Rows.evenPlaysSpec.post enc Tryz.prog Tryz.f3 false true false false W args v W':=by
 have hval:=hval0
 have hW':=hW
 obtain ⟨p,q,hA0,hV,rfl,hfz,hnd⟩:=hW
 have hA:DataW.TrodAll enc Tryz.prog W 0 (fun _=>true) true Tryz.f3.params.toList args.toList ds p:=hA0
 rw [Tryz.params3] at hA hval
 obtain ⟨v0,vs0,d0,ds0,p0,q0,hargs,rfl,rfl,h0,r0⟩:=trodAll_cons hA
 obtain ⟨v1,vs1,d1,ds1,p1,q1,rfl,rfl,rfl,h1,r1⟩:=trodAll_cons r0
 obtain ⟨v2,vs2,d2,ds2,p2,q2,rfl,rfl,rfl,h2,r2⟩:=trodAll_cons r1
 obtain ⟨v3,vs3,d3,ds3,p3,q3,rfl,rfl,rfl,h3,r3⟩:=trodAll_cons r2
 obtain ⟨v4,vs4,d4,ds4,p4,q4,rfl,rfl,rfl,h4,r4⟩:=trodAll_cons r3
 obtain ⟨v5,vs5,d5,ds5,p5,q5,rfl,rfl,rfl,h5,r5⟩:=trodAll_cons r4
 obtain ⟨rfl,rfl,rfl⟩:=trodAll_nil r5
 obtain rfl:args=#[v0,v1,v2,v3,v4,v5]:=by cases args; simp_all
 obtain ⟨rfl,rfl⟩:=trodVars_none hV
 obtain ⟨a0,rfl,rfl,rfl,w0⟩:=open_int Tryz.underlying5 (hval 0 5 v0 rfl rfl) h0
 have hx0:0≤a0∧a0≤255:=by simpa [Lit.wf,IntKind.min,IntKind.max,IntKind.signed,IntKind.bits] using w0
 have k1:=h1
 have lt1:∀ x ∈ p1,x.block < W.heap.size:=by obtain ⟨m,hm⟩:=k1; exact DataW.trod_lt m _ _ _ hm
 obtain ⟨a1,n1,c1,rfl⟩:=okWide_slice Tryz.underlying22 (hval 1 22 v1 rfl rfl)
 obtain ⟨⟨l1,ra1⟩,hle1,hmx1⟩:(∃ l,AR W a1 n1 c1 l)∧n1≤c1∧c1≤9223372036854775807:=by
  obtain ⟨fuel,hf⟩:=h1
  exact Cd rfl hf
 obtain ⟨a2,rfl,rfl,rfl,w2⟩:=open_int Tryz.underlying5 (hval 2 5 v2 rfl rfl) h2
 have hx2:0≤a2∧a2≤255:=by simpa [Lit.wf,IntKind.min,IntKind.max,IntKind.signed,IntKind.bits] using w2
 have k3:=h3
 have lt3:∀ x ∈ p3,x.block < W.heap.size:=by obtain ⟨m,hm⟩:=k3; exact DataW.trod_lt m _ _ _ hm
 obtain ⟨sv3,rfl,hz3⟩:=okWide_struct Tryz.underlying30 (hval 3 30 v3 rfl rfl)
 obtain ⟨s3,hc3,sk3,hl3⟩:∃ s:STA,sv3.toList=saC s∧(s.nodes.length≤1000000→SK W s)∧(saC s)[18]? = some (.slice s.na s.nodes.length s.nc):=by
  obtain ⟨m,hm⟩:=h3
  exact Cf hm
 obtain rfl:sv3=(saC s3).toArray:=by rw [← hc3]
 obtain ⟨a4,rfl,rfl,rfl,w4⟩:=open_int Tryz.underlying24 (hval 4 24 v4 rfl rfl) h4
 have hx4:0≤a4∧a4≤18446744073709551615:=by simpa [Lit.wf,IntKind.min,IntKind.max,IntKind.signed,IntKind.bits] using w4
 obtain ⟨a5,rfl,rfl,rfl,w5⟩:=open_int Tryz.underlying3 (hval 5 3 v5 rfl rfl) h5
 have hx5 : -9223372036854775808≤a5∧a5≤9223372036854775807:=by simpa [Lit.wf,IntKind.min,IntKind.max,IntKind.signed,IntKind.bits] using w5
 clear hA0 hval0 hval
 have hg:∀ g e cs,AK g=some (e,cs)→gbk W g cs:=by
  intro g e cs h
  unfold AK at h
  split at h
  ·rename_i hb; rw [Nat.eq_of_beq_eq_true hb]; cases h; exact Er hL (by simp [gW])
  ·cases h
 have hcalls:Calls Tryz.prog 3 #[.int .u8 a0,.slice a1 n1 c1,.int .u8 a2,.agg (saC s3).toArray,.int .u64 a4,.int .i64 a5] W fun e w' => e=.returned (.bool true)∧Below W.heap.size W w':=by
  have h:=yB a0 hx0 a1 n1 c1 l1 ra1 hle1 hmx1 a2 hx2 s3 sk3 hl3 a4 hx4 a5 hx5 (W:=W) (K:=fun v w' => v=.bool true∧Below W.heap.size W w') hg (fun w' hb=>⟨rfl,hb⟩)
  refine Calls.mono h.2 ?_
  rintro e w' ⟨v,rfl,rfl,hr⟩
  exact ⟨rfl,hr⟩
 refine hcalls.mono fun e W' ⟨he,bel⟩ => ?_
 subst he
 exact ⟨_,rfl,_,_,_,[],_,[],hW',trodAll_mk1 (shut_bool Tryz.underlying4 _),(trodAll_cons_mk (shut_int Tryz.underlying5 w0) (trodAll_cons_mk (Below.trod ux (by kernel_rfl) (of_decide_eq_true (by kernel_rfl)) k1 bel lt1) (trodAll_cons_mk (shut_int Tryz.underlying5 w2) (trodAll_cons_mk (Below.trod ux (by kernel_rfl) (of_decide_eq_true (by kernel_rfl)) k3 bel lt3) (trodAll_cons_mk (shut_int Tryz.underlying24 w4) (trodAll_cons_mk (shut_int Tryz.underlying3 w5) trodAll_mk0)))))),rfl,bel.frame _,fun h=>by cases h⟩
theorem wS (os:Os) (args:Array Value):laidMetH Tryz.prog gW ((World.doorLaid Tryz.prog 600 os).forCall (fun _ _=>0) ⟨#[],args,[]⟩).memory :=
 laidMetH_of_parts3 (fuel:=8) (laidMet_of_run' 8 (by kernel_rfl) (by kernel_rfl)) (by kernel_rfl) (by kernel_rfl)
set_option maxRecDepth 100000 in
theorem uy (os:Os) (started:os.Started) (H:Type) (enc:TypeId × Value→H) :
  ReturnsInHanded {} Tryz.checked os 3 .any (fun w args=>(Rows.evenPlaysSpec.pre enc Tryz.prog Tryz.f3 [] false w args∧laidMetH Tryz.prog gW w)∧sizedMet enc Tryz.prog Tryz.f3 (OpenSpec.ofChange Rows.evenPlaysSpec) false w args)
   (Rows.evenPlaysSpec.post enc Tryz.prog Tryz.f3 false true false false):=by
 refine returnsInHanded_of_change_and (C:=Tryz.checked) (X:=fun w _=>laidMetH Tryz.prog gW w) (fun _ _ _ hh h=>h.of_heap hh) Dj started (by kernel_rfl) Tryz.func3
  (ChangeSpec.witness_shaped (enc:=enc) (C:=Tryz.checked) (os:=os) (X:=fun w _=>laidMetH Tryz.prog gW w) false (World.doorLaid Tryz.prog 600 os) #[.int .u8 0,.slice none 0 0,.int .u8 0,.agg #[.bool false,.bool false,.bool false,.bool false,.bool false,.bool false,.bool false,.bool false,.bool false,.bool false,.bool false,.bool false,.int .u64 0,.int .u64 0,.int .u64 0,.int .u64 0,.int .u64 0,.int .u64 0,.slice none 0 0,.slice none 0 0],.int .u64 0,.int .i64 0] 8 rfl (World.shaped_of_RefB (by kernel_rfl) (by kernel_rfl)) (by kernel_rfl) (by kernel_rfl) (by kernel_rfl) (wS os _)) ?_
 intro W base args ds gs before hval hW _ _ hL _
 exact rN H enc W base args ds gs before hval hW hL
theorem yA:Rows.EvenPlaysSaid :=
 OpenClaim.holds_of_wide 3 Tryz.f3 rfl rfl rfl rfl rfl rfl rfl ⟨rfl,rfl,rfl,rfl,rfl⟩ rfl rfl rfl rfl rfl (by kernel_rfl) Tryz.func3 vr
  (of_decide_eq_true (by kernel_rfl)) (by unfold Func.isWrapper; first | (rw [if_pos (by decide +kernel)]; kernel_rfl) | (rw [if_neg (by decide +kernel)]; exact ⟨rfl,rfl⟩))
  (fun os started H enc _=>uy os started H enc)
theorem evenPlays_proved:Rows.EvenPlaysCardSaid :=
 Claim7.holds_tied_plain_at .later [] [.funcs] true (true, "0dd4ce75a16e3a261cc0ad0a31044847fa5350dca8bc85d34146adbf54e3a97e") false
  yA (fun _ h=>by cases h) (by kernel_rfl) (fun _ h=>by cases h) evenPlays_row_tie rfl ⟨rfl,rfl⟩ (by kernel_rfl) rfl
  (fun f fn hf hfn=>by
   obtain rfl:f=3:=Option.some.inj ((show Tryz.prog.funcNamed "leat/leatlaw31.EvenPlays" = some 3 by kernel_rfl).symm.trans hf) |>.symm
   obtain rfl:fn=Tryz.f3:=(Option.some.inj (Tryz.func3.symm.trans hfn)).symm
   exact ⟨by kernel_rfl,fun j t ht=>by
    rw [Tryz.params3] at ht
    have hm:t ∈ [5,22,5,30,24,3]:=by simpa using Array.mem_of_getElem? ht
    have hall:([5,22,5,30,24,3].all fun u => !Tryz.prog.wantsStandIn u)=true:=by kernel_rfl
    exact (show Tryz.prog.wantsStandIn t=false by simpa using List.all_eq_true.1 hall t hm)⟩)
  yb
end Go.Proofs.YtgpfkmdknlcemaaGreatDoor
