import Derived.Test.YtpaghmnnhedccaaGreatDoorQ17
import Derived.Test.YtpaghmnnhedccaaGreatDoorBodF
import Derived.Test.YtpaghmnnhedccaaGreatDoorTie
import Derived.Test.YtpaghmnnhedccaaGreatDoorCards
namespace Go.Proofs.YtpaghmnnhedccaaGreatDoor
set_option maxRecDepth 100000
set_option linter.defProp false
open Go.ChangeShapes Go.WideShapes Go.ChangeAt Go.RowKit
def ny:List (String × DataW Unit):=[("leat/ledger.kinds",Rows.laid_leat_ledger_kinds),("leat/cluster.doings",Rows.laid_leat_cluster_doings)]
set_option maxRecDepth 100000 in
theorem Ll (H:Type)(enc:TypeId×oF->H)(W:oG)(base:Nat)(a:Array oF)(ds P:List (DataW H))(d:List MemPlace)(c:∀(j:Nat) t v,Tryz.f3.params[j]? = some t->a[j]? = some v->Value.okWide Q W .any base t v)(hW:DataW.Whole enc Q Tryz.f3.params.toList Rows.clusterBoundSpec.vars false W a.toList ds P d)(hL:laidMetH Q ny W):Calls Q 3 a W λe W' => ∃v,e=.returned v/\Rows.clusterBoundSpec.post enc Q Tryz.f3 false true false false W a v W':=by
 have b:=c;have z:=hW;obtain⟨p,q,n,S,rfl,V,Z⟩:=hW;have G:DataW.TrodAll enc Q W 0 (λ_=>true) true Tryz.f3.params.toList a.toList ds p:=n;rw[Tryz.params3]at G b;obtain⟨J,aa,d0,N,p0,q0,A,rfl,rfl,R,r0⟩:=trodAll_cons G;obtain⟨L,ab,d1,O,p1,q1,rfl,rfl,rfl,F,r1⟩:=trodAll_cons r0;obtain⟨rfl,rfl,rfl⟩:=trodAll_nil r1;obtain rfl:a=#[J,L]:=by cases a;simp_all
 obtain⟨rfl,rfl⟩:=trodVars_none S;obtain⟨u,rfl,rfl,rfl,M⟩:=open_int Tryz.underlying5 (b 0 5 J rfl rfl) R;have B:0<=u/\u<=255:=by simpa[Lit.wf,IntKind.min,IntKind.max,IntKind.signed,IntKind.bits]using M
 have I:=F;have C:∀x∈p1,x.block<W.heap.size:=by obtain⟨m,Y⟩:=I;exact DataW.trod_lt m _ _ _ Y
 obtain⟨y,w,k,rfl⟩:=okWide_slice Tryz.underlying22 (b 1 22 L rfl rfl);obtain⟨⟨l1,D⟩,r,s⟩:(∃l,S24R W y w k l)/\w<=k/\k<=9223372036854775807:=by
  obtain⟨E,U⟩:=F;exact zaJ rfl U
 clear n c b;have X:∀g e cs,rlG g=some (e,cs)->gbk W g cs:=by
  intro g e cs h;unfold rlG at h;split at h
  .rename_i o;rw[Nat.eq_of_beq_eq_true o];cases h;exact zdp hL (by simp[ny])
  split at h
  .rename_i o;rw[Nat.eq_of_beq_eq_true o];cases h;exact zc3 hL (by simp[ny])
  .cases h
 have f:Calls Q 3 #[.int .u8 u,.slice y w k] W λe w' => e=.returned (.bool true)/\Below W.heap.size W w':=by
  have h:=Sk u B y w k l1 D r s (W:=W) (K:=λv a => v=.bool true/\Below W.heap.size W a) X (λa o=>⟨rfl,o⟩);refine Calls.mono h.2 ?_;rintro e w' ⟨v,rfl,rfl,hr⟩;exact⟨rfl,hr⟩
 refine f.mono λe W' ⟨T,i⟩=>?_;subst T;exact⟨_,rfl,_,_,_,[],_,[],z,trodAll_mk1 (shut_bool Tryz.underlying4 _),(trodAll_cons_mk (shut_int Tryz.underlying5 M) (trodAll_cons_mk (Below.trod zaC kr (of_decide_eq_true kr) I i C) trodAll_mk0)),rfl,i.frame _,λh=>by cases h⟩
def Rj(b:Os)(a:Array oF):laidMetH Q ny ((World.doorLaid Q 600 b).forCall (λ_ _=>0) ⟨#[],a,[]⟩).memory :=
 laidMetH_of_parts3 (fuel:=8) (laidMet_of_run' 8 kr kr) kr kr
set_option maxRecDepth 100000 in
theorem On (os:Os)(b:os.Started)(H:Type)(enc:TypeId×oF->H):ReturnsInHanded {} Tryz.checked os 3 .any (λw a=>(Rows.clusterBoundSpec.pre enc Q Tryz.f3 [] false w a/\laidMetH Q ny w)/\sizedMet enc Q Tryz.f3 (OpenSpec.ofChange Rows.clusterBoundSpec) false w a)
   (Rows.clusterBoundSpec.post enc Q Tryz.f3 false true false false):=by
 refine returnsInHanded_of_change_and (C:=Tryz.checked) (X:=λw _=>laidMetH Q ny w) (λ_ _ _ k h=>h.of_heap k) zc5 b kr Tryz.func3
  (ChangeSpec.witness_shaped (enc:=enc) (C:=Tryz.checked) (os:=os) (X:=λw _=>laidMetH Q ny w) false (World.doorLaid Q 600 os) #[.int .u8 0,.slice none 0 0] 8 rfl (World.shaped_of_RefB kr kr) kr kr kr (Rj os _)) ?_
 intro W d a f g c e j _ _ i _;exact Ll H enc W d a f g c e j i
def Sl:Rows.ClusterBoundSaid :=
 OpenClaim.holds_of_wide 3 Tryz.f3 rfl rfl rfl rfl rfl rfl rfl ⟨rfl,rfl,rfl,rfl,rfl⟩ rfl rfl rfl rfl rfl kr Tryz.func3 Om
  (of_decide_eq_true kr) (by unfold Func.isWrapper;first|(rw[oJ (by decide +kernel)];kernel_rfl)|(rw[oI (by decide +kernel)];exact⟨rfl,rfl⟩))
  (λc a H b _=>On c a H b)
theorem clusterBound_proved:Rows.ClusterBoundCardSaid :=
 Claim7.holds_tied_plain_at .later [] [.funcs,.funcs] true (true, "cf0df72e314c05dddfa2a1019e01447020b7cfed582f3aa006153e8ec61038da") false
  Sl (fun _ h=>by cases h) kr (fun _ h=>by cases h) clusterBound_row_tie rfl ⟨rfl,rfl⟩ kr rfl
  (fun f d e b=>by
   obtain rfl:f=3:=Option.some.inj ((show Tryz.prog.funcNamed "leat/leatlaw24.ClusterBound" = some 3 by kernel_rfl).symm.trans e) |>.symm
   obtain rfl:d=Tryz.f3:=(Option.some.inj (Tryz.func3.symm.trans b)).symm
   exact ⟨by kernel_rfl,fun j t c=>by
    rw [Tryz.params3] at c
    have g:t ∈ [5,22]:=by simpa using Array.mem_of_getElem? c
    have a:([5,22].all fun u => !Tryz.prog.wantsStandIn u)=true:=by kernel_rfl
    exact (show Tryz.prog.wantsStandIn t=false by simpa using List.all_eq_true.1 a t g)⟩)
  Rk
end Go.Proofs.YtpaghmnnhedccaaGreatDoor
