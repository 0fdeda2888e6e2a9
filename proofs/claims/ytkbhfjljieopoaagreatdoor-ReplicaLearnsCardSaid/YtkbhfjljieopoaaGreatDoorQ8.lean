import Derived.Test.YtkbhfjljieopoaaGreatDoorRows
import Derived.WalkKit
import Derived.ProofKit
import Derived.OpenShut
import Derived.ShutString
import Derived.ChangeOld
import Derived.Below
import Derived.JoinedCond
import Derived.Deep.Matrix
import Derived.Test.YtkbhfjljieopoaaGreatDoorQ7
import Derived.LaidMore
import Derived.LaidHandle
import Derived.Stop.Joined
namespace Go.Proofs.YtkbhfjljieopoaaGreatDoor
set_option maxRecDepth 100000
open Go.Proofs.Tryz
variable {w:World}{b c n o i g p m s j z d f hi:Nat}{x v:Int}{xs:List Int}{a:Option Addr}{E t e:TypeId}{cs:List Value}{P:Program}{cx:Bool}
section
open Go.ChangeShapes Go.WideShapes Go.ChangeAt Go.RowKit
theorem QI {x:Addr}(d:x.spot=none)(i:Nat):x.add i=vL (some x) i:=by
 obtain⟨b,o,s⟩:=x;cases d;simp[Addr.add,vL]
theorem OL {x:Addr}{cap:Nat}{zs:List Int}(O:c≤cap)(Z:zs.length=cap)(d:∀i,i<zs.length→w.cell? (x.add i)=some (.int .u8 (zs.getD i 0)))(I:∀n∈zs,(Lit.int .u8 n).wf=true):RB w (some x) c cap ((zs.take c).map fun z=>UInt8.ofNat z.toNat):=by
 have j:0<c→x.spot=none:=by
  intro J
  have:=World.cell?_spot (d 0 (by omega))
  simpa[Addr.add]using this
 refine⟨by simp;omega,O,fun J=>⟨x.block,x.off,by have:=j J;obtain⟨b,o,s⟩:=x;cases this;rfl⟩,(fun M=>by cases M),fun i v u=>?_⟩;have hi:i<c:=by
  have:=(List.getElem?_eq_some_iff.1 u).1
  simp at this;omega
 rw[←QI (j (by omega)),d i (by omega)];rw[List.getElem?_map,List.getElem?_map,List.getElem?_take_of_lt hi]at u;have h:i<zs.length:=by omega
 rw[List.getElem?_eq_getElem h]at u;have U:=I zs[i] (List.getElem_mem h);have X:0≤zs[i]∧zs[i]≤255:=by simpa[Lit.wf,IntKind.min,IntKind.max,IntKind.signed,IntKind.bits]using U
 simp only[Option.map_some,Option.some.injEq]at u;rw[←u];simp only[List.getD,List.getElem?_eq_getElem h,Option.getD_some,u8v,UInt8.toNat_ofNat',Option.some.injEq,Value.int.injEq,true_and];omega
section
variable {H:Type}{enc:TypeId×Value→H}{W:World}{base:Nat}{held:Bool}
theorem OM {fuel:Nat}{x:DataW H×List MemPlace}(u:cs=[.slice a n c])(J:DataW.trod enc Tryz.prog W base (fun _=>true) held fuel 64 cs=some x):(∃l,RB W a n c l)∧n≤c∧c≤9223372036854775807:=by
 rcases open_ints underlying64 underlying5 (by kernel_rfl) J with⟨d,_⟩|⟨x,l,c,zs,d,_,I,M,O,_,h,j⟩
 ·rw[u]at d;simp only[List.cons.injEq,Value.slice.injEq,and_true]at d;obtain⟨rfl,rfl,rfl⟩:=d;exact⟨⟨[],RV.nil W⟩,by omega,by omega⟩
 ·rw[u]at d;simp only[List.cons.injEq,Value.slice.injEq,and_true]at d;obtain⟨rfl,rfl,rfl⟩:=d;exact⟨⟨_,OL I (by simpa using O) h j⟩,I,by simpa[maxLen]using M⟩
end
end
section
open Go.RowKit
def gbk (w:World)(g:Nat)(cs:List Value):Prop:=∃E fr,w.heap[g]? = some (.cells cs.toArray E fr)
def fnV (f:FuncId):Value:=.func (.func f) #[] #[]
theorem Nd {base:Nat}{u:Nat→Bool}{fuel:Nat}{ps j:Array TypeId}{v:Value}{q:List MemPlace}{enc:TypeId×Value→List UInt8}(d:P.underlying t=some (.func ps j cx))(h:DataW.trod enc P w base u true fuel t [v]=some (.nil,q)):v=.nilFunc:=by
 cases fuel with
 | zero=>simp[DataW.trod]at h
 | succ n=>cases v<;>simp[DataW.trod,d]at h;rfl
def LU :List Value:=[.nilFunc,fnV 229,fnV 230,fnV 231,fnV 232,fnV 233,fnV 234,fnV 235]
set_option maxRecDepth 100000 in
theorem PD {W:World} {j:List (String × DataW Unit)} (h:laidMetH Tryz.prog j W) (hm:("leat/ledger.kinds",Rows.laid_leat_ledger_kinds) ∈ j):gbk W 0 LU:=by
 obtain ⟨g,t,cs,fuel,p,hg,ht,u,hd⟩:=h.funcs hm;obtain rfl:=Option.some.inj ((show Tryz.prog.globalNamed "leat/ledger.kinds" = some 0 by kernel_rfl).symm.trans hg);obtain rfl:=Option.some.inj ((show (Tryz.prog.globals[0]?).map (·.type)=some 265 by kernel_rfl).symm.trans ht)
 have ag:DataW.trod (funcToken Tryz.prog) Tryz.prog W 0 (fun _=>true) true fuel 265 cs.toList=some (.agg [.nil,.held [40,42,108,101,97,116,47,108,101,100,103,101,114,46,76,101,100,103,101,114,41,46,109,97,107,101,115],.held [40,42,108,101,97,116,47,108,101,100,103,101,114,46,76,101,100,103,101,114,41,46,114,97,105,115,101,115],.held [40,42,108,101,97,116,47,108,101,100,103,101,114,46,76,101,100,103,101,114,41,46,116,97,107,101,115],.held [40,42,108,101,97,116,47,108,101,100,103,101,114,46,76,101,100,103,101,114,41,46,102,114,101,101,115],.held [40,42,108,101,97,116,47,108,101,100,103,101,114,46,76,101,100,103,101,114,41,46,109,111,118,101,115],.held [40,42,108,101,97,116,47,108,101,100,103,101,114,46,76,101,100,103,101,114,41,46,106,111,105,110,115],.held [40,42,108,101,97,116,47,108,101,100,103,101,114,46,76,101,100,103,101,114,41,46,108,101,97,118,101,115]],p):=hd
 obtain ⟨xs,m,rfl,hx,hl,hn,d⟩:=DataW.trod_array (n:=8) (e:=264) (by kernel_rfl) ag;have hl:cs.toList.length=8:=hl.trans (by kernel_rfl);have hc:Tryz.prog.cellsOf 264=1:=by kernel_rfl
 rw [hc] at d;have hx:=(Prod.mk.inj hx).1;generalize ad:cs.toList=l at hl d;obtain ⟨c0,I,J,M,O,U,X,Z,rfl⟩:∃ c0 I J M O U X Z:Value,l=[c0,I,J,M,O,U,X,Z]:=by
  match l,hl with
  | [c0,I,J,M,O,U,X,Z],_=>exact ⟨_,_,_,_,_,_,_,_,rfl⟩
 obtain ⟨x0,x1,x2,x3,x4,x5,x6,x7,rfl⟩:∃ x0 x1 x2 x3 x4 x5 x6 x7:DataW (List UInt8) × List MemPlace,xs=[x0,x1,x2,x3,x4,x5,x6,x7]:=by
  match xs,hn with
  | [x0,x1,x2,x3,x4,x5,x6,x7],_=>exact ⟨_,_,_,_,_,_,_,_,rfl⟩
 simp only [List.map_cons,List.map_nil,DataW.agg.injEq,List.cons.injEq,and_true] at hx;obtain ⟨y0,y1,y2,y3,y4,y5,y6,y7⟩:=hx;obtain ⟨d0,q0⟩:=x0;cases y0;have e0:DataW.trod (funcToken Tryz.prog) Tryz.prog W 0 (fun _=>true) true m 264 [c0]=some (_,q0):=d 0 (by omega);obtain rfl:=Nd underlying264 e0;obtain ⟨d1,q1⟩:=x1;cases y1
 have e1:DataW.trod (funcToken Tryz.prog) Tryz.prog W 0 (fun _=>true) true m 264 [I]=some (_,q1):=d 1 (by omega);obtain rfl:=func_of_trod (f0:=229) underlying264 (by kernel_rfl) e1;obtain ⟨d2,q2⟩:=x2;cases y2;have e2:DataW.trod (funcToken Tryz.prog) Tryz.prog W 0 (fun _=>true) true m 264 [J]=some (_,q2):=d 2 (by omega);obtain rfl:=func_of_trod (f0:=230) underlying264 (by kernel_rfl) e2
 obtain ⟨d3,q3⟩:=x3;cases y3;have e3:DataW.trod (funcToken Tryz.prog) Tryz.prog W 0 (fun _=>true) true m 264 [M]=some (_,q3):=d 3 (by omega);obtain rfl:=func_of_trod (f0:=231) underlying264 (by kernel_rfl) e3;obtain ⟨d4,q4⟩:=x4;cases y4;have e4:DataW.trod (funcToken Tryz.prog) Tryz.prog W 0 (fun _=>true) true m 264 [O]=some (_,q4):=d 4 (by omega)
 obtain rfl:=func_of_trod (f0:=232) underlying264 (by kernel_rfl) e4;obtain ⟨d5,q5⟩:=x5;cases y5;have e5:DataW.trod (funcToken Tryz.prog) Tryz.prog W 0 (fun _=>true) true m 264 [U]=some (_,q5):=d 5 (by omega);obtain rfl:=func_of_trod (f0:=233) underlying264 (by kernel_rfl) e5;obtain ⟨d6,q6⟩:=x6;cases y6
 have e6:DataW.trod (funcToken Tryz.prog) Tryz.prog W 0 (fun _=>true) true m 264 [X]=some (_,q6):=d 6 (by omega);obtain rfl:=func_of_trod (f0:=234) underlying264 (by kernel_rfl) e6;obtain ⟨d7,q7⟩:=x7;cases y7;have e7:DataW.trod (funcToken Tryz.prog) Tryz.prog W 0 (fun _=>true) true m 264 [Z]=some (_,q7):=d 7 (by omega);obtain rfl:=func_of_trod (f0:=235) underlying264 (by kernel_rfl) e7
 obtain ⟨fr,al⟩:∃ q:TypeId × (Nat × Nat),W.heap[0]? = some (.cells cs q.1 q.2):=by
  unfold World.var? at u;rw [hg] at u;simp only [Option.bind_some] at u;split at u
  ·rename_i a b c hh; cases u; exact ⟨(b,c),hh⟩
  ·cases u
 exact ⟨fr.1,fr.2,by rw [al, ← Array.toArray_toList (xs:=cs),ad]; rfl⟩
end
section
theorem Ou :ownKnob Tryz.prog.godebug=none:=by kernel_rfl
theorem GE :laidOutB Tryz.prog=true:=by kernel_rfl
end
end Go.Proofs.YtkbhfjljieopoaaGreatDoor
