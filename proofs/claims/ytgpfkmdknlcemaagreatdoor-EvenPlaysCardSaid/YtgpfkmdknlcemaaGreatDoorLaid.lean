import Derived.Test.YtgpfkmdknlcemaaGreatDoorHts
import Derived.Test.YtgpfkmdknlcemaaGreatDoorRows
import Derived.LaidMore
import Derived.LaidHandle
import Derived.OpenShut
namespace Go.Proofs.YtgpfkmdknlcemaaGreatDoor
set_option maxRecDepth 100000
open Go.RowKit
def fnV (f:FuncId):Value:=.func (.func f) #[] #[]
theorem AZ {P:Program} {w:World} {base:Nat} {sp:Nat→Bool} {fuel:Nat} {t:TypeId} {ps rs:Array TypeId} {va:Bool} {v:Value} {q:List MemPlace} {enc:TypeId × Value→List UInt8}
  (ht:P.underlying t=some (.func ps rs va)) (h:DataW.trod enc P w base sp true fuel t [v]=some (.nil,q)):v=.nilFunc:=by
 cases fuel with
 | zero=>simp [DataW.trod] at h
 | succ n=>cases v <;> simp [DataW.trod,ht] at h; rfl
def Ep:List Value:=[.nilFunc,fnV 154,fnV 155,fnV 156,fnV 157,fnV 158,fnV 159,fnV 160]
set_option maxRecDepth 100000 in
theorem Er {W:World} {laid:List (String × DataW Unit)} (h:laidMetH Tryz.prog laid W) (hm:("leat/ledger.kinds",Rows.laid_leat_ledger_kinds) ∈ laid):gbk W 0 Ep:=by
 obtain ⟨g,t,cs,fuel,p,hg,ht,hv,hd⟩:=h.funcs hm
 obtain rfl:=Option.some.inj ((show Tryz.prog.globalNamed "leat/ledger.kinds" = some 0 by kernel_rfl).symm.trans hg)
 obtain rfl:=Option.some.inj ((show (Tryz.prog.globals[0]?).map (·.type)=some 123 by kernel_rfl).symm.trans ht)
 have hd':DataW.trod (funcToken Tryz.prog) Tryz.prog W 0 (fun _=>true) true fuel 123 cs.toList=some (.agg [.nil,.held [40,42,108,101,97,116,47,108,101,100,103,101,114,46,76,101,100,103,101,114,41,46,109,97,107,101,115],.held [40,42,108,101,97,116,47,108,101,100,103,101,114,46,76,101,100,103,101,114,41,46,114,97,105,115,101,115],.held [40,42,108,101,97,116,47,108,101,100,103,101,114,46,76,101,100,103,101,114,41,46,116,97,107,101,115],.held [40,42,108,101,97,116,47,108,101,100,103,101,114,46,76,101,100,103,101,114,41,46,102,114,101,101,115],.held [40,42,108,101,97,116,47,108,101,100,103,101,114,46,76,101,100,103,101,114,41,46,109,111,118,101,115],.held [40,42,108,101,97,116,47,108,101,100,103,101,114,46,76,101,100,103,101,114,41,46,106,111,105,110,115],.held [40,42,108,101,97,116,47,108,101,100,103,101,114,46,76,101,100,103,101,114,41,46,108,101,97,118,101,115]],p):=hd
 obtain ⟨xs,m,rfl,hx,hl,hn,hel⟩:=DataW.trod_array (n:=8) (e:=122) (by kernel_rfl) hd'
 have hl:cs.toList.length=8:=hl.trans (by kernel_rfl)
 have hc:Tryz.prog.cellsOf 122=1:=by kernel_rfl
 rw [hc] at hel
 have hx:=(Prod.mk.inj hx).1
 generalize hcs:cs.toList=l at hl hel
 obtain ⟨c0,c1,c2,c3,c4,c5,c6,c7,rfl⟩:∃ c0 c1 c2 c3 c4 c5 c6 c7:Value,l=[c0,c1,c2,c3,c4,c5,c6,c7]:=by
  match l,hl with
  | [c0,c1,c2,c3,c4,c5,c6,c7],_=>exact ⟨_,_,_,_,_,_,_,_,rfl⟩
 obtain ⟨x0,x1,x2,x3,x4,x5,x6,x7,rfl⟩:∃ x0 x1 x2 x3 x4 x5 x6 x7:DataW (List UInt8) × List MemPlace,xs=[x0,x1,x2,x3,x4,x5,x6,x7]:=by
  match xs,hn with
  | [x0,x1,x2,x3,x4,x5,x6,x7],_=>exact ⟨_,_,_,_,_,_,_,_,rfl⟩
 simp only [List.map_cons,List.map_nil,DataW.agg.injEq,List.cons.injEq,and_true] at hx
 obtain ⟨y0,y1,y2,y3,y4,y5,y6,y7⟩:=hx
 obtain ⟨d0,q0⟩:=x0
 cases y0
 have e0:DataW.trod (funcToken Tryz.prog) Tryz.prog W 0 (fun _=>true) true m 122 [c0]=some (_,q0):=hel 0 (by omega)
 obtain rfl:=AZ Tryz.underlying122 e0
 obtain ⟨d1,q1⟩:=x1
 cases y1
 have e1:DataW.trod (funcToken Tryz.prog) Tryz.prog W 0 (fun _=>true) true m 122 [c1]=some (_,q1):=hel 1 (by omega)
 obtain rfl:=func_of_trod (f0:=154) Tryz.underlying122 (by kernel_rfl) e1
 obtain ⟨d2,q2⟩:=x2
 cases y2
 have e2:DataW.trod (funcToken Tryz.prog) Tryz.prog W 0 (fun _=>true) true m 122 [c2]=some (_,q2):=hel 2 (by omega)
 obtain rfl:=func_of_trod (f0:=155) Tryz.underlying122 (by kernel_rfl) e2
 obtain ⟨d3,q3⟩:=x3
 cases y3
 have e3:DataW.trod (funcToken Tryz.prog) Tryz.prog W 0 (fun _=>true) true m 122 [c3]=some (_,q3):=hel 3 (by omega)
 obtain rfl:=func_of_trod (f0:=156) Tryz.underlying122 (by kernel_rfl) e3
 obtain ⟨d4,q4⟩:=x4
 cases y4
 have e4:DataW.trod (funcToken Tryz.prog) Tryz.prog W 0 (fun _=>true) true m 122 [c4]=some (_,q4):=hel 4 (by omega)
 obtain rfl:=func_of_trod (f0:=157) Tryz.underlying122 (by kernel_rfl) e4
 obtain ⟨d5,q5⟩:=x5
 cases y5
 have e5:DataW.trod (funcToken Tryz.prog) Tryz.prog W 0 (fun _=>true) true m 122 [c5]=some (_,q5):=hel 5 (by omega)
 obtain rfl:=func_of_trod (f0:=158) Tryz.underlying122 (by kernel_rfl) e5
 obtain ⟨d6,q6⟩:=x6
 cases y6
 have e6:DataW.trod (funcToken Tryz.prog) Tryz.prog W 0 (fun _=>true) true m 122 [c6]=some (_,q6):=hel 6 (by omega)
 obtain rfl:=func_of_trod (f0:=159) Tryz.underlying122 (by kernel_rfl) e6
 obtain ⟨d7,q7⟩:=x7
 cases y7
 have e7:DataW.trod (funcToken Tryz.prog) Tryz.prog W 0 (fun _=>true) true m 122 [c7]=some (_,q7):=hel 7 (by omega)
 obtain rfl:=func_of_trod (f0:=160) Tryz.underlying122 (by kernel_rfl) e7
 obtain ⟨fr,hfr⟩:∃ q:TypeId × (Nat × Nat),W.heap[0]? = some (.cells cs q.1 q.2):=by
  unfold World.var? at hv
  rw [hg] at hv
  simp only [Option.bind_some] at hv
  split at hv
  ·rename_i a b c hh; cases hv; exact ⟨(b,c),hh⟩
  ·cases hv
 exact ⟨fr.1,fr.2,by rw [hfr, ← Array.toArray_toList (xs:=cs),hcs]; rfl⟩
end Go.Proofs.YtgpfkmdknlcemaaGreatDoor
