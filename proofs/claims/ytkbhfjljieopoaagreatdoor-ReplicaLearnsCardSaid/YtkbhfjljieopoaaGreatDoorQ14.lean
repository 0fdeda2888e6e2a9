import Derived.Test.YtkbhfjljieopoaaGreatDoorQ13
import Derived.Test.YtkbhfjljieopoaaGreatDoorQ12
import Derived.Test.YtkbhfjljieopoaaGreatDoorQ7
import Derived.Test.YtkbhfjljieopoaaGreatDoorQ10
import Derived.Test.YtkbhfjljieopoaaGreatDoorQ6
import Derived.Test.YtkbhfjljieopoaaGreatDoorQ4
namespace Go.Proofs.YtkbhfjljieopoaaGreatDoor
set_option maxRecDepth 100000
set_option maxHeartbeats 4000000
open Go.Proofs.Tryz
variable {w w' w0:World}{K:KV}{zf dd:Nat→Value}{b c n k o B i g p m s j z d eb Bw f on D tb ct cp hi:Nat}{x r v:Int}{A xs ys:List Int}{a av:Option Addr}{E t e:TypeId}{cs:List Value}{P:Program}{T L:List (Int×Int)}{C:Nat→Int}{F:List Nat}{cx cy:Bool}{Z0:List Value→World→Prop}{Y1 Z1 U2 V2 W2 X2 Y2 Z2 U3 V3 W3 X3 Y3 Z3 j4 U4 V4 W4 X4 Y4 Z4 U5 V5 W5 X5 Y5 Z5 K6 T6 U6 V6 W6 X6 Y6 Z6 u7 B7 K7 T7 U7 V7 W7 X7 Y7 Z7 y8 B8:Value}
section
attribute [local irreducible] bin un conv call bY blt slc af fld aV idx lkp dO gY eSt rng nxt ent ext alc box bld bT ld sto aU dE mkS ifc pick rdy wts aI sti cond bp Gives ae fh fT cOp
open Go.RowKit
structure AC where
 who:Int
 meet:Bool
 other:Int
 kind:Int
 node:Int
 to:Int
 am:Int
 req:Int
 of':Int
def acC (x:AC):List Value:=[kv8 x.who,.bool x.meet,kv8 x.other,kv8 x.kind,kv8 x.node,kv8 x.to,.int .u16 x.am,kv8 x.req,kv8 x.of']
def Fm (x:AC):Prop:=(0≤x.who∧x.who≤255)∧(0≤x.other∧x.other≤255)∧(0≤x.node∧x.node≤255)∧(0≤x.am∧x.am≤65535)
def evB (b e:EV):Prop:=e.o=b.o∧e.s=b.s∧e.V=b.V∧0≤e.a∧e.a≤65536
theorem amA {a:Int}(h:0≤a∧a≤65535):0≤IntKind.i64.wrap a∧IntKind.i64.wrap a≤65536:=by rw[eK (by omega) (by omega)];omega
theorem amB {a:Int}(h:0≤a∧a≤65535):0≤IntKind.i64.wrap (IntKind.i64.wrap a+1)∧IntKind.i64.wrap (IntKind.i64.wrap a+1)≤65536:=by rw[eK (n:=a) (by omega) (by omega),eK (by omega) (by omega)];omega
theorem CW (h:K (.pointer (some ⟨b,o+0,none⟩)) w):af Tryz.prog 70 (.pointer (some ⟨b,o,none⟩)) 0 K w:=aK (by kernel_rfl) h
theorem QT (h:K (.pointer (some ⟨b,o+1,none⟩)) w):af Tryz.prog 70 (.pointer (some ⟨b,o,none⟩)) 1 K w:=aK (by kernel_rfl) h
theorem QU (h:K (.pointer (some ⟨b,o+2,none⟩)) w):af Tryz.prog 70 (.pointer (some ⟨b,o,none⟩)) 2 K w:=aK (by kernel_rfl) h
theorem GN (h:K (.pointer (some ⟨b,o+3,none⟩)) w):af Tryz.prog 70 (.pointer (some ⟨b,o,none⟩)) 3 K w:=aK (by kernel_rfl) h
theorem Lt (h:K (.pointer (some ⟨b,o+4,none⟩)) w):af Tryz.prog 70 (.pointer (some ⟨b,o,none⟩)) 4 K w:=aK (by kernel_rfl) h
theorem Lu (h:K (.pointer (some ⟨b,o+5,none⟩)) w):af Tryz.prog 70 (.pointer (some ⟨b,o,none⟩)) 5 K w:=aK (by kernel_rfl) h
theorem zN (h:K (.pointer (some ⟨b,o+6,none⟩)) w):af Tryz.prog 70 (.pointer (some ⟨b,o,none⟩)) 6 K w:=aK (by kernel_rfl) h
theorem Lv (h:K (.pointer (some ⟨b,o+7,none⟩)) w):af Tryz.prog 70 (.pointer (some ⟨b,o,none⟩)) 7 K w:=aK (by kernel_rfl) h
theorem QV (h:K (.pointer (some ⟨b,o+8,none⟩)) w):af Tryz.prog 70 (.pointer (some ⟨b,o,none⟩)) 8 K w:=aK (by kernel_rfl) h
section
variable {w:World}{K:KV}
structure EVS (w0 w:World) (x:AC) (b e:EV) (xb tb eb:Nat):Prop where
 x3:blk w xb 70 (acC x)
 t4:∃zs:List Value,blk w tb 54 zs∧zs.length=14
 ev:blk w eb 54 (evC e)
 eo:evB b e
 bel:Below w0.heap.size w0 w
 lo:w0.heap.size≤tb∧w0.heap.size≤eb∧tb≠eb
theorem EVS.st {x:AC}{b e e':EV}{v:Value}(g:EVS w0 w x b e c tb eb)(Z:v.oneCell'=true)(X:∀w,(sizeOf t).run Tryz.prog w=.ok 1 w)(U:k<14)(M:(evC e).set k v=evC e')(d:e'.o=e.o∧e'.s=e.s∧e'.V=e.V)(J:0≤e'.a∧e'.a≤65536)(h:∀w',EVS w0 w' x b e' c tb eb→K undef w'):sto Tryz.prog t (.pointer (some ⟨eb,k,none⟩)) v K w:=by
 obtain⟨zs,hz,j⟩:=g.t4;refine eB X g.ev U Z fun w1 I u=>?_;rw[M]at I;exact h w1 ⟨u.blk g.x3 (fun O=>g.x3.ne g.ev (by decide) O),⟨zs,u.blk hz g.lo.2.2,j⟩,I,⟨d.1.trans g.eo.1,d.2.1.trans g.eo.2.1,d.2.2.trans g.eo.2.2.1,J⟩,bG g.bel u g.lo.2.1,g.lo⟩
theorem Bs {x:AC}{b e:EV}(g:EVS w0 w x b e c tb eb)(J:U2=.pointer (some ⟨tb,0,none⟩))(M:X2=.pointer (some ⟨eb,0,none⟩))(h:∀w' e',evB b e'→Below w0.heap.size w0 w'→K (.agg (evC e').toArray) w'):bf K ((aT Y1 Z1 U2 V2 W2 X2 Y2 Z2 U3 V3 W3 zf)) w:=by
 subst J M;refine yx <|ldA (n:=14) (vs:=evC e) underlying54 rfl (by kernel_rfl) g.ev rfl rfl ?_;obtain⟨zs,j,u⟩:=g.t4;refine jP (n:=14) (vs:=evC e) (by kernel_rfl) rfl j (by omega) (qy _) fun O d I=>?_;refine Ld (vs:=evC e) underlying54 rfl (by kernel_rfl) d (by rw[List.take_zero,List.nil_append,List.drop_of_length_le (by omega),List.append_nil]) ?_;exact h O e g.eo (bG g.bel I g.lo.1)
theorem Sw {x:AC}{nd:Int}{b e:EV}(g:EVS w0 w x b e c tb eb)(Z:Z1=.pointer (some ⟨c,0,none⟩))(q4:U2=.pointer (some ⟨tb,0,none⟩))(q7:X2=.pointer (some ⟨eb,0,none⟩))(q8:Y2=u6 nd)(j:Fm x)(h:∀w' e',evB b e'→Below w0.heap.size w0 w'→K (.agg (evC e').toArray) w'):eY K ((aT Y1 Z1 U2 V2 W2 X2 Y2 Z2 U3 V3 W3 zf)) w:=by
 subst Z q4 q7 q8;refine yw <|ns <|lK (v:=kv8 e.k) g.ev rfl <|yr <|bg ?_;by_cases u:e.k=1
 ·refine ax u <|Lt <|lK (v:=kv8 x.node) g.x3 rfl <|ww (by omega) <|bg <|yu ?_;refine vl (fun X=>?_) (fun X=>?_)
  ·refine eW ?_;refine g.st (e':={e with n:=nd}) rfl (fun _=>by kernel_rfl) (by decide) rfl ⟨rfl,rfl,rfl⟩ g.eo.2.2.2 fun d g=>?_;refine rr <|zN <|lK (v:=.int .u16 x.am) g.x3 rfl <|dS underlying68 underlying2 <|dT ?_;refine g.st (e':={ ({e with n:=nd}:EV)with a:=IntKind.i64.wrap x.am}) rfl (fun _=>by kernel_rfl) (by decide) rfl ⟨rfl,rfl,rfl⟩ (amA j.2.2.2) fun d g=>?_;exact Bs g rfl rfl h
  ·refine rr <|zN <|lK (v:=.int .u16 x.am) g.x3 rfl <|dS underlying68 underlying2 <|dT ?_;refine g.st (e':={e with a:=IntKind.i64.wrap x.am}) rfl (fun _=>by kernel_rfl) (by decide) rfl ⟨rfl,rfl,rfl⟩ (amA j.2.2.2) fun d g=>?_;exact Bs g rfl rfl h
 refine aq u <|bg ?_;by_cases I:e.k=2
 ·refine ax I <|eW ?_;refine g.st (e':={e with n:=nd}) rfl (fun _=>by kernel_rfl) (by decide) rfl ⟨rfl,rfl,rfl⟩ g.eo.2.2.2 fun d g=>?_;refine zN <|lK (v:=.int .u16 x.am) g.x3 rfl <|dS underlying68 underlying2 <|jS <|dT ?_;refine g.st (e':={ ({e with n:=nd}:EV)with a:=IntKind.i64.wrap (IntKind.i64.wrap x.am+1)}) rfl (fun _=>by kernel_rfl) (by decide) rfl ⟨rfl,rfl,rfl⟩ (amB j.2.2.2) fun d g=>?_
  exact Bs g rfl rfl h
 refine aq I <|bg ?_;by_cases J:e.k=3
 ·refine ax J <|eW ?_;refine g.st (e':={e with n:=nd}) rfl (fun _=>by kernel_rfl) (by decide) rfl ⟨rfl,rfl,rfl⟩ g.eo.2.2.2 fun d g=>?_;refine zN <|lK (v:=.int .u16 x.am) g.x3 rfl <|dS underlying68 underlying2 <|jS <|dT ?_;refine g.st (e':={ ({e with n:=nd}:EV)with a:=IntKind.i64.wrap (IntKind.i64.wrap x.am+1)}) rfl (fun _=>by kernel_rfl) (by decide) rfl ⟨rfl,rfl,rfl⟩ (amB j.2.2.2) fun d g=>?_
  refine Lv <|lK (v:=kv8 x.req) g.x3 rfl <|dS underlying5 underlying31 <|jS <|ic ?_;refine g.st (e':={ ({ ({e with n:=nd}:EV)with a:=IntKind.i64.wrap (IntKind.i64.wrap x.am+1)}:EV)with r:=IntKind.u64.wrap (IntKind.u64.wrap x.req+1)}) rfl (fun _=>by kernel_rfl) (by decide) rfl ⟨rfl,rfl,rfl⟩ g.eo.2.2.2 fun d g=>?_;exact Bs g rfl rfl h
 refine aq J <|bg ?_;by_cases M:e.k=4
 ·refine ax M <|Lv <|lK (v:=kv8 x.req) g.x3 rfl <|dS underlying5 underlying31 <|jS <|ic ?_;refine g.st (e':={e with r:=IntKind.u64.wrap (IntKind.u64.wrap x.req+1)}) rfl (fun _=>by kernel_rfl) (by decide) rfl ⟨rfl,rfl,rfl⟩ g.eo.2.2.2 fun d g=>?_;refine QV <|lK (v:=kv8 x.of') g.x3 rfl <|dS underlying5 underlying31 <|jS <|pZ ?_
  refine g.st (e':={ ({e with r:=IntKind.u64.wrap (IntKind.u64.wrap x.req+1)}:EV)with f:=IntKind.u64.wrap (IntKind.u64.wrap x.of'+1)}) rfl (fun _=>by kernel_rfl) (by decide) rfl ⟨rfl,rfl,rfl⟩ g.eo.2.2.2 fun d g=>?_;exact Bs g rfl rfl h
 refine aq M <|bg <|yv ?_;by_cases O:e.k=5
 ·refine ax O <|eW ?_;refine g.st (e':={e with n:=nd}) rfl (fun _=>by kernel_rfl) (by decide) rfl ⟨rfl,rfl,rfl⟩ g.eo.2.2.2 fun d g=>?_;refine zN <|lK (v:=.int .u16 x.am) g.x3 rfl <|dS underlying68 underlying2 <|jS <|dT ?_;refine g.st (e':={ ({e with n:=nd}:EV)with a:=IntKind.i64.wrap (IntKind.i64.wrap x.am+1)}) rfl (fun _=>by kernel_rfl) (by decide) rfl ⟨rfl,rfl,rfl⟩ (amB j.2.2.2) fun d g=>?_
  refine Lu <|lK (v:=kv8 x.to) g.x3 rfl <|dS underlying5 underlying3 <|ww (by omega) <|jS <|iD ?_;refine g.st (e':={ ({ ({e with n:=nd}:EV)with a:=IntKind.i64.wrap (IntKind.i64.wrap x.am+1)}:EV)with t:=IntKind.i64.wrap (1+(IntKind.i64.wrap x.to).tmod 6)}) rfl (fun _=>by kernel_rfl) (by decide) rfl ⟨rfl,rfl,rfl⟩ g.eo.2.2.2 fun d g=>?_;exact Bs g rfl rfl h
 refine aq O <|bg ?_;by_cases U:e.k=6
 ·refine ax U <|Lu <|lK (v:=kv8 x.to) g.x3 rfl <|dS underlying5 underlying3 <|ww (by omega) <|jS <|iD ?_;refine g.st (e':={e with t:=IntKind.i64.wrap (1+(IntKind.i64.wrap x.to).tmod 6)}) rfl (fun _=>by kernel_rfl) (by decide) rfl ⟨rfl,rfl,rfl⟩ g.eo.2.2.2 fun d g=>?_;exact Bs g rfl rfl h
 refine aq U ?_;exact Bs g rfl rfl h
end
theorem VT {x:AC}{b e:EV}{l:LG}(g:EVS w0 w x b e c tb eb)(U:LC w p l C)(J:C 0+C 1+C 2+C 3+C 4+C 5≤900)(q6:W2=.pointer (some ⟨p,0,none⟩))(q3:Z1=.pointer (some ⟨c,0,none⟩))(q4:U2=.pointer (some ⟨tb,0,none⟩))(q7:X2=.pointer (some ⟨eb,0,none⟩))(u:Fm x)(h:∀w' e',evB b e'→Below w0.heap.size w0 w'→K (.agg (evC e').toArray) w'):jb K ((aT Y1 Z1 U2 V2 W2 X2 Y2 Z2 U3 V3 W3 zf)) w:=by
 subst q3 q4 q7 q6;obtain⟨B,j⟩:=U.lm;have al:=U.xi.n30;have hs:=U.sum J;refine yp <|ai <|bq <|eA <|lK (v:=.slice l.s.na l.s.nodes.length l.s.nc) j.cl j.cN <|bj underlying42 <|de <|yq ?_;by_cases M:(0:Int)<(l.s.nodes.length:Nat)
 ·refine ax M ?_;have j:=j.drew;have g:EVS w0 w.drew x b e c tb eb:=⟨g.x3.drew,g.t4,g.ev.drew,g.eo,g.bel.drew,g.lo⟩
  obtain⟨i,hi⟩:∃i:Nat,i=(x.node%(l.s.nodes.length:Nat)).toNat:=⟨_,rfl⟩
  have ad:0≤x.node%((l.s.nodes.length:Nat):Int):=Int.emod_nonneg _ (by omega);have ag:x.node%((l.s.nodes.length:Nat):Int)<(l.s.nodes.length:Nat):=Int.emod_lt_of_pos _ M;have I:i<l.s.nodes.length:=by omega
  have X:l.s.nodes[i]? = some l.s.nodes[i]:=List.getElem?_eq_getElem I;generalize l.s.nodes[i]=y at X;obtain⟨gn,O,ha,Z⟩:=cq j.nd (by omega);have c0:O[i*56+0]? = some (u6 y.id):=Z.cell fC rfl X (show 0<56 by omega)
  refine aa (fun _=>ai) <|aa (fun _=>bq) <|aa (fun _=>eA) <|aa (v:=.slice l.s.na l.s.nodes.length l.s.nc) (fun _=>lK j.cl j.cN) <|aa (fun _=>Lt) <|aa (v:=kv8 x.node) (fun _=>lK g.x3 rfl) <|aa (v:=.int .i64 x.node) (fun K d=>dS underlying5 underlying3 (by rw[eK (by have:=u.2.2.1;omega) (by have:=u.2.2.1;omega)];exact d)) <|aa (fun _=>ai) <|aa (fun _=>bq) <|aa (fun _=>eA) <|aa (v:=.slice l.s.na l.s.nodes.length l.s.nc) (fun _=>lK j.cl j.cN) <|aa (fun _=>bj underlying42) <|aa (v:=.int .i64 ((i:Nat):Int)) (fun K d=>xX u.2.2.1.1 M (by rw[show x.node%((l.s.nodes.length:Nat):Int)=(i:Nat)by omega];exact d)) <|aa (v:=.pointer (some ⟨gn,i*56,none⟩)) (fun _=>pj ha underlying42 (fun _=>by kernel_rfl) I) <|aa (fun _=>GZ) <|aa (v:=u6 y.id) (fun _=>lK Z.blk c0) ?_
  exact Sw g rfl rfl rfl rfl u h
 ·refine aq M ?_;exact Sw (nd:=0) g rfl rfl rfl rfl u h
theorem Ti {L:List (Nat×LG)}{E:List EV}{x:AC}(hw:WM w Bw g L E C)(hn:E.length≤900)(X:Fm x)(h:∀(w':World) (e:EV) (i:Nat) (j:Nat×LG),(i:Int)=x.who%(L.length:Nat)→L[i]? = some j→e.o=i+1→e.s=j.2.s.V.getD i 0+1→e.V=j.2.s.V→0≤e.a∧e.a≤65536→Below w.heap.size w w'→K (.agg (evC e).toArray) w'):call Tryz.prog 47 #[.pointer (some ⟨g,0,none⟩),.agg (acC x).toArray] K w:=by
 refine aj (goK func47) (Ad ?_);refine cv fun w1 Z b1 s1=>?_;have Z:blk w1 w.heap.size 70 (acC x):=by simpa[Value.cells]using Z
 refine dZ (z:=.agg (evC ⟨0,0,0,0,0,0,0,0,0,0,0,0,0,0⟩).toArray) (by kernel_rfl) fun w2 J b2 s2=>?_;have J:blk w2 w1.heap.size 54 (evC ⟨0,0,0,0,0,0,0,0,0,0,0,0,0,0⟩):=by simpa[Value.cells]using J
 rw[s1]at J ⊢;have a0:=(ac b2 Z Z.lt).drew;have J:=J.drew;have al:Below w.heap.size w w2.drew:=(b1.trans (b2.mono (by omega))).drew;have az:=hw.fresh al;obtain⟨la,lc,ea,ec,aS,av,_⟩:=az.row;have hp:=hw.pos;obtain⟨i,hi⟩:∃i:Nat,i=(x.who%(L.length:Nat)).toNat:=⟨_,rfl⟩
 have a3:0≤x.who%((L.length:Nat):Int):=Int.emod_nonneg _ (by omega);have a4:x.who%((L.length:Nat):Int)<(L.length:Nat):=Int.emod_lt_of_pos _ (by omega);have ar:i<L.length:=by omega
 have M:L[i]? = some L[i]:=List.getElem?_eq_getElem ar;generalize L[i]=j at M;have ag:=az.led j (List.mem_of_getElem? M);obtain⟨B,I⟩:=ag.lm;obtain⟨gl,a2,ha,op⟩:=cq av (by omega);have c0:a2[i*1]? = some (.pointer (some ⟨j.1,0,none⟩)):=by
  have:=op.cell zF rfl M (show 0<1 by omega)
  simpa[ptC]using this
 refine aa (fun _=>CW) <|aa (v:=kv8 x.who) (fun _=>lK a0 rfl) <|aa (v:=.int .i64 x.who) (fun K d=>dS underlying5 underlying3 (by rw[eK (by have:=X.1;omega) (by have:=X.1;omega)];exact d)) <|aa (fun _=>ai) <|aa (fun _=>oM) <|aa (v:=.slice la L.length lc) (fun _=>lK aS rfl) <|aa (fun _=>bj underlying72) <|aa (v:=.int .i64 ((i:Nat):Int)) (fun K d=>xX X.1.1 (by omega) (by rw[show x.who%((L.length:Nat):Int)=(i:Nat)by omega];exact d)) <|ai <|oM <|lK (v:=.slice la L.length lc) aS rfl <|pj (s:=1) ha underlying72 (fun _=>by kernel_rfl) ar <|lK (v:=.pointer (some ⟨j.1,0,none⟩)) op.blk c0 ?_
 have I:=I.drew;have O:=a0.drew;obtain⟨v0,v1,v2,v3,v4,v5,ap⟩:=rU I.v6;have am:i<6:=by omega
 refine aw (fun y=>blk y j.1 123 (lgC j.2)∧blk y w.heap.size 70 (acC x)) ⟨I.cl,O⟩ <|ab (v:=.int .i64 ((i:Nat)+1:Int)) (fun y u _=>aW (by omega) (by omega)) <|ab (fun y u _=>ai) <|ab (fun y u _=>bq) <|ab (fun y u _=>ot) <|ab (fun y u _=>ixV rfl am) <|ab (v:=u6 (j.2.s.V.getD i 0)) (fun y u _=>lK u.1 (by rw[show 0+0+12+i=12+i by omega];exact I.cV am)) <|ab (fun y u _=>jS) <|ab (fun y u _=>ai) <|ab (fun y u _=>bq) <|ab (fun y u _=>ot) <|ab (v:=.agg (([v0,v1,v2,v3,v4,v5]:List Int).map u6).toArray) (fun y u _=>ldA (n:=6) (vs:=([v0,v1,v2,v3,v4,v5]:List Int).map u6) underlying35 rfl (by kernel_rfl) u.1 (by rw[←ap];exact I.cutV) rfl) <|ab (fun y u _=>GN) <|ab (v:=kv8 x.kind) (fun y u _=>lK u.2 rfl) <|ab (fun y u _=>ww (by omega)) <|ab (fun y u _=>jS) ?_
 refine ab (v:=.agg (evC ⟨(i:Nat)+1,IntKind.u64.wrap (j.2.s.V.getD i 0+1),v0,v1,v2,v3,v4,v5,IntKind.u8.wrap (1+x.kind.tmod 7),0,0,0,0,0⟩).toArray) (fun y u _=>eT (by kernel_rfl)) ?_;refine dZ (z:=.agg (evC ⟨0,0,0,0,0,0,0,0,0,0,0,0,0,0⟩).toArray) (by kernel_rfl) fun w3 h3 b3 s3=>?_;have h3:blk w3 w2.drew.drew.heap.size 54 (evC ⟨0,0,0,0,0,0,0,0,0,0,0,0,0,0⟩):=by simpa[Value.cells]using h3
 refine aE ⟨ac b3 I.cl I.cl.lt,ac b3 O O.lt⟩ ?_;refine jP (n:=14) (vs:=evC ⟨(i:Nat)+1,IntKind.u64.wrap (j.2.s.V.getD i 0+1),v0,v1,v2,v3,v4,v5,IntKind.u8.wrap (1+x.kind.tmod 7),0,0,0,0,0⟩) (by kernel_rfl) rfl h3 (by show 0+14≤14;omega) (qy _) fun w4 h4 o4=>?_
 have h4:blk w4 w2.drew.drew.heap.size 54 (evC ⟨(i:Nat)+1,IntKind.u64.wrap (j.2.s.V.getD i 0+1),v0,v1,v2,v3,v4,v5,IntKind.u8.wrap (1+x.kind.tmod 7),0,0,0,0,0⟩):=h4;have B4:Below w2.drew.drew.heap.size w2.drew.drew w4:=bG b3 o4 (Nat.le_refl _);have ad:Below w.heap.size w w4:=al.drew.trans (B4.mono al.size);have sz:w2.drew.drew.heap.size=w.heap.size+2:=by show w2.heap.size=_;omega
 have gg:EVS w w4 x ⟨(i:Nat)+1,IntKind.u64.wrap (j.2.s.V.getD i 0+1),v0,v1,v2,v3,v4,v5,IntKind.u8.wrap (1+x.kind.tmod 7),0,0,0,0,0⟩ ⟨(i:Nat)+1,IntKind.u64.wrap (j.2.s.V.getD i 0+1),v0,v1,v2,v3,v4,v5,IntKind.u8.wrap (1+x.kind.tmod 7),0,0,0,0,0⟩ w.heap.size (w.heap.size+1) w2.drew.drew.heap.size :=
  ⟨ac B4 O O.lt,⟨_,ac B4 J.drew J.drew.lt,rfl⟩,h4,⟨rfl,rfl,rfl,Int.le_refl _,show (0:Int)≤65536 by decide⟩,ad,⟨by omega,by omega,by omega⟩⟩
 have an:=(hw.led j (List.mem_of_getElem? M)).fresh ad;refine VT gg an (by rw[hw.sum];omega) rfl rfl rfl rfl X fun w' e' U b' => h w' e' i j (by omega) M U.1 ?_ (U.2.2.1.trans ap.symm) U.2.2.2 b';have hv:=ag.xi.pi.vb i am;have a7:j.2.s.V.getD i 0<1099511627776:=hv.2;have a6:0≤j.2.s.V.getD i 0:=hv.1;rw[U.2.1];show IntKind.u64.wrap (j.2.s.V.getD i 0+1)=_
 rw[gF];omega
theorem LC.up {l:LG}{C':Nat→Int}(h:LC w p l C)(j:∀k,k<6→C k≤C' k):LC w p l C':=⟨h.lm,h.xi,fun k d=>Int.le_trans (h.le k d) (j k d)⟩
theorem SJ {L:List (Nat×LG)}{l':LG}{xs:List Value}(O:blk w g 74 [.slice (some ⟨b,0,none⟩) L.length c,.slice a n B])(u:Opn w Bw 115 1 L.length c b cs (L.flatMap ptC))(X:w.ownsRow Bw 54 14 (.slice a n B) n xs)(J:∀x∈L,LC w x.1 x.2 C)(ad:LC w k l' C)(hi:i<L.length)(ho:o=i*1)(h:∀w',blk w' g 74 [.slice (some ⟨b,0,none⟩) (L.set i (k,l')).length c,.slice a n B]→w'.ownsRow Bw 115 1 (.slice (some ⟨b,0,none⟩) (L.set i (k,l')).length c) (L.set i (k,l')).length ((L.set i (k,l')).flatMap ptC)→w'.ownsRow Bw 54 14 (.slice a n B) n xs →
   (∀x∈L.set i (k,l'),LC w' x.1 x.2 C)→Keep CO Bw w w'→Oth b w w'→K undef w'):sto Tryz.prog 115 (.pointer (some ⟨b,o,none⟩)) (.pointer (some ⟨k,0,none⟩)) K w:=by
 subst ho;have hx:L[i]? = some L[i]:=List.getElem?_eq_getElem hi;have h2:L.length*1≤c*1:=Nat.mul_le_mul_right _ u.nc;have al:=u.len;refine eB (fun _=>by kernel_rfl) u.blk (by omega) rfl fun w' hb U=>?_;have M:=u.set1 (x':=(k,l')) (v:=.pointer (some ⟨k,0,none⟩)) (j:=0) zF rfl hx (by omega) rfl (by simpa using hb);have Z:Keep CO Bw w w':=U.keep u.blk (by simp) u.lo
 have d:(L.set i (k,l')).length=L.length:=List.length_set ..;refine h w' (by rw[d];exact U.blk O (fun I=>O.ne u.blk (by decide) I)) (by rw[d];exact Opn.own M) (eZ X u.blk (by decide) U) (fun x ag=>?_) Z U;rcases List.mem_or_eq_of_mem_set ag with I|I
 ·exact(J x I).keepW Z
 ·rw[I];exact ad.keepW Z
theorem JB :(Tryz.prog.info? 54).map (fun i=>(i.zero,i.size,i.bytes))=some (some (.agg (evC ⟨0,0,0,0,0,0,0,0,0,0,0,0,0,0⟩).toArray),14,112):=by kernel_rfl
theorem OQ {e:EV}{zs:List Value}(j:blk w tb 54 zs)(u:zs.length=14)(h:∀w',Oth tb w w'→K (.agg (evC e).toArray) w'):sto Tryz.prog 54 (.pointer (some ⟨tb,0,none⟩)) (.agg (evC e).toArray) (fun _t w=>bp Tryz.prog [(some 54,.pointer (some ⟨tb,0,none⟩))] K w) w:=by
 refine jP (n:=14) (vs:=evC e) (by kernel_rfl) rfl j (by omega) (qy _) fun J d I=>?_;refine Ld (vs:=evC e) underlying54 rfl (by kernel_rfl) d (by rw[List.take_zero,List.nil_append,List.drop_of_length_le (by omega),List.append_nil]) ?_;exact h J I
theorem VS {L:List (Nat×LG)}{E:List EV}{e:EV}{zs:List Value}(az:blk w g 74 [.slice (some ⟨c,0,none⟩) L.length o,.slice a E.length B])(ag:w.ownsRow Bw 115 1 (.slice (some ⟨c,0,none⟩) L.length o) L.length (L.flatMap ptC))(a2:w.ownsRow Bw 54 14 (.slice a E.length B) E.length (E.flatMap evC))(a7:∀x∈L,LC w x.1 x.2 C)(be:EC E C)(he:1≤e.o∧e.o≤6∧e.s≤C (e.o-1).toNat)(bb:C 0+C 1+C 2+C 3+C 4+C 5=(E.length:Nat)+1)(bs:∀k,k<6→0≤C k)(a9:0<L.length∧L.length≤6)(b6:WP L.length (L.map fun x=>toP x.2) (E++[e]))(a8:∀(k:Nat) x,L[k]? = some x→x.2.s.V.getD k 0=C k)(bi:∀y∈E++[e],y.a≤65536)(hn:E.length≤900)(hB:Bw≤w.heap.size)(hg:Bw≤g)(an:blk w eb 54 (evC e))(hz:blk w tb 54 zs)(b7:zs.length=14)(am:∀k,(Value.slice a E.length B).ownBlock=some k→k≠eb∧k≠tb)(b9:tb≠eb)(b5:Bw≤tb)(q0:Y1=.pointer (some ⟨g,0,none⟩))(q4:U2=.pointer (some ⟨tb,0,none⟩))(q6:W2=.pointer (some ⟨eb,0,none⟩))(h:∀w',WM w' Bw g L (E++[e]) C→Below Bw w w'→K (.agg (evC e).toArray) w'):kl K ((kP Y1 Z1 U2 V2 W2 X2 zf)) w:=by
 subst q0 q4 q6;refine B9 <|aw (fun y=>blk y g 74 [.slice (some ⟨c,0,none⟩) L.length o,.slice a E.length B]∧blk y eb 54 (evC e)) ⟨az.drew,an.drew⟩ <|ab (fun y X _=>ai) <|ab (fun y X _=>mD) <|ab (v:=.slice a E.length B) (fun y X _=>lK X.1 rfl) <|ab (v:=.agg (evC e).toArray) (fun y X _=>ldA (n:=14) (vs:=evC e) underlying54 rfl (by kernel_rfl) X.2 rfl rfl) ?_
 refine mY (vs:=[.agg (evC e).toArray]) underlying36 (s:=14) (by kernel_rfl) (by kernel_rfl) (by omega) rfl (by simp) (by simp) (by simp) (by simp[Value.cells,vd]) fun w2 h2 b2 s2=>?_;have h2:blk w2 w.drew.heap.size 54 (evC e):=by simpa[Value.cells]using h2
 have al:=ac b2 az.drew az.drew.lt;have M:=ac b2 an.drew an.drew.lt;have aS:=ac b2 hz.drew hz.drew.lt;have ar:w2.ownsRow Bw 115 1 (.slice (some ⟨c,0,none⟩) L.length o) L.length (L.flatMap ptC):=cJ ag fun b hb=>b2.block b (World.ownsRow.lt ag b hb).2
 have u:w2.ownsRow Bw 54 14 (.slice a E.length B) E.length (E.flatMap evC):=cJ a2 fun b hb=>b2.block b (World.ownsRow.lt a2 b hb).2;have D:Below w.heap.size w w2:=(Below.refl _ w).drew.trans b2;have ap:∀x∈L,LC w2 x.1 x.2 C:=fun x hx=>(a7 x hx).fresh D;refine aE ⟨al,M⟩ ?_;obtain⟨ii,bt,b8,b4,bk⟩:=info_parts JB
 refine tf (base:=Bw) (x:=e) underlying36 bt b8 b4 bk rfl (by omega) vd u h2 (qy _) (by omega) (by omega) (Nat.le_trans hB D.size) fun a3 c3 w3 a4 O b3 b0=>?_;have d:=fL al u (by decide) O;have av:=sR ar u (by decide) O;have ad:blk w3 eb 54 (evC e):=by
  unfold Go.Proofs.YtkbhfjljieopoaaGreatDoor.blk;rw[O.block _ M.lt (fun j=>(am eb j.symm).1 rfl)];exact M
 have bd:blk w3 tb 54 zs:=by
  unfold Go.Proofs.YtkbhfjljieopoaaGreatDoor.blk;rw[O.block _ aS.lt (fun j=>(am tb j.symm).2 rfl)];exact aS
 have k3:Keep CO Bw w2 w3:=Keep.grown O u (by simp) (Nat.le_refl _);refine aw (fun _=>True) trivial <|ab (fun y X _=>ai) <|ab (fun y X _=>mD) ?_;refine eB (fun _=>by kernel_rfl) d (by simp) rfl fun w4 I o4=>?_;have I:blk w4 g 74 [.slice (some ⟨c,0,none⟩) L.length o,.slice a3 (E.length+1) c3]:=I;have a0:blk w4 eb 54 (evC e):=o4.blk ad (fun j=>ad.ne d (by decide) j)
 have Z:blk w4 tb 54 zs:=o4.blk bd (fun j=>bd.ne d (by decide) j);have k4:Keep CO Bw w2 w4:=k3.trans (o4.keep d (by simp) hg);refine ldA (n:=14) (vs:=evC e) underlying54 rfl (by kernel_rfl) a0 rfl rfl ?_;have bW:∀k,(Value.slice a3 (E.length+1) c3).ownBlock=some k→k≠tb:=by
  intro k hk;rcases b0 with j|j
  ·rw[j]at hk;exact(am k hk).2
  ·rw[j]at hk;cases hk;have:=aS.lt;omega
 refine OQ Z b7 fun w5 V2=>?_;have k5:Keep CO Bw w2 w5:=k4.trans (V2.keep Z (by simp) b5);have a6:=eZ a4 d (by decide) o4;have U:(E++[e]).length=E.length+1:=by simp
 refine h w5 ⟨⟨some ⟨c,0,none⟩,o,a3,c3,by rw[U];exact V2.blk I (fun j=>I.ne Z (by decide) j),eZ (eZ av d (by decide) o4) Z (by decide) V2,by rw[U];exact cJ a6 fun k hk=>V2.other k (bW k hk)⟩,hg,fun x hx=>(ap x hx).keepW k5,a9,?_,by rw[U,bb];push_cast;rfl,bs,b6,a8,bi⟩ ((D.mono hB).trans (k5.below (Nat.le_trans hB D.size)));intro y X
 rcases List.mem_append.1 X with j|j
 ·exact be y j
 ·rw[List.mem_singleton.1 j];exact he
end
section
attribute [local irreducible] bin un conv call bY blt slc af fld aV idx lkp dO gY eSt rng nxt ent ext alc box bld bT ld sto aU dE mkS ifc pick rdy wts aI sti cond bp Gives ae fh fT cOp
open Go.RowKit Go.ChangeMaps
theorem Ch.add {a b c:World}(h:Ch F a b)(k:Below a.heap.size b c):Ch F a c :=
 ⟨k.os.trans h.os,k.tape.trans h.tape,k.output.trans h.output,Nat.le_trans h.size k.size,fun x d j=>(k.block x d).trans (h.block x d j)⟩
def Js (W:HM):Option EV→HM
 | none=>W
 | some e=>sM W (mW e)
def nf (V:List Int)(W:HM)(E:List EV):HM:=E.foldl (AD V) W
def WA :Value→Nat
 | .slice _ n _=>n
 | _=>0
theorem RHL.puts {n:Nat}{E:List EV}{l:PL}{c:Nat}(d:E.length≤63):∀{L:List EV} {W:HM},RHL n E l W c→(∀e∈L,e∈E)→RHL n E l (nf l.V W L) c
 | [],_,h,_=>h
 | e::L,W,h,hL=>RHL.puts d (W:=AD l.V W e) (h.put (hL e (by simp)) d).1 fun x j=>hL x (List.mem_cons_of_mem _ j)
theorem VR.ch {L:List EV}(h:VR w a n c L)(J:Ch F w w')(hF:∀b o,a=some ⟨b,o,none⟩→b∉F):VR w' a n c L :=
 ⟨h.len,h.some_,fun i x O b o I j u M=>by
  have:=h.cell i x O b o I j u M
  have d:=World.block_lt_of_cell? w _ this;rw[World.cell?_of_block (J.block b d (hF b o I))];exact this⟩
theorem VR.nm {L:List EV}(h:VR w a n c L)(d:0<n){es:Array MapEntry}(I:w.heap[m]? = some (.map es k)):∀b o,a=some ⟨b,o,none⟩→b≠m:=fun b o j e=>by
 have u:0<L.length:=by rw[h.len];exact d
 have:=h.cell 0 L[0] (List.getElem?_eq_getElem u) b o j 0 _ rfl
 subst e;simp[World.cell?,I]at this
section
variable {w w':World}{R:RpB}{i:Nat}{l:PL}{W:HM}{Rw:List kN}{c:Int}{L:List (List Int)}{B:Nat}
theorem blk.kp (h:blk w k E cs)(d:w'.heap[k]? = w.heap[k]?):blk w' k E cs:=by unfold Go.Proofs.YtkbhfjljieopoaaGreatDoor.blk at *; rw[d];exact h
theorem RpM.keep (h:RpM w R i l W Rw c L)(d:∀k,k=R.p∨k=R.h∨k∈R.q.l∨k∈RpF R Rw→w'.heap[k]? = w.heap[k]?):RpM w' R i l W Rw c L :=
 {h with
  b:=h.b.kp (d _ (.inl rfl))
  pm:=h.pm.keep fun k j _=>d k (.inr (.inr (.inl j)))
  g:=h.g.keep fun k j=>d k (.inr (.inr (.inr (gD.2 ((List.mem_cons.1 j).elim (fun e=>.inr (.inl e)) fun e=>.inr (.inr (.inl e)))))))
  h:=⟨h.h.b.kp (d _ (.inr (.inl rfl))),h.h.mb.kept (d _ (.inr (.inr (.inr (gD.2 (by simp))))))⟩
  e:=⟨h.e.b.kp (d _ (.inr (.inr (.inr (gD.2 (by simp)))))),h.e.l6,h.e.v6⟩}
theorem RpM.neE (h:RpM w R i l W Rw c L)(u:∀k∈R.q.l,k<B)(j:blk w z 54 cs)(J:B≤z):∀k,k=R.p∨k=R.h∨k∈R.q.l∨k∈RpF R Rw→k≠z:=fun k d e=>by
 subst e;rcases d with rfl|rfl|d|d
 ·exact absurd rfl (j.ne h.b (by decide))
 ·exact absurd rfl (j.ne h.h.b (by decide))
 ·have:=u _ d;omega
 ·exact h.out j (by decide) (by decide) (by decide) (fun I=>by have:=u _ I;omega) d
theorem RpM.othE (h:RpM w R i l W Rw c L)(u:∀k∈R.q.l,k<B)(I:blk w z 54 cs)(d:B≤z)(o:Oth z w w'):RpM w' R i l W Rw c L :=
 h.keep fun k j=>o.other k (h.neE u I d k j)
theorem RpM.grow (h:RpM w R i l W Rw c L)(M:∀k∈R.q.l,k<B){v:Value}{xs:List Value}(O:w.ownsRow B 54 14 v n xs)(u:w.grownBy w' v.ownBlock):RpM w' R i l W Rw c L:=by
 have U:∀k,k=R.p∨k=R.h∨k∈R.q.l∨k∈RpF R Rw→some k≠v.ownBlock:=fun k d e=>by
  rcases O.2 with⟨I,_⟩|⟨g,cap,j,I,J,u,_⟩
  ·rw[I]at e;cases e
  ·rw[I]at e;simp only[Value.ownBlock,Option.some.injEq]at e;exact h.neE M (show blk w g 54 j.toList by unfold blk;rw[u]) J k d e
 refine h.keep fun k d=>u.block k ?_ (U k d);rcases d with rfl|rfl|d|d
 ·exact h.b.lt
 ·exact h.h.b.lt
 ·exact h.pm.lt k d
 ·exact h.lt k d
theorem RpM.row (h:RpM w R i l W Rw c L)(U:∀k∈R.q.l,k<B){v:Value}{xs:List Value}(u:w.ownsRow B 54 14 v n xs)(J:Ch (RpF R Rw) w w'):w'.ownsRow B 54 14 v n xs:=by
 refine cJ u fun k d=>J.block k (World.ownsRow.lt u k d).2 ?_;rcases u.2 with⟨I,_⟩|⟨g,cap,j,I,X,M,_⟩
 ·rw[I]at d;cases d
 ·rw[I]at d;simp only[Value.ownBlock,Option.some.injEq]at d;subst d;exact h.out (show blk w g 54 j.toList by unfold blk;rw[M]) (by decide) (by decide) (by decide) fun O=>by have:=U _ O;omega
theorem RpM.ev (h:RpM w R i l W Rw c L)(I:∀k∈R.q.l,k<B){e:EV}(d:blk w z 54 (evC e))(J:B≤z)(j:Ch (RpF R Rw) w w'):blk w' z 54 (evC e) :=
 d.ch j (h.out d (by decide) (by decide) (by decide) fun u=>by have:=I _ u;omega)
end
section
variable {w:World}{K:KV}{R:RpB}{i:Nat}{l:PL}{W:HM}{Rw:List kN}{c:Int}{L:List (List Int)}{e:EV}{n ct:Nat}{E:List EV}
theorem RHL.late (h:RHL n E l W ct):∀x∈W,nH l.V x.2=false:=fun x d=>by
 refine Bool.eq_false_iff.2 fun j=>?_
 have:=(xq (h.may d)).1 j
 have:=h.hw.new x d
 omega
theorem Dj (h:HoM w p m W)(j:RHL n E l W ct)(u:∀w',HoM w' p m (Js W (ew l.V W 6))→Ch [m] w w'→K (.tuple #[evV ((ew l.V W 6).getD evZ),.bool (ew l.V W 6).isSome]) w'):call Tryz.prog 80 #[pB p,.agg (vCs l.V).toArray] K w:=by
 refine Tp h j.pi.v6 (fun k M=>j.pi.vb k M) (fun x O=>j.hw.key x O) j.late (fun d w' b=>?_) fun e d w' J I=>?_
 ·have:=u w' (by rw[d];exact h.below b) (Ch.of_below b)
  rwa[d]at this
 ·have:=u w' (by rw[d];exact J) I
  rwa[d]at this
theorem Wj {j:List kN}(hr:RHL n E l W ct)(hE:E.length≤63)(hc:c+64≤1000000)(hq:∀k∈R.q.l,k<w0.heap.size)(h:RpM w R i l (Js W (ew l.V W 6)) Rw c L)(hz:blk w z 54 (evC ((ew l.V W 6).getD evZ)))(zz:w0.heap.size≤z)(a9:Ch (RpF R j) w0 w)(hB:∀k∈lrB Rw,k∈lrB j∨w0.heap.size≤k)(u:∀w' l' W' ap F fa fc,RpM w' R i l' W' ap (c+(F.length:Nat)) L→DR l W l' W' F→ew l'.V W' 6=none→w'.ownsRow w0.heap.size 54 14 (.slice fa F.length fc) F.length (F.flatMap evC)→Ch (RpF R j) w0 w'→(∀k∈lrB ap,k∈lrB j∨w0.heap.size≤k)→K (.slice fa F.length fc) w'):fR K (ay (pB R.p) Y1 (.slice none 0 0) Z1 (pB z) (.bool (ew l.V W 6).isSome) U2 V2 W2 zf) w:=by
 refine vW (Inv:=fun fr e7 b0 wr=>∃(U:PL) (W1:HM) (F:List EV) (fa:Option Addr) (fc:Nat) (J:List kN) (z:Nat),fr=.slice fa F.length fc∧e7=pB z∧b0=.bool (ew U.V W1 6).isSome∧DR l W U W1 F ∧
   RpM wr R i U (Js W1 (ew U.V W1 6)) J (c+(F.length:Nat)) L∧blk wr z 54 (evC ((ew U.V W1 6).getD evZ))∧w0.heap.size≤z∧wr.ownsRow w0.heap.size 54 14 (.slice fa F.length fc) F.length (F.flatMap evC)∧Ch (RpF R j) w0 wr∧(∀k∈lrB J,k∈lrB j∨w0.heap.size≤k)∧(Value.slice fa F.length fc).ownBlock≠some z) (μ:=fun fr _ _ _=>W.length+1-WA fr)
  ⟨l,W,[],none,0,Rw,z,rfl,rfl,rfl,.nil,by rw[List.length_nil];simpa using h,hz,zz,World.ownsRow_nil _ _ _ _,a9,hB,fun e=>by cases e⟩ ?_
 rintro _ _ _ dd w1 mu ⟨U,W1,F,fa,fc,J,z1,rfl,rfl,rfl,hd,h1,O,b6,a2,ag,al,aS⟩ bi;obtain⟨i1,i2,i3,i4⟩:=hd.ri hr;have b8:=hr.few;cases hn:ew U.V W1 6 with
 | none =>
  rw[hn]at h1;exact aO (wc (u w1 U W1 J F fa fc h1 hd hn a2 ag al))
 | some e =>
  rw[hn]at h1 O;obtain⟨he,bk,hg,h0,hs,hv⟩:=i1.step hn;have O:blk w1 z1 54 (evC e):=O;have h1:RpM w1 R i U (sM W1 (mW e)) J (c+(F.length:Nat)) L:=h1;refine bu (vS (gB O ?_));have b9:=ag.size;refine Sh h1 i1.pi bk h0 (by omega) fun w2 ar h2 c2 n2=>bg (ax rfl ?_);have am:=h1.ev hq O b6 c2;have a3:=h1.row hq a2 c2;have ca:=c2.size
  refine gB am (mY [evV e] underlying36 (s:=14) (by kernel_rfl) (by kernel_rfl) (by omega) rfl (by simp) (by decide) rfl (by
   intro v hv;rw[List.mem_singleton.1 hv];rfl) fun w3 e3 b3 s3=>?_)
  have e3:blk w3 w2.heap.size 54 (evC e):=by simpa[Value.cells,evV]using e3
  have h3:=h2.below b3;have a0:=ac b3 am am.lt;have an:=cJ a3 fun k I=>b3.block k (World.ownsRow.lt a3 k I).2;obtain⟨ii,bd,bt,bs,a8⟩:=info_parts JB;refine tf (enc:=evC) (x:=e) underlying36 bd bt bs a8 rfl (by omega) (fun _=>rfl) an e3 (qy _) (by omega) (by omega) (by omega) fun a' c' w4 r4 g4 b4 k4=>?_;have cc:=b3.size;have h4:=h3.grow hq an g4;have be:=World.ownsRow.lt an
  have av:Below w0.heap.size w3 w4:=dW g4 (by omega) fun k I=>(be k I).1;have sub:∀x∈RpF R J,x∈RpF R j∨w0.heap.size≤x:=fun x M=>by
   rcases gD.1 M with M|M|M|M
   ·exact .inl (gD.2 (.inl M))
   ·exact .inl (gD.2 (.inr (.inl M)))
   ·exact(al x M).imp (fun M=>gD.2 (.inr (.inr (.inl M)))) id
   ·exact .inl (gD.2 (.inr (.inr (.inr M))))
  have a4:Ch (RpF R j) w0 w4:=((ag.trans c2 sub).add (b3.mono (by omega))).add av;have a7:∀k∈lrB ar,k∈lrB j∨w0.heap.size≤k:=fun k I=>(n2 k I).elim (fun I=>al k I) fun I=>.inr (by omega);have bW:blk w4 z1 54 (evC e):=a0.kp (g4.block z1 a0.lt fun e' => aS e'.symm);have ce:=av.size;have cj:=g4.size;refine we (gB bW (nG fun w5 z5 b5 s5=>lj (e':=e) z5 fun w6 z6 o6=>?_))
  have X:Below w4.heap.size w4 w6:=bv b5 o6 (Nat.le_refl _);have h6:=h4.below X;have cg:=X.size;have ck:w4.heap.size<w6.heap.size:=z6.lt;refine aw (fun x=>blk x R.p 91 [iv (i:Nat),pB R.q.p,pB R.g,pB R.h,pB R.e,pB R.d]) h6.b.drew ?_;refine ab (fun x d _ u=>ai u) (ab (fun x d _ u=>Db u) (ab (v:=pB R.h) (fun x d _ u=>lK d rfl u) ?_))
  refine ab (fun x d _ u=>ai u) (ab (fun x d _ u=>uN u) (ab (v:=pB R.q.p) (fun x d _ u=>lK d rfl u) ?_));have az:=h6.below (Below.refl _ w6).drew;refine AB az.pm fun w7 b7=>?_;have h7:=az.below b7;have ad:Below w6.heap.size w6 w7:=(Below.refl _ w6).drew.trans b7;have z7:=ac ad z6 z6.lt;refine aE h7.b ?_;refine Dj h7.h hs fun w8 bb c8=>?_;have h8:=h7.setH c8 bb
  refine aw (fun _=>True) trivial (ab (fun x _ _ u=>cZ u) (ab (fun x _ _ u=>db u) ?_));have z8:blk w8 w4.heap.size 54 (evC e):=z7.ch c8 fun hh=>h7.h.mb' z7 (List.mem_singleton.1 hh);refine lj (e':=(ew (eff e U).V (sM W1 (mW e)) 6).getD evZ) z8 fun w9 z9 o9=>?_;refine aE trivial ?_;have r6:=cJ r4 fun k I=>X.block k (World.ownsRow.lt r4 k I).2
  have r7:=cJ r6 fun k I=>ad.block k (World.ownsRow.lt r6 k I).2;have r8:=h7.row hq r7 (h7.sub1 c8);have r9:=cJ r8 (w':=w9) fun k I=>o9.other k fun e' => by have:=(World.ownsRow.lt r4 k I).2;omega
  have Z:(F++[e]).length=F.length+1:=by simp
  have a6:Ch (RpF R j) w0 w9:=(((a4.add (X.mono (by omega))).add (ad.mono (by omega))).trans c8 fun x M=>.inl (gD.2 (by rw[List.mem_singleton.1 M];simp))).add (bv (Below.refl _ w8) o9 (by omega));refine⟨⟨eff e U,sM W1 (mW e),F++[e],a',c',ar,w4.heap.size,congrArg (fun n=>Value.slice a' n c') Z.symm,rfl,rfl,hd.snoc hn,?_,z9,by omega,by rw[Z];exact r9,a6,a7,fun e'=>?_⟩,?_⟩
  ·have:=h8.othE hq z8 (by omega) o9
   rw[Z,show c+((F.length+1:Nat):Int)=c+(F.length:Nat)+1 by omega];exact this
  ·rw[Z]at e'
   have:=(World.ownsRow.lt r4 _ e').2
   omega
  ·rw[bi];show W.length+1-(F.length+1)<W.length+1-F.length;omega
end
section
variable {w:World}{K:KV}{R:RpB}{i:Nat}{l:PL}{W:HM}{Rw:List kN}{c:Int}{L:List (List Int)}{e:EV}{n ct:Nat}{E:List EV}
theorem TZ {E1:List EV}{f t:Int}{V:List Int}(h:RpM w R i l W Rw c L)(hr:RHL n E l W ct)(hE:E.length≤63)(hc:c+64≤1000000)(hv:VR w a k cp E1)(a0:∀e∈E1,e∈E)(hk:k≤16)(hV:V.length=6)(u:∀w' l' W' ap F fa fc,RpM w' R i l' W' ap (c+(F.length:Nat)) L→DR l (nf l.V W E1) l' W' F→ew l'.V W' 6=none→w'.ownsRow w.heap.size 54 14 (.slice fa F.length fc) F.length (F.flatMap evC)→Ch (RpF R Rw) w w'→(∀k∈lrB ap,k∈lrB Rw∨w.heap.size≤k)→K (.slice fa F.length fc) w'):call Tryz.prog 43 #[pB R.p,.agg (mgC 1 f t V (.slice a k cp) 0 0).toArray] K w:=by
 have hq:=h.pm.lt;have a7:(Value.agg (mgC 1 f t V (.slice a k cp) 0 0).toArray).cells.toList=mgC 1 f t V (.slice a k cp) 0 0:=by simp[Value.cells]
 have c9:(mgC 1 f t V (.slice a k cp) 0 0)[9]? = some (.slice a k cp):=by
  unfold mgC;rw[show 9=3+6 by rfl,iP (n:=3) rfl,show 6=6+0 by rfl,iP (n:=6) (by rw[bQ,hV])];rfl
 refine aj (goK func43) (xY (cv fun w1 m1 b1 s1=>?_));rw[a7]at m1;refine zP (lK (v:=.slice a k cp) m1 c9 (bj underlying36 ?_));have h1:=h.below b1;refine vU (Inv:=fun j wr=>∃q:Nat,j=iv (q:Nat)∧q≤k∧RpM wr R i l (nf l.V W (E1.take q)) Rw c L∧Ch [R.m] w wr) (μ:=fun j _=>k-(intOf j).toNat)
  ⟨0,rfl,Nat.zero_le _,by rw[List.take_zero];exact h1,Ch.of_below b1⟩ ?_
 rintro _ dd w2 mu ⟨q,rfl,bs,h2,c2⟩ be;have O:RHL n E l (nf l.V W (E1.take q)) ct:=hr.puts hE fun x J=>a0 x (List.mem_of_mem_take J);refine aM ?_;by_cases a3:q<k
 ·have bb:q<E1.length:=by rw[hv.len];exact a3
  have J:E1[q]? = some E1[q]:=List.getElem?_eq_getElem bb;have ad:E1.take (q+1)=E1.take q++[E1[q]]:=by rw[List.take_add_one,J];rfl
  generalize E1[q]=x at J ad;have bt:=a0 x (List.mem_of_getElem? J);obtain⟨b,o,ha⟩:=hv.some_ (by omega);obtain⟨es,cl,bd⟩:=h.h.mb;have bk:VR w2 a k cp E1:=hv.ch c2 fun b o ha hh=>hv.nm (by omega) bd.heap b o ha (List.mem_singleton.1 hh);subst ha;refine ax (by omega) (dJ underlying36 (s:=14) (fun _=>by kernel_rfl) (by omega) (by omega) ?_);rw[Int.toNat_natCast]
  refine Va bk rfl J (nG fun w3 z3 X s3=>lj (e':=x) z3 fun w4 z4 o4=>?_);have ar:Below w2.heap.size w2 w4:=bv X o4 (Nat.le_refl _);have U:=h2.below ar;refine aw (fun y=>blk y R.p 91 [iv (i:Nat),pB R.q.p,pB R.g,pB R.h,pB R.e,pB R.d]∧blk y w2.heap.size 54 (evC x)) ⟨U.b.drew,z4.drew⟩ ?_
  refine ab (fun y d _ u=>ai u) (ab (fun y d _ u=>Db u) (ab (v:=pB R.h) (fun y d _ u=>lK d.1 rfl u) ?_));refine ab (fun y d _ u=>ai u) (ab (fun y d _ u=>uN u) (ab (v:=pB R.q.p) (fun y d _ u=>lK d.1 rfl u) (ab (fun y d _ u=>gB d.2 u) ?_)));have aS:=U.below (Below.refl _ w4).drew;refine AB aS.pm fun w5 b5=>?_;have av:Below w4.heap.size w4 w5:=(Below.refl _ w4).drew.trans b5
  have h5:=aS.below b5;refine aE ⟨h5.b,ac av z4 z4.lt⟩ ?_;have hf:=O.few;refine UU h5.h hr.pi.v6 (by omega) fun w6 _ a9 c6=>aW (by omega) (by omega) ?_;have h6:=h5.setH c6 a9;refine⟨⟨q+1,congrArg iv (by push_cast;rfl),a3,?_,?_⟩,by rw[be];show k-((q:Int)+1).toNat<k-(q:Int).toNat;omega⟩
  ·rw[ad];unfold nf;rw[List.foldl_append];exact h6
  ·have a1:=c2.add (ar.mono c2.size);have a2:=a1.add (av.mono a1.size);exact a2.trans c6 fun x J=>.inl J
 ·have bi:q=k:=by omega
  subst bi;have ad:E1.take q=E1:=by rw[←hv.len];exact List.take_length
  rw[ad]at h2 O;refine aq (by omega) (vY ?_);have b0:=c2.size;have a4:Ch (RpF R Rw) w w2:=h.sub1 c2;have bW:∀k∈R.q.l,k<w.heap.size:=hq;refine aw (fun y=>blk y R.p 91 [iv (i:Nat),pB R.q.p,pB R.g,pB R.h,pB R.e,pB R.d]) h2.b.drew ?_;refine ab (fun y d _ u=>ai u) (ab (fun y d _ u=>Db u) (ab (v:=pB R.h) (fun y d _ u=>lK d rfl u) ?_))
  refine ab (fun y d _ u=>ai u) (ab (fun y d _ u=>uN u) (ab (v:=pB R.q.p) (fun y d _ u=>lK d rfl u) ?_));have M:=h2.below (Below.refl _ w2).drew;have I:Ch (RpF R Rw) w w2.drew:=a4.add (Below.refl _ w2).drew
  -- the last step,whatever the order
  have al:∀{wr:World} {z:Nat} {zf:Nat→Value} {e6:Value},RpM wr R i l (Js (nf l.V W E1) (ew l.V (nf l.V W E1) 6)) Rw c L→blk wr z 54 (evC ((ew l.V (nf l.V W E1) 6).getD evZ))→w.heap.size≤z→Ch (RpF R Rw) w wr →
    fR K (ay (pB R.p) (pB w.heap.size) (.slice none 0 0) e6 (pB z) (.bool (ew l.V (nf l.V W E1) 6).isSome) (.slice a q cp) (iv (q:Nat)) (iv (q:Nat)) zf) wr:=fun ha hb hz a6 =>
   Wj O hE hc hq ha hb hz a6 (fun k hk=>.inl hk) u
  have an:∀{wr w':World} {z:Nat},RpM wr R i l (Js (nf l.V W E1) (ew l.V (nf l.V W E1) 6)) Rw c L→blk wr z 54 (evC evZ)→w.heap.size≤z→Oth z wr w'→RpM w' R i l (Js (nf l.V W E1) (ew l.V (nf l.V W E1) 6)) Rw c L:=fun ha hb hz o=>ha.othE hq hb hz o;refine⟨?_,?_⟩
  ·refine AB M.pm fun w3 X=>aE (M.below X).b ⟨?_,?_⟩
   ·have Z:=M.below X;have c3:=I.add (X.mono I.size);refine Dj Z.h O fun w4 a8 c4=>?_;have U:=Z.setH c4 a8;have az:=c3.trans c4 fun x J=>.inl (gD.2 (by rw[List.mem_singleton.1 J];simp));refine aw (fun _=>True) trivial (ab (fun x _ _ u=>cZ u) (ab (fun x _ _ u=>db u) ?_))
    refine nG fun w5 z5 b5 s5=>aE trivial (lj (e':=(ew l.V (nf l.V W E1) 6).getD evZ) z5 fun w6 z6 o6=>aE trivial ?_);have s4:=az.size;exact al (an (U.below b5) z5 s4 o6) z6 s4 ((az.add (b5.mono s4)).add (bv (Below.refl _ w5) o6 s4))
   ·have Z:=M.below X;have c3:=I.add (X.mono I.size);refine nG fun w4 z4 b4 s4=>aE (Z.below b4).b ?_;have U:=Z.below b4;have s3:=c3.size;have c4:=c3.add (b4.mono s3);refine Dj U.h O fun w5 am c5=>?_;have h5:=U.setH c5 am;have z5:=z4.ch c5 fun hh=>U.h.mb' z4 (List.mem_singleton.1 hh);have ag:=c4.trans c5 fun x J=>.inl (gD.2 (by rw[List.mem_singleton.1 J];simp))
    refine aw (fun _=>True) trivial (ab (fun x _ _ u=>cZ u) (ab (fun x _ _ u=>db u) ?_));refine lj (e':=(ew l.V (nf l.V W E1) 6).getD evZ) z5 fun w6 z6 o6=>aE trivial ?_;exact al (an h5 z5 s3 o6) z6 s3 (ag.add (bv (Below.refl _ w5) o6 s3))
  ·refine nG fun w3 z3 X s3=>aE (M.below X).b ?_;have Z:=M.below X;have c3:=I.add (X.mono I.size);have s2:=I.size;refine AB Z.pm fun w4 b4=>aE (Z.below b4).b ?_;have U:=Z.below b4;have z4:=ac b4 z3 z3.lt;have c4:=c3.add (b4.mono c3.size);refine Dj U.h O fun w5 am c5=>?_;have h5:=U.setH c5 am;have z5:=z4.ch c5 fun hh=>U.h.mb' z4 (List.mem_singleton.1 hh)
   have ag:=c4.trans c5 fun x J=>.inl (gD.2 (by rw[List.mem_singleton.1 J];simp));refine aw (fun _=>True) trivial (ab (fun x _ _ u=>cZ u) (ab (fun x _ _ u=>db u) ?_));refine lj (e':=(ew l.V (nf l.V W E1) 6).getD evZ) z5 fun w6 z6 o6=>aE trivial ?_;exact al (an h5 z5 s2 o6) z6 s2 (ag.add (bv (Below.refl _ w5) o6 s2))
theorem u8K :zH Tryz.prog 5 (Value.int .u8):=LS underlying5
theorem TX {x:EV}{V:List Int}(h:RpM w R i l W Rw c L)(hr:RHL n E l W ct)(hE:E.length≤63)(hc:c+64≤1000000)(hx:x∈E)(hb:blk w b 54 (evC x))(hf:f<6)(hi:1≤i∧i≤6)(a3:f+1≠i)(hV:V.length=6)(hv:leV V (List.replicate 6 1099511627776)=true)(hA:L[f]? = some A)(j:∀w' l' W' u F fa fc,RpM w' R i l' W' u (c+(F.length:Nat)) (L.set f (jV A V))→DR l (nf l.V W [x]) l' W' F→ew l'.V W' 6=none→Ch (RpF R Rw) w w'→(∀k∈lrB u,k∈lrB Rw∨w.heap.size≤k)→K (.tuple #[.slice fa F.length fc,ci 0]) w'):call Tryz.prog 12 #[pB R.p,.agg (mgC 1 ((f:Int)+1) (i:Nat) V (.slice (some ⟨b,0,none⟩) 1 cp) 0 0).toArray,Y1] K w:=by
 generalize J:mgC 1 ((f:Int)+1) (i:Nat) V (.slice (some ⟨b,0,none⟩) 1 cp) 0 0=ms;have ar:ms.length=12:=by rw[←J];simp[mgC,bQ,hV]
 have ap:(Value.agg ms.toArray).cells.toList=ms:=by simp[Value.cells]
 have m0:ms[0]? = some (.int .u8 1):=by rw[←J];rfl
 have m1:ms[1]? = some (iv ((f:Int)+1)):=by rw[←J];rfl
 have m2:ms[2]? = some (iv (i:Nat)):=by rw[←J];rfl
 have m3:(ms.drop 3).take 6=vCs V:=by
  rw[←J];unfold mgC;rw[show 3=[Value.int .u8 1,iv ((f:Int)+1),iv (i:Nat)].length+0 by rfl,List.drop_append,List.drop_of_length_le (by simp)];simp only[List.nil_append,List.length_cons,List.length_nil,Nat.sub_self];rw[List.drop_zero,List.take_append_of_le_length (by rw[bQ];omega),List.take_of_length_le (by rw[bQ];omega)]
 refine aj (goK func12) (Bk (cv fun w1 z1 b1 s1=>wy (aO ?_)));rw[ap]at z1;have al:∀{y:World} {K:KV},blk y w.heap.size 38 ms→K (.agg ms.toArray) y→ld Tryz.prog 38 (pB w.heap.size) K y:=fun hy j=>ldA (n:=12) (vs:=ms) underlying38 rfl (by kernel_rfl) hy (by rw[List.drop_zero,List.take_of_length_le (by omega)]) ar j;refine al z1 ?_;rw[←J];have am:=ac b1 hb hb.lt
 refine TF (VR.one am) (by omega) (fun e he=>by rw[List.mem_singleton.1 he];exact hr.hist.may x hx) hV hv (by unfold bK;simp;omega) (by unfold bK;simp;omega) (by omega) fun w2 b2=>dB ?_;rw[J];have M:=b1.trans (b2.mono b1.size);have h2:=h.below M;have z2:=ac b2 z1 z1.lt;refine yZ (aO ?_);refine aa (fun _=>Da) (aa (v:=iv (i:Nat)) (fun _=>lK z2.drew m2) ?_)
 refine aa (fun _=>ai) (aa (fun _=>wG) (aa (v:=iv (i:Nat)) (fun _=>lK h2.b.drew rfl) ?_));refine aa (v:=.bool false) (fun K j=>bN (by simpa using j)) ?_;refine zc (aO (zb ?_));have Z:=(h2.below (Below.refl _ w2).drew).below (Below.refl _ w2.drew).drew;have z3:blk w2.drew.drew w.heap.size 38 ms:=z2
 refine aw (fun y=>blk y R.p 91 [iv (i:Nat),pB R.q.p,pB R.g,pB R.h,pB R.e,pB R.d]∧blk y w.heap.size 38 ms) ⟨Z.b,z3⟩ ?_;refine ab (fun y d _ j=>ai j) (ab (fun y d _ j=>LA j) (ab (v:=pB R.e) (fun y d _ j=>lK d.1 rfl j) ?_));refine ab (fun y d _ j=>GY j) (ab (v:=iv ((f:Int)+1)) (fun y d _ j=>lK d.2 m1 j) ?_)
 refine ab (fun y d _ j=>Lz j) (ab (fun y d _ j=>ldA (n:=6) (vs:=vCs V) underlying35 rfl (by kernel_rfl) d.2 m3 (by rw[bQ];exact hV) j) ?_);refine VF Z.e hf hA hV fun w4 e4 c4=>?_;have h4:=Z.setE c4 e4;have O:Below w.heap.size w w2.drew.drew:=M.drew.drew;have a2:=hb.lt;have z4:=z3.ch c4 fun hh=>absurd (List.mem_singleton.1 hh) (z3.ne Z.e.b (by decide))
 have ad:blk w2.drew.drew b 54 (evC x):=ac O hb hb.lt;have ag:=ad.ch c4 fun hh=>absurd (List.mem_singleton.1 hh) (ad.ne Z.e.b (by decide));have U:Ch (RpF R Rw) w w4:=(Ch.of_below O:Ch (RpF R Rw) w _).trans c4 fun y hy=>.inl (gD.2 (by rw[List.mem_singleton.1 hy];simp));have a0:=U.size;refine qZ underlying114 rfl (Value.int .u8) (id:Value→Value) fun w5 av b5 s5=>?_
 refine rL (v:=Value.func (.func 43) #[pB R.p] #[]) (x:=1) u8K underlying114 av fun w6 az o6=>?_;refine rL (v:=Value.func (.func 44) #[pB R.p] #[]) (x:=2) u8K underlying114 az fun w7 aS o7=>?_;have I:Below w4.heap.size w4 w7:=bv (bv b5 o6 (Nat.le_refl _)) o7 (Nat.le_refl _);have h7:=h4.below I;have z7:=ac I z4 z4.lt;have an:=ac I ag ag.lt;refine GX (lK (v:=.int .u8 1) z7 m0 ?_)
 refine LZ (x:=1) (z0:=Value.nilFunc) u8K underlying114 (fun _=>by kernel_rfl) aS (al z7 ?_);refine fM (all:=#[pB R.p,.agg ms.toArray]) rfl ?_;rw[←J];have X:=U.add (I.mono a0);have a4:=X.size;refine TZ h7 hr hE hc (VR.one an) (fun e he=>by rw[List.mem_singleton.1 he];exact hx) (by omega) hV fun w8 l' W' u F fa fc h8 d8 n8 _ c8 k8=>?_
 exact j w8 l' W' u F fa fc h8 d8 n8 (X.trans c8 fun y hy=>.inl hy) fun k hk=>(k8 k hk).imp id fun hh=>by omega
end
abbrev lr0 :List kN:=List.replicate 6 ⟨none,0,[]⟩
abbrev gp0 :List (List Int):=List.replicate 6 (List.replicate 6 0)
theorem SO.oth {s:PL}{t:STA}(h:SO w B s t a b)(o:Oth z w w')(j:z<B):SO w' B s t a b :=
 {h with
  nd:=cJ h.nd fun k d=>o.other k fun e=>by have:=(World.ownsRow.lt h.nd k d).1;omega
  gr:=cJ h.gr fun k d=>o.other k fun e=>by have:=(World.ownsRow.lt h.gr k d).1;omega}
theorem SO.fresh {s:PL}{t:STA}(h:SO w B s t a c)(b:Below w.heap.size w w'):SO w' B s t a c :=
 {h with
  nd:=cJ h.nd fun k d=>b.block k (World.ownsRow.lt h.nd k d).2
  gr:=cJ h.gr fun k d=>b.block k (World.ownsRow.lt h.gr k d).2}
structure DmM (w:World) (d m:Nat):Prop where
 b:blk w d 148 [.map (some m)]
 mb:MB u6 (id:Value→Value) w m []
theorem DmM.below (h:DmM w d m)(j:Below w.heap.size w w'):DmM w' d m:=⟨ac j h.b h.b.lt,h.mb.below j⟩
theorem DmM.ch (h:DmM w d m)(j:Ch F w w')(u:d∉F)(I:m∉F):DmM w' d m:=⟨h.b.ch j u,h.mb.ch j I⟩
section
variable {w:World}{K:KV}{R:RpB}{i:Nat}{l:PL}{W:HM}{Rw:List kN}{c:Int}{L:List (List Int)}
theorem Si (h:RpM w R i l W Rw c L)(hi:PI l)(hn:l.G.length≤1000000)(O:∀w' t J M,SO w' (w.heap.size+2) l t J M→Below w.heap.size w w'→K (.agg (saC t).toArray) w'):call Tryz.prog 8 #[pB R.p] K w:=by
 refine aj (goK func8) (AF ?_);refine dZ (z:=.agg (saC ⟨List.replicate 6 false,List.replicate 6 false,List.replicate 6 0,[],none,0,.slice none 0 0⟩).toArray) (by kernel_rfl) fun w1 d b1 s1=>?_;have d:blk w1 w.heap.size 45 (saC ⟨List.replicate 6 false,List.replicate 6 false,List.replicate 6 0,[],none,0,.slice none 0 0⟩):=by simpa[Value.cells]using d
 generalize U:saC ⟨List.replicate 6 false,List.replicate 6 false,List.replicate 6 0,[],none,0,.slice none 0 0⟩=zs at d;have ad:zs.length=20:=by rw[←U];rfl
 have Z:=h.below b1;refine wy (aO (ai (uN (lK (v:=pB R.q.p) Z.b rfl ?_))));refine HG Z.pm hi hn fun w2 t J M j b2=>?_;have h2:=ac b2 d d.lt;have hl:(saC t).length=20:=rA (by rw[j.eI];exact hi.i6) (by rw[j.eL];exact hi.l6) (by rw[j.eV];exact hi.v6);have X:∀v∈saC t,v.oneCell'=true:=by
  intro v I;unfold saC at I;rw[j.gv]at I;simp only[List.mem_append,List.mem_map,List.mem_cons,List.not_mem_nil,or_false]at I;rcases I with((⟨_,_,rfl⟩|⟨_,_,rfl⟩)|⟨_,_,rfl⟩)|(rfl|rfl)<;>rfl
 refine jP (n:=20) (vs:=saC t) (by kernel_rfl) hl h2 (by omega) X fun w3 h3 o3=>?_;rw[List.take_zero,List.nil_append,List.drop_of_length_le (by omega),List.append_nil]at h3;refine vD (v:=.agg (saC t).toArray) (fun _ O=>ldA (n:=20) (vs:=saC t) underlying45 rfl (by kernel_rfl) h3 (by rw[List.drop_zero,List.take_of_length_le (by omega)]) hl O) ?_;have u:=j.oth o3 (by omega);rw[s1]at u
 exact O w3 t J M u (bv (b1.trans (b2.mono b1.size)) o3 (Nat.le_refl _))
theorem UL (h:∀w',DmM w' (w.heap.size+1) w.heap.size→Below w.heap.size w w'→w'.heap.size=w.heap.size+2→K (pB (w.heap.size+1)) w'):call Tryz.prog 24 #[] K w:=by
 refine aj (goK func24) (KN (qZ underlying146 rfl u6 (id:Value→Value) fun M j b1 u=>eT (vs:=[.map (some w.heap.size)]) (by kernel_rfl) (cv fun I d b2 J=>?_)));rw[u]at d ⊢;exact h I ⟨by simpa[Value.cells]using d,j.below b2⟩ (b1.trans (b2.mono b1.size)) (by omega)
theorem Qm (al:KD w)(h1:1≤n)(h6:n≤6)(hi:1≤i∧i≤6)(hK:∀w' R,RpM w' R i (pl0 n) [] lr0 0 gp0→(∀k∈RpF R lr0,w.heap.size≤k)→Below w.heap.size w w'→(∃m,DmM w' R.d m∧(∀k∈RpF R lr0,k<m∧k<R.d))→K (.tuple #[pB R.p,ci 0]) w'):call Tryz.prog 7 #[iv (n:Nat),iv (i:Nat)] K w:=by
 refine aj (goK func7) (JO (Vw h1 h6 al fun O q p1 q1 b1=>cZ (db (bN (dX (by simp) (aM (bw (by simp) (dX (by omega) (de (bw (by omega) (aq (by omega) ?_)))))))))));have s1:=b1.size;refine Vo fun u g2 b2 s2=>UT fun J h3 b3 s3=>UP fun I e4 b4 s4=>UL fun w5 dm X am=>?_
 refine eT (vs:=[iv (i:Nat),pB q.p,pB O.heap.size,pB (u.heap.size+1),pB J.heap.size,pB (I.heap.size+1)]) (by kernel_rfl) (cv fun w6 z6 Z s6=>?_);have z6:blk w6 w5.heap.size 91 [iv (i:Nat),pB q.p,pB O.heap.size,pB (u.heap.size+1),pB J.heap.size,pB (I.heap.size+1)]:=by simpa[Value.cells]using z6
 have s5:=X.size;have lt:=p1.lt;have p2:=p1.below b2;have M:Below u.heap.size u w6:=((b3.trans (b4.mono (by omega))).trans (X.mono (by omega))).trans (Z.mono (by omega));have ad:Below J.heap.size J w6:=(b4.trans (X.mono (by omega))).trans (Z.mono (by omega));have ag:Below I.heap.size I w6:=X.trans (Z.mono (by omega));have ql:∀k∈q.l,k<O.heap.size:=lt
 have U:∀k,O.heap.size≤k→k∉q.l:=fun k j h=>by have:=ql k h;omega
 have lb:lrB lr0=[]:=rfl
 refine hK w6 ⟨w5.heap.size,q,O.heap.size,u.heap.size+1,u.heap.size,J.heap.size,I.heap.size+1⟩ ⟨z6,p2.below M,g2.below M,h3.below ad,e4.below ag,U w5.heap.size (by omega),fun k j=>?_,U (u.heap.size+1) (by omega),U u.heap.size (by omega),U J.heap.size (by omega),fun r hr=>?_,Int.le_refl _⟩ (fun k j=>?_) ((((b1.trans (b2.mono s1)).trans (M.mono (by omega))))) ⟨I.heap.size,dm.below Z,fun k j=>?_⟩
 ·rw[lb,List.mem_singleton]at j;rw[j];exact U _ (Nat.le_refl _)
 ·rw[List.eq_of_mem_replicate hr];exact Int.le_refl _
 ·rcases gD.1 j with j|rfl|j|rfl|rfl
  ·rcases q1 k (LB.wl k j)with rfl|h
   ·exact absurd j (by
     have nd:=p1.nd;intro h;simp only[LB.wv,List.mem_cons,List.not_mem_nil,or_false]at h;rcases h with h|h|h|h|h|h
     ·exact LN.zp nd h
     ·exact LN.zd nd h
     ·exact LN.zm nd h
     ·exact LN.zr nd h
     ·exact LN.zg nd h
     ·exact LN.za nd h)
   ·exact h
  ·exact s1
  ·rw[lb]at j;cases j
  ·show w.heap.size≤u.heap.size;omega
  ·show w.heap.size≤J.heap.size;omega
 ·rcases gD.1 j with j|rfl|j|rfl|rfl
  ·have:=ql k (LB.wl k j)
   exact⟨by omega,by show k<I.heap.size+1;omega⟩
  ·exact⟨by show O.heap.size<_;omega,by show O.heap.size<I.heap.size+1;omega⟩
  ·rw[lb]at j;cases j
  ·exact⟨by show u.heap.size<_;omega,by show u.heap.size<I.heap.size+1;omega⟩
  ·exact⟨by show J.heap.size<_;omega,by show J.heap.size<I.heap.size+1;omega⟩
end
end
section
attribute [local irreducible] bin un conv call bY blt slc af fld aV idx lkp dO gY eSt rng nxt ent ext alc box bld bT ld sto aU dE mkS ifc pick rdy wts aI sti cond bp Gives ae fh fT cOp
open Go.RowKit
def aC :List Value:=[.int .u8 1,u6 0,iv 0,iv 10,u6 0,u6 0]
def wE :EV:=⟨1,1,0,0,0,0,0,0,1,0,0,10,0,0⟩
abbrev v0 :List Int:=List.replicate 6 0
theorem QW (h:K (.pointer (some ⟨b,o+0,none⟩)) w):af Tryz.prog 33 (.pointer (some ⟨b,o,none⟩)) 0 K w:=aK (by kernel_rfl) h
theorem QX (h:K (.pointer (some ⟨b,o+1,none⟩)) w):af Tryz.prog 33 (.pointer (some ⟨b,o,none⟩)) 1 K w:=aK (by kernel_rfl) h
theorem QY (h:K (.pointer (some ⟨b,o+2,none⟩)) w):af Tryz.prog 33 (.pointer (some ⟨b,o,none⟩)) 2 K w:=aK (by kernel_rfl) h
theorem QZ (h:K (.pointer (some ⟨b,o+3,none⟩)) w):af Tryz.prog 33 (.pointer (some ⟨b,o,none⟩)) 3 K w:=aK (by kernel_rfl) h
theorem Lw (h:K (.pointer (some ⟨b,o+4,none⟩)) w):af Tryz.prog 33 (.pointer (some ⟨b,o,none⟩)) 4 K w:=aK (by kernel_rfl) h
theorem Ra (h:K (.pointer (some ⟨b,o+5,none⟩)) w):af Tryz.prog 33 (.pointer (some ⟨b,o,none⟩)) 5 K w:=aK (by kernel_rfl) h
theorem Ij (d:blk w b 33 aC)(h:K (.agg aC.toArray) w):ld Tryz.prog 33 (pB b) K w:=ldA (n:=6) (vs:=aC) underlying33 rfl (by kernel_rfl) d rfl rfl h
theorem FM (h:∀w',blk w' w.heap.size 33 aC→Below w.heap.size w w'→w'.heap.size=w.heap.size+1→K (pB w.heap.size) w'):box Tryz.prog 33 (.agg aC.toArray) K w:=cv fun w' d b s=>h w' (by simpa[Value.cells]using d) b s
theorem SR {t:STA}{i:Int}(u:(saC t).length=20)(h:∀w',Below w.heap.size w w'→K (.tuple #[cF,ci 0]) w'):call Tryz.prog 94 #[.agg (saC t).toArray,iv i,.agg aC.toArray] K w:=by
 refine aj (goK func94) (HH (cv fun O X b1 I=>cv fun U z2 b2 J=>FM fun j z3 d M=>?_));refine Lw (lK (v:=u6 0) z3 rfl (bg (jy rfl (Cm (by simp[asB,gd,undef]) (jy rfl (bO rfl (bu (h j ?_))))))));exact(b1.trans (b2.mono (by omega))).trans (d.mono (by omega))
theorem Uq (h:∀w',Below w.heap.size w w'→K (.tuple #[u6 1,ci 0]) w'):call Tryz.prog 136 #[.agg (vCs v0).toArray,iv 1] K w:=by
 refine aj (goK func136) (Kf (uA rfl fun j d b1 u=>?_));refine Oj (dB ?_);rw[show bK 1=true by decide];refine aO (bh (by omega) (by omega) (ixV (k:=0) rfl (by omega) (lK (v:=u6 0) d rfl (bM (aq (by omega) ?_)))));exact bh (by omega) (by omega) (ixV (k:=0) rfl (by omega) (lK (v:=u6 0) d rfl (jS (h j b1))))
theorem Vs {q:LB}{s:PL}{e:EV}(h:PM w q s)(hi:PI s)(j:∀w',Below w.heap.size w w'→K (ci (np e s)) w'):call Tryz.prog 139 #[pB q.p,evV e] K w:=by
 refine aj (goK func139) (BP (xj fun O u b1 M=>gB u ?_));refine Mt (h.below b1) hi (fun d _ b2=>cZ (db (j d (b1.trans (b2.mono b1.size))))) fun I d J b2 _=>cZ (db ?_)
 have:=j d (b1.trans (b2.mono b1.size))
 rwa[I]at this
theorem Vh (hi:blk w b 3 [iv 1])(Z:blk w c 31 [u6 1])(X:blk w k 35 (vCs v0))(h:∀w',Below w.heap.size w w'→K (evV wE) w'):call Tryz.prog 137 #[.agg aC.toArray,.func (.func 138) #[] #[pB b,pB c,pB k]] K w:=by
 refine aj (goK func137) (KJ (FM fun w1 z1 b1 s1=>nG fun w2 t2 b2 s2=>?_));have z2:=ac b2 z1 z1.lt;refine QW (lK (v:=.int .u8 1) z2 rfl (QX (lK (v:=u6 0) z2 rfl (QY (lK (v:=iv 0) z2 rfl (QZ (lK (v:=iv 10) z2 rfl (Lw (lK (v:=u6 0) z2 rfl (Ra (lK (v:=u6 0) z2 rfl ?_)))))))))));refine eT (vs:=evC ⟨0,0,0,0,0,0,0,0,1,0,0,10,0,0⟩) (by kernel_rfl) (nG fun w3 e3 b3 s3=>?_)
 refine lj (e':=⟨0,0,0,0,0,0,0,0,1,0,0,10,0,0⟩) e3 fun w4 e4 o4=>?_;have u:Below w.heap.size w w4:=bv ((b1.trans (b2.mono (by omega))).trans (b3.mono (by omega))) o4 (by omega);have i4:=ac u hi hi.lt;have q4:=ac u Z Z.lt;have k4:=ac u X X.lt;have t4:=o4.blk (ac b3 t2 t2.lt) (by omega);have li:=hi.lt;have ls:=Z.lt;have lk:=X.lt;have z4:=o4.size;refine fM rfl (aj (goK func138) (If ?_))
 refine aw (fun x=>blk x b 3 [iv 1]∧blk x c 31 [u6 1]∧blk x k 35 (vCs v0)) ⟨i4.drew,q4.drew,k4.drew⟩ ?_;refine ab (v:=iv 1) (fun x d _ j=>lK d.1 rfl j) (ab (v:=u6 1) (fun x d _ j=>lK d.2.1 rfl j) (ab (fun x d _ j=>pe rfl d.2.2 j) ?_));refine ab (fun x d _ j=>ai j) (ab (fun x d _ j=>bD j) ?_)
 refine eB (fun _=>by kernel_rfl) e4.drew (by show 0+0<14;omega) rfl fun w5 M I=>aE ⟨I.blk i4.drew (by omega),I.blk q4.drew (by omega),I.blk k4.drew (by omega)⟩ ?_;have M:blk w5 w2.heap.size 54 (evC ⟨1,0,0,0,0,0,0,0,1,0,0,10,0,0⟩):=M;have i5:=I.blk i4.drew (by omega);have q5:=I.blk q4.drew (by omega);have k5:=I.blk k4.drew (by omega)
 refine ab (fun x d _ j=>ai j) (ab (fun x d _ j=>iZ j) ?_);refine eB (fun _=>by kernel_rfl) M (by show 0+1<14;omega) rfl fun w6 O J=>aE ⟨J.blk i5 (by omega),J.blk q5 (by omega),J.blk k5 (by omega)⟩ ?_;have O:blk w6 w2.heap.size 54 (evC ⟨1,1,0,0,0,0,0,0,1,0,0,10,0,0⟩):=O;refine ab (fun x d _ j=>ai j) (ab (fun x d _ j=>qR j) ?_)
 refine jP (n:=6) (vs:=vCs v0) (by kernel_rfl) rfl O (by show 0+2+6≤14;omega) CM fun w7 U o7=>?_;have U:blk w7 w2.heap.size 54 (evC wE):=U;have t7:=o7.blk (J.blk (I.blk t4.drew (by omega)) (by omega)) (by omega);refine gB U (lj (e':=wE) t7 fun w8 t8 o8=>?_);exact vD (v:=evV wE) (fun _ j=>gB t8 j) (h w8 (bv (bv (bv (bv u.drew I (by omega)) J (by omega)) o7 (by omega)) o8 (by omega)))
theorem Le :np wE (pl0 2)=0:=by decide
theorem Ix {q:Nat}{u:Value}{e:EV}(j:blk w q 54 (evC e))(h:K (.tuple #[evV e,u]) w):bp Tryz.prog [(some 54,.pointer (some ⟨q,0,none⟩)),(none,u)] K w:=CJ (v:=evV e) (fun _ d=>gB j d) h
theorem Vi {q:LB}(h:PM w q (pl0 2))(hK:∀w',Below w.heap.size w w'→K (.tuple #[evV wE,ci 0]) w'):call Tryz.prog 95 #[pB q.p,iv 1,.agg aC.toArray] K w:=by
 refine aj (goK func95) (KI (cv fun w1 i1 b1 s1=>FM fun w2 z2 b2 s2=>nG fun w3 t3 b3 s3=>Ck (aO ?_)));have i1:blk w1 w.heap.size 3 [iv 1]:=i1;have M:=(b1.trans (b2.mono (by omega))).trans (b3.mono (by omega));refine AB (h.below M) fun w4 b4=>AN fun w5 k5 b5 s5=>yb (W:=v0) rfl rfl k5 fun w6 k6 o6=>?_;have Z:=M.trans (b4.mono M.size);have z4:=b4.size;have z6:=o6.size
 have I:Below w4.heap.size w4 w6:=bv b5 o6 (Nat.le_refl _);have u:=Z.trans (I.mono Z.size);have i6:=ac I (ac b4 (ac b3 (ac b2 i1 i1.lt) (by omega)) (by omega)) (by omega);have a6:=ac I (ac b4 (ac b3 z2 z2.lt) (by omega)) (by omega);have t6:=ac I (ac b4 t3 t3.lt) (by omega);refine pe rfl k6 (lK (v:=iv 1) i6 rfl (Uq fun w7 X=>cZ (db ?_)));have k7:=ac X k6 k6.lt
 have i7:=ac X i6 i6.lt;have a7:=ac X a6 a6.lt;have t7:=ac X t6 t6.lt;have z7:=X.size;refine sE (x:=u6 0) (by kernel_rfl) rfl fun w8 q8 b8 s8=>eB (fun _=>by kernel_rfl) q8 (by simp) rfl fun w9 q9 o9=>?_;have q9:blk w9 w7.heap.size 31 [u6 1]:=q9;have j:Below w7.heap.size w7 w9:=bv b8 o9 (Nat.le_refl _);have k9:=ac j k7 k7.lt;have i9:=ac j i7 i7.lt;have a9:=ac j a7 a7.lt
 have t9:=ac j t7 t7.lt;have z9:=o9.size;refine bg (aq (by omega) (Ij a9 (Vh i9 q9 k9 fun a3 ad=>nG fun a4 am al a2=>lj (e':=wE) am fun w12 U ap=>?_)));have a0:=ad.size;have J:Below w9.heap.size w9 w12:=bv (ad.trans (al.mono a0)) ap (by omega);have d:=((u.trans (X.mono u.size)).trans (j.mono (by have:=u.size;omega))).trans (J.mono (by have:=u.size;omega))
 have ag:=ac J t9 t9.lt;refine Ig (gB U (Vs (h.below d) (rh 2) fun a8 O=>?_));rw[Le];have an:=ac O U U.lt;have av:=ac O ag ag.lt;refine bN (aq (by simp) (gB an (lj (e':=wE) av fun aS az ar=>?_)));exact Ix az (hK aS (bv (d.trans (O.mono d.size)) ar (by omega)))
theorem Qn {q:LB}(h:PM w q (pl0 2))(j:∀w',PM w' q (eff wE (pl0 2))→Ch q.wv w w'→K (.tuple #[evV wE,ci 0]) w'):call Tryz.prog 57 #[pB q.p,iv 1,.agg aC.toArray] K w:=by
 have X:=h.lt;refine aj (goK func57) (KT (FM fun w1 z1 b1 s1=>nG fun w2 t2 b2 s2=>Ck (aO ?_)));have O:=b1.trans (b2.mono (by omega));have h2:=(h.below O).below (Below.refl _ w2).drew;have z2:=ac b2 z1 z1.lt;refine aw (fun x=>blk x w.heap.size 33 aC) z2.drew (ab (fun x d _ j=>Ij d j) ?_);refine HG h2 (rh 2) (by show 0≤1000000;omega) fun w3 t ga gc so b3=>?_
 have J:Below w2.heap.size w2 w3:=(Below.refl _ w2).drew.trans b3;have z3:=ac J z2 z2.lt;have t3:=ac J t2 t2.lt;have U:=O.trans (J.mono (by omega));have hi:=rh 2;refine aE z3 (SR (rA (by rw[so.eI];exact hi.i6) (by rw[so.eL];exact hi.l6) (by rw[so.eV];exact hi.v6)) fun w4 b4=>?_);have z4:=ac b4 z3 z3.lt;have t4:=ac b4 t3 t3.lt;have u:=U.trans (b4.mono U.size)
 refine aw (fun _=>True) trivial (ab (fun x _ _ j=>cZ j) (ab (fun x _ _ j=>db j) (aO (Ij z4 ?_))));refine Vi (h.below u) fun w5 Z=>cZ (db (nG fun w6 x6 b6 s6=>lj (e':=wE) x6 fun w7 x7 o7=>Ja (bN (aq (by simp) ?_))));have M:Below w4.heap.size w4 w7:=bv (Z.trans (b6.mono Z.size)) o7 Z.size;have I:=u.trans (M.mono u.size);have h7:=(h.below I).below (Below.refl _ w7).drew
 have t7:=ac M t4 t4.lt;have l2:=t2.lt;have s7:=I.size;have s5:=Z.size;refine aw (fun x=>blk x w5.heap.size 54 (evC wE)) x7.drew (ab (fun x d _ j=>gB d j) (ab (fun x d _ j=>gB d j) ?_));refine Mn h7 (rh 2) fun w8 p8 c8=>?_;rw[Le];rw[show jL wE (pl0 2)=eff wE (pl0 2)by unfold jL;rw[if_pos Le]]at p8;have hn:∀k,w.heap.size≤k→k∉q.wv:=fun k hk hh=>by have:=X k (LB.wl k hh);omega
 have ag:=M.size;have ad:=u.size;have x8:=x7.drew.ch c8 (hn _ (by omega));have t8:=t7.drew.ch c8 (hn _ (by omega));refine aE x8 (lj (e':=wE) t8 fun w9 t9 o9=>aw (fun _=>True) trivial (Ix t9 (j w9 (p8.oth o9 fun hh=>by have:=X _ hh;omega) ?_)));exact((Ch.of_below I.drew:Ch q.wv w w7.drew).trans c8 fun x hx=>.inl hx).add (bv (Below.refl _ w8) o9 (by omega))
end
section
attribute [local irreducible] bin un conv call bY blt slc af fld aV idx lkp dO gY eSt rng nxt ent ext alc box bld bT ld sto aU dE mkS ifc pick rdy wts aI sti cond bp Gives ae fh fT cOp
open Go.RowKit Go.ChangeMaps
theorem Wm {f:Value}(J:n≤1)(h:K (.tuple #[]) w):call Tryz.prog 100 #[.slice a n c,f] K w:=by
 refine aj (goK func100) (qH (bj underlying164 (dS underlying3 underlying196 ?_)));rw[show IntKind.u64.wrap (n:Nat)=(n:Nat)by rw[gF];omega];refine IL (by omega) fun r M=>?_;refine aj (goK func143) (sX ?_);refine rO (Inv:=fun a b _ _ _ _ _ _ _ _ _ _ _ _ _ _ _ _ _ _ _ wr=>a=ci 0∧b=iv (n:Nat)∧w=wr) (μ:=fun _ _ _ _ _ _ _ _ _ _ _ _ _ _ _ _ _ _ _ _ _ _=>0) ⟨rfl,rfl,rfl⟩ ?_
 rintro _ _ _ _ _ _ _ _ _ _ _ _ _ _ _ _ _ _ _ _ _ dd _ O ⟨rfl,rfl,rfl⟩ u;refine bh (by omega) (by omega) (fU (ax (by omega) ?_));refine aj (goK func168) (qK (aW (by omega) (by omega) ?_));refine qh (Inv:=fun i _ _ _ _ _ _ _ _ _ _ _ _ wr=>i=ci 1∧w=wr) (μ:=fun _ _ _ _ _ _ _ _ _ _ _ _ _ _=>0) ⟨rfl,rfl⟩ ?_;rintro _ _ _ _ _ _ _ _ _ _ _ _ _ j _ I ⟨rfl,rfl⟩ d;exact aM (aq (by omega) h)
theorem Wl {f:Value}(J:n≤1)(h:K (.tuple #[]) w):call Tryz.prog 106 #[.slice a n c,f] K w:=by
 refine aj (goK func106) (qI (bj underlying136 (dS underlying3 underlying196 ?_)));rw[show IntKind.u64.wrap (n:Nat)=(n:Nat)by rw[gF];omega];refine IL (by omega) fun r M=>?_;refine aj (goK func147) (sY ?_);refine rQ (Inv:=fun a b _ _ _ _ _ _ _ _ _ _ _ _ _ _ _ _ _ _ _ wr=>a=ci 0∧b=iv (n:Nat)∧w=wr) (μ:=fun _ _ _ _ _ _ _ _ _ _ _ _ _ _ _ _ _ _ _ _ _ _=>0) ⟨rfl,rfl,rfl⟩ ?_
 rintro _ _ _ _ _ _ _ _ _ _ _ _ _ _ _ _ _ _ _ _ _ dd _ O ⟨rfl,rfl,rfl⟩ u;refine bh (by omega) (by omega) (fU (ax (by omega) ?_));refine aj (goK func176) (qL (aW (by omega) (by omega) ?_));refine qi (Inv:=fun i _ _ _ _ _ _ _ _ _ _ _ _ wr=>i=ci 1∧w=wr) (μ:=fun _ _ _ _ _ _ _ _ _ _ _ _ _ _=>0) ⟨rfl,rfl⟩ ?_;rintro _ _ _ _ _ _ _ _ _ _ _ _ _ j _ I ⟨rfl,rfl⟩ d;exact aM (aq (by omega) h)
theorem Rb (h:K (.pointer (some ⟨b,o+0,none⟩)) w):af Tryz.prog 148 (.pointer (some ⟨b,o,none⟩)) 0 K w:=aK (by kernel_rfl) h
theorem Tg (h:K (.bool false) w):bin Tryz.prog .eql 88 cx cy (pB b) (.pointer none) K w :=
 jm (by unfold eqG eqGuard;rfl) (by kernel_rfl) h
theorem Of {f:Value}(h:DmM w d m)(u:∀w',Below w.heap.size w w'→K (.slice none 0 0) w'):call Tryz.prog 61 #[pB d,f] K w:=by
 refine aj (goK func61) (BE (Tg (aO (ai (Rb (lK (v:=.map (some m)) h.b rfl ?_))))));refine Fx underlying146 h.mb fun O M b1 X=>?_;have I:=h.mb.lt;refine zK (Inv:=fun l wr=>l=.slice none 0 0∧O=wr) (μ:=fun _ _=>0) ⟨rfl,rfl⟩ ?_;rintro _ dd _ U ⟨rfl,rfl⟩ J;refine Fl M (by omega) (fun _=>sv rfl (aO (zL (Wm (by omega) (u _ b1))))) fun x v w' j=>?_;cases j
theorem SZ (h:DmM w d m)(j:∀w',Below w.heap.size w w'→K (.slice none 0 0) w'):call Tryz.prog 31 #[pB d] K w:=by
 refine aj (goK func31) (Cj (Of h fun I b1=>bj underlying164 ?_));refine AO (Inv:=fun o i wr=>o=.slice none 0 0∧i=ci 0∧I=wr) (μ:=fun _ _ _=>0) ⟨rfl,rfl,rfl⟩ ?_;rintro _ _ dd _ J ⟨rfl,rfl,rfl⟩ u;exact aM (aq (by omega) (AP (j _ b1)))
theorem UJ (h:DmM w d m)(u:∀w',Below w.heap.size w w'→K (.slice none 0 0) w'):call Tryz.prog 35 #[pB d,cu x] K w:=by
 refine aj (goK func35) (CT (cv fun w0 _ j s0=>Of (h.below j) fun J b1=>bj underlying164 ?_));refine BC (Inv:=fun o i wr=>o=.slice none 0 0∧i=ci 0∧J=wr) (μ:=fun _ _ _=>0) ⟨rfl,rfl,rfl⟩ ?_;rintro _ _ dd _ M ⟨rfl,rfl,rfl⟩ I;exact aM (aq (by omega) (BD (u _ (j.trans (b1.mono j.size)))))
end
section
open Go.RowKit
theorem SS {t e ty : TypeId} {cs : Array Bool} {s m c : Nat} {av : Option Addr} (ht : P.underlying t = some (.slice e)) (hs : ∀ w, (sizeOf e).run P w = .ok s w) (hc : m ≤ c) (h : K (.slice av m c) w) : blt P .append #[t, t] ty cs #[.slice av m c, .slice none 0 0] K w := by
  refine qv (v := .slice av m c) (w' := w) ?_ h
  rw [BigFrame.builtin_append]
  cases av with
  | none => simp [Builtin.append_, run_underlying ht, hs, Builtin.lenOf, Builtin.firstCells, Sem.run_pure, Sem.run_bind, Result.andThen, hc]
  | some a => simp [Builtin.append_, run_underlying ht, hs, Builtin.lenOf, Builtin.firstCells, Sem.run_pure, Sem.run_bind, Result.andThen, hc, storeCells]
attribute [local irreducible] bin un conv call bY blt slc af fld aV idx lkp dO gY eSt rng nxt ent ext alc box bld bT ld sto aU dE mkS ifc pick rdy wts aI sti cond bp Gives ae fh fT cOp
theorem Sc (h:K (ci 0) w):call Tryz.prog 105 #[.slice none 0 0,u6 0] K w:=by
 refine aj (goK func105) (By (aj (goK func145) (iV (bj underlying136 ?_))));refine iB (Inv:=fun i j wr=>i=ci 0∧j=ci 0∧w=wr) (μ:=fun _ _ _=>0) ⟨rfl,rfl,rfl⟩ ?_;rintro _ _ dd _ u ⟨rfl,rfl,rfl⟩ d;exact aM (aq (by omega) (iC (aM (dY (by simp) (bw (by simp) (cZ (db h)))))))
theorem Mv (h:∀w',Below w.heap.size w w'→K (ci 1) w'):call Tryz.prog 146 #[.agg (itC (wE,0)).toArray,u6 0] K w:=by
 refine aj (goK func146) (Gu (cv fun j d b1 u=>?_));have d:blk j w.heap.size 200 (itC (wE,0)):=by simpa[Value.cells]using d
 exact aK (off:=0) (by kernel_rfl) (iZ (lK (v:=u6 1) d rfl (fU (aq (by omega) (h j b1)))))
theorem Sd (I:w.ownsRow B 200 15 (.slice a 1 cp) 1 ([(wE,(0:Int))].flatMap itC))(h:∀w',Below w.heap.size w w'→K (ci 0) w'):call Tryz.prog 105 #[.slice a 1 cp,u6 0] K w:=by
 refine aj (goK func105) (By (aj (goK func145) (iV (bj underlying136 ?_))));refine iB (Inv:=fun i j wr=>i=ci 0∧(j=ci 1∨j=ci 0)∧Below w.heap.size w wr) (μ:=fun _ j _=>(intOf j).toNat) ⟨rfl,.inl rfl,Below.refl _ _⟩ ?_;rintro _ _ dd U X ⟨rfl,M,b1⟩ u;have d:=cJ I (w':=U) fun k O=>b1.block k (World.ownsRow.lt I k O).2;rcases M with rfl|rfl
 ·refine aM (ax (by omega) (aW (by omega) (by omega) (dS underlying3 underlying196 ?_)));refine jm (v:=.int .u64 0) (by unfold eqG;rfl) (by kernel_rfl) (dS underlying196 underlying3 ?_)
  refine Ge (i:=0) (enc:=itC) (s:=15) (L:=[(wE,(0:Int))]) (x:=(wE,(0:Int))) underlying136 (fun _=>by kernel_rfl) underlying200 rfl (by kernel_rfl) FU d rfl rfl fun _=>fM rfl (Mv fun J b2=>aM (aq (by omega) ⟨⟨rfl,.inr rfl,b1.trans (b2.mono b1.size)⟩,?_⟩));rw[u];decide
 ·refine aM (aq (by omega) (iC (aM (dD (by simp) ?_))));refine Ge (i:=0) (enc:=itC) (s:=15) (L:=[(wE,(0:Int))]) (x:=(wE,(0:Int))) underlying136 (fun _=>by kernel_rfl) underlying200 rfl (by kernel_rfl) FU d rfl rfl fun _=>fM rfl (Mv fun J b2=>bg (bO (by simp) (cZ (db (h J (b1.trans (b2.mono b1.size)))))))
end
section
attribute [local irreducible] bin un conv call bY blt slc af fld aV idx lkp dO gY eSt rng nxt ent ext alc box bld bT ld sto aU dE mkS ifc pick rdy wts aI sti cond bp Gives ae fh fT cOp
open Go.RowKit
abbrev lr1 (a:Option Nat)(cp:Nat):List kN:=[⟨a,cp,[(wE,0)]⟩,⟨none,0,[]⟩,⟨none,0,[]⟩,⟨none,0,[]⟩,⟨none,0,[]⟩,⟨none,0,[]⟩]
theorem Ku {v:Value}{xs:List Value}(h:w.ownsRow B E s v n xs)(J:b≤B):w.ownsRow b E s v n xs:=by
 refine⟨h.1,h.2.imp id ?_⟩;rintro⟨g,cap,d,j,u,I⟩;exact⟨g,cap,d,j,Nat.le_trans J u,I⟩
theorem UF (h:K (ci 1) w):blt Tryz.prog .min #[3,3] 3 #[false,false] #[ci 16,iv (1:Nat)] K w:=qv (v:=ci 1) (by kernel_rfl) h
theorem UE (h:K (ci 1) w):blt Tryz.prog .max #[3,3] 3 #[false,true] #[ci 1,ci 0] K w:=qv (v:=ci 1) (by kernel_rfl) h
theorem Ud {a:Option Nat}{V:List Int}{c:Int}(h:LoM w g (lr1 a cp) V c)(hK:∀w' d j,w'.ownsRow w.heap.size 54 14 (.slice d 1 j) 1 ([wE].flatMap evC)→Below w.heap.size w w'→K (.slice d 1 j) w'):call Tryz.prog 64 #[pB g,.agg (vCs v0).toArray,ci 16] K w:=by
 refine aj (goK func64) (Ep (uA rfl fun w1 v1 b1 s1=>Nu (aO (ai (GU ?_)))));have h1:=h.below b1;refine ldA (n:=6) (vs:=(lr1 a cp).map lrV) underlying137 rfl (by kernel_rfl) h1.b (by rfl) rfl ?_;have O:=h.row 0 _ rfl;obtain⟨ii,bk,b7,b5,a7⟩:=info_parts Km
 refine CB (Inv:=fun al t wr=>∃k:Nat,t=iv (k:Nat)∧k≤6∧Below w.heap.size w wr∧blk wr w.heap.size 35 (vCs v0)∧((k=0∧al=.slice none 0 0)∨(0<k∧∃d j,al=.slice d 1 j∧wr.ownsRow w.heap.size 200 15 (.slice d 1 j) 1 ([(wE,(0:Int))].flatMap itC)))) (μ:=fun _ t _=>6-(intOf t).toNat)
  ⟨0,rfl,by omega,b1,v1,.inl ⟨rfl,rfl⟩⟩ ?_
 rintro al _ dd w2 mu ⟨k,rfl,I,b2,v2,ar⟩ bt;refine aM ?_;by_cases M:k<6
 ·refine ax (by omega) ?_;have ap:∀{x:World},6-(intOf (iv ((k:Int)+1))).toNat<mu:=fun {x} => by rw[bt];show 6-((k:Int)+1).toNat<6-((k:Nat):Int).toNat;omega
  rcases ar with⟨rfl,rfl⟩|⟨b8,d,j,rfl,ho⟩
  ·refine Lc (v:=lrV ⟨a,cp,[(wE,0)]⟩) underlying137 (fun _=>by kernel_rfl) (fun _=>by kernel_rfl) M rfl (ixV (k:=0) rfl (by omega) (lK (v:=u6 0) v2 rfl ?_));have ad:=cJ O (w':=w2) fun k I=>b2.block k (World.ownsRow.lt O k I).2;refine Sd ad fun u J=>?_;have b0:=cJ ad (w':=u) fun k I=>J.block k (World.ownsRow.lt ad k I).2;obtain⟨gb,Z,ha,op⟩:=cq b0 (by show 0<1;omega)
   have av:=op.nc;refine OX (q:=0) underlying136 (s:=15) (fun _=>by kernel_rfl) (by omega) av ?_;have a8 : ¬cp=0:=by have:1≤cp:=av;omega
   rw[if_neg a8,ha];have U:=b2.trans (J.mono b2.size);refine FK (s:=15) (m:=1) (g:=gb) (q:=0) (zs:=Z) (ys:=itC (wE,0)) underlying136 bk b7 b5 a7 rfl (by omega) (World.ownsRow_nil u w.heap.size _ _) op.blk rfl (by rw[List.drop_zero];exact op.take) (JD _) (by omega) (by omega) U.size fun a' c' w4 r4 g4=>?_;have am:Below u.heap.size u w4:=dW g4 (Nat.le_refl _) fun k I=>by cases I
   have v4:=ac am (ac J v2 v2.lt) (by have:=v2.lt;have:=J.size;omega);exact aW (by omega) (by omega) ⟨⟨1,rfl,by omega,U.trans (am.mono U.size),v4,.inr ⟨by omega,a',c',rfl,r4⟩⟩,ap (x:=w4)⟩
  ·refine Lc (v:=.slice none 0 0) underlying137 (fun _=>by kernel_rfl) (fun _=>by kernel_rfl) M (by
    have:k=1∨k=2∨k=3∨k=4∨k=5:=by omega
    rcases this with rfl|rfl|rfl|rfl|rfl<;>rfl) (ixV rfl M (lK (v:=u6 0) v2 (by
    have:k=1∨k=2∨k=3∨k=4∨k=5:=by omega
    rcases this with rfl|rfl|rfl|rfl|rfl<;>rfl) ?_))
   refine Sc (OX (q:=0) underlying136 (s:=15) (fun _=>by kernel_rfl) (by omega) (by omega) ?_);obtain⟨gb,Z,ha,op⟩:=cq ho (by omega);refine SS (s:=15) underlying136 (fun _=>by kernel_rfl) op.nc (aW (by omega) (by omega) ⟨⟨k+1,congrArg iv (by push_cast;rfl),M,b2,v2,.inr ⟨by omega,d,j,rfl,ho⟩⟩,ap (x:=w2)⟩)
 ·have bs:k=6:=by omega
  subst bs;rcases ar with⟨hh,_⟩|⟨_,d,j,rfl,ho⟩
  ·omega
  obtain⟨gb,Z,ha,op⟩:=cq ho (by omega);have bi:=op.nc;refine aq (by omega) (CD (Wl (by omega) (bj underlying136 (UF (UE ?_)))));refine Wn (m:=1) underlying136 (s:=15) (fun _=>by kernel_rfl) bi (bj underlying136 ?_);obtain⟨ei,bb,be,bd,a9⟩:=info_parts JB
  refine CC (Inv:=fun ag t wr=>Below w2.heap.size w2 wr∧((t=ci 0∧ag=.slice none 0 0)∨(t=ci 1∧∃d j,ag=.slice d 1 j∧wr.ownsRow w.heap.size 54 14 (.slice d 1 j) 1 ([wE].flatMap evC)))) (μ:=fun _ t _=>1-(intOf t).toNat) ⟨Below.refl _ _,.inl ⟨rfl,rfl⟩⟩ ?_;rintro ag _ dd u b9 ⟨J,aS⟩ az;have a0:=b2.size;rcases aS with⟨rfl,rfl⟩|⟨rfl,a4,a6,rfl,r3⟩
  ·refine aM (ax (by omega) ?_);have bW:=cJ ho (w':=u) fun k I=>J.block k (World.ownsRow.lt ho k I).2;refine Ge (i:=0) (enc:=itC) (s:=15) (L:=[(wE,(0:Int))]) (x:=(wE,(0:Int))) underlying136 (fun _=>by kernel_rfl) underlying200 rfl (by kernel_rfl) FU bW rfl rfl fun _=>?_;refine dZ (z:=.agg (itC (evZ,0)).toArray) (by kernel_rfl) fun w4 z4 b4 s4=>?_
   have z4:blk w4 u.heap.size 200 (itC (evZ,0)):=by simpa[Value.cells]using z4
   refine jP (n:=15) (vs:=itC (wE,0)) (by kernel_rfl) rfl z4 (by show 0+15≤15;omega) (JD _) fun w5 z5 o5=>?_;have z5:blk w5 u.heap.size 200 (itC (wE,0)):=z5;refine aK (off:=0) (by kernel_rfl) (ldA (n:=14) (vs:=evC wE) underlying54 rfl (by kernel_rfl) z5 rfl rfl ?_);have an:Below u.heap.size u w5:=bv b4 o5 (Nat.le_refl _)
   refine mY [evV wE] underlying36 (s:=14) (by kernel_rfl) (by kernel_rfl) (by omega) rfl (by simp) (by decide) rfl (by
    intro v hv;rw[List.mem_singleton.1 hv];rfl) fun w6 e6 b6 s6=>?_
   have e6:blk w6 w5.heap.size 54 (evC wE):=by simpa[Value.cells,evV]using e6
   have a2:=an.trans (b6.mono an.size);have X:=J.trans (a2.mono J.size);refine FK (s:=14) (m:=1) (g:=w5.heap.size) (q:=0) (zs:=evC wE) (ys:=evC wE) underlying36 bb be bd a9 rfl (by omega) (World.ownsRow_nil w6 w.heap.size _ _) e6 rfl rfl (qy _) (by omega) (by omega) (Nat.le_trans a0 X.size) fun a' c' w7 r7 g7=>?_
   have a3:Below w6.heap.size w6 w7:=dW g7 (Nat.le_refl _) fun k I=>by cases I
   refine aW (by omega) (by omega) ⟨⟨X.trans (a3.mono X.size),.inr ⟨rfl,a',c',rfl,r7⟩⟩,?_⟩;rw[az];decide
  ·exact aM (aq (by omega) (CE (hK u a4 a6 r3 (b2.trans (J.mono a0)))))
theorem WC (h:GoM w p gp0)(d:∀w',Below w.heap.size w w'→K (.agg (vCs v0).toArray) w'):call Tryz.prog 65 #[pB p,ci 2] K w:=by
 refine aj (goK func65) (EH (AN fun U I b1 O=>Ju (lR (Px (dB (ex (aO (bh (by omega) (by omega) (ai (GO ?_))))))))));have j:=h.below b1;refine eO underlying143 (s:=6) (fun _=>by kernel_rfl) (by omega) (by omega) ?_;refine ldA (n:=6) (vs:=vCs v0) underlying35 rfl (by kernel_rfl) j.b rfl rfl (yb (W:=v0) rfl rfl I fun M J u=>?_)
 exact vD (v:=.agg (vCs v0).toArray) (fun _ d=>pe rfl J d) (d M (bv b1 u (Nat.le_refl _)))
theorem Tw {a:Option Nat}{V:List Int}{c:Int}(I:GoM w p gp0)(h:LoM w g (lr1 a cp) V c)(u:∀w' d j,w'.ownsRow w.heap.size 54 14 (.slice d 1 j) 1 ([wE].flatMap evC)→Below w.heap.size w w'→K (.slice d 1 j) w'):call Tryz.prog 34 #[pB p,ci 2,pB g,ci 16] K w:=by
 refine aj (goK func34) (Cl (Ju (aO (WC I fun O b1=>Ud (h.below b1) fun M d j J b2=>?_))));exact u M d j (Ku J b1.size) (b1.trans (b2.mono b1.size))
def upC (C:Nat→Int)(i:Nat):Nat→Int:=fun k=>if k=i then C k+1 else C k
theorem Jl :∀k,k<6→C k≤upC C i k:=by intro k _;unfold upC;split<;>omega
theorem Um (hi:i<6):upC C i 0+upC C i 1+upC C i 2+upC C i 3+upC C i 4+upC C i 5=C 0+C 1+C 2+C 3+C 4+C 5+1:=by
 match i,hi with
 | 0,_=>simp[upC];omega
 | 1,_=>simp[upC];omega
 | 2,_=>simp[upC];omega
 | 3,_=>simp[upC];omega
 | 4,_=>simp[upC];omega
 | 5,_=>simp[upC];omega
theorem WM.oth {L:List (Nat×LG)}{E:List EV}{zs:List Value}(h:WM w Bw g L E C)(U:blk w tb 54 zs)(O:Bw≤tb)(hd:∀(d:Option Addr) (j:Nat) u I,blk w g 74 [.slice u L.length I,.slice d E.length j]→(Value.slice d E.length j).ownBlock≠some tb)(o:Oth tb w w'):WM w' Bw g L E C:=by
 obtain⟨u,I,d,j,J,X,Z⟩:=h.row;exact {h with
  row:=⟨u,I,d,j,o.blk J (fun M=>J.ne U (by decide) M),eZ X U (by decide) o,cJ Z fun k hk=>o.other k (fun M=>hd d j u I J (by rw[hk,M]))⟩
  led:=fun x hx=>(h.led x hx).keepW (o.keep (T:=CO) U (by simp) O)}
theorem VQ {L:List (Nat×LG)}{E:List EV}{e:EV}{zs:List Value}(M:WM w0 Bw g L E C)(a4:Below w0.heap.size w0 w)(O:Bw≤w0.heap.size)(a2:w0.heap.size≤tb)(cl:w0.heap.size≤eb)(b7:tb≠eb)(hn:E.length≤800)(hi:i<L.length)(cm:e.o=(i:Nat)+1){Z:Nat×LG}(an:L[i]? = some Z)(a9:e.s=Z.2.s.V.getD i 0+1)(b0:e.V=Z.2.s.V)(b3:0≤e.a∧e.a≤65536)(az:blk w eb 54 (evC e))(hz:blk w tb 54 zs)(bs:zs.length=14)(q0:Y1=.pointer (some ⟨g,0,none⟩))(q4:U2=.pointer (some ⟨tb,0,none⟩))(q5:V2=.int .i64 (i:Nat))(q6:W2=.pointer (some ⟨eb,0,none⟩))(h:∀w' L' E' C' e',WM w' Bw g L' E' C'→L'.length=L.length→E'.length≤E.length+1→Below Bw w0 w'→K (.agg (evC e').toArray) w'):kj K ((kP Y1 Z1 U2 V2 W2 X2 zf)) w:=by
 subst q0 q4 q5 q6;have be:=M.pos;have al:i<6:=by omega
 refine AZ ?_;have b8:=(M.fresh a4).fresh (Below.refl _ w).drew;obtain⟨la,lc,ea,ec,g1,g2,g3⟩:=M.row;have I:=a4.drew;have r1:=ac I g1 g1.lt;have r2:w.drew.ownsRow Bw 115 1 (.slice la L.length lc) L.length (L.flatMap ptC):=cJ g2 fun k u=>I.block k (World.ownsRow.lt g2 k u).2
 have r3:w.drew.ownsRow Bw 54 14 (.slice ea E.length ec) E.length (E.flatMap evC):=cJ g3 fun k u=>I.block k (World.ownsRow.lt g3 k u).2;have av:∀k,(Value.slice ea E.length ec).ownBlock=some k→k<w0.heap.size:=fun k u=>(World.ownsRow.lt g3 k u).2;obtain⟨gl,a6,rfl,op⟩:=cq r2 (by omega);have j:=b8.led Z (List.mem_of_getElem? an);obtain⟨B,a0⟩:=j.lm
 have c0:a6[i*1]? = some (.pointer (some ⟨Z.1,0,none⟩)):=by
  have:=op.cell zF rfl an (show 0<1 by omega)
  simpa[ptC]using this
 refine aw (fun y=>blk y g 74 [.slice (some ⟨gl,0,none⟩) L.length lc,.slice ea E.length ec]∧blk y gl 115 a6∧blk y eb 54 (evC e)) ⟨r1,op.blk,az.drew⟩ <|ab (fun y J _=>ai) <|ab (fun y J _=>oM) <|ab (v:=.slice (some ⟨gl,0,none⟩) L.length lc) (fun y J _=>lK J.1 rfl) <|ab (v:=.pointer (some ⟨gl,i*1,none⟩)) (fun y J _=>pj (s:=1) rfl underlying72 (fun _=>by kernel_rfl) hi) <|ab (v:=.pointer (some ⟨Z.1,0,none⟩)) (fun y J _=>lK J.2.1 c0) <|ab (v:=.agg (evC e).toArray) (fun y J _=>ldA (n:=14) (vs:=evC e) underlying54 rfl (by kernel_rfl) J.2.2 rfl rfl) ?_
 refine Ie a0 j.xi (j.sum (by rw[M.sum];omega)) fun w2 B2 p2 l2 b6 b4 ag b2=>?_;have d:Below w0.heap.size w0 w2:=I.trans (b2.mono I.size);have bk:=M.fresh d;have ar:=ac b2 az.drew az.drew.lt;have ap:=ac b2 hz.drew hz.drew.lt;refine aw (fun _=>True) trivial <|ab (fun y J _=>cZ) <|ab (fun y J _=>db) <|bN ?_;by_cases hf:np e (toP Z.2)≠0
 ·refine ax hf <|eT (vs:=evC ⟨0,0,0,0,0,0,0,0,0,0,0,0,0,0⟩) (by kernel_rfl) ?_;refine OQ ap bs fun w3 o3=>?_;refine h w3 L E C _ (bk.oth ap (Nat.le_trans O a2) (fun ch cj cn cp hb X=>?_) o3) rfl (by omega) (bG (d.mono O) o3 (Nat.le_trans O a2));have e1:=ac d g1 g1.lt;unfold Go.Proofs.YtkbhfjljieopoaaGreatDoor.blk at e1 hb;rw[e1]at hb
  simp only[Option.some.injEq,Obj.cells.injEq,Array.mk.injEq,List.cons.injEq,Value.slice.injEq]at hb;obtain⟨⟨_,⟨rfl,_,rfl⟩,_⟩,_⟩:=hb
  have:=av tb X
  omega
 refine aq hf ?_;have hf:np e (toP Z.2)=0:=by simpa using hf
 have ok:=(vc j.xi.pi).1 hf;unfold jL at ag;rw[if_pos hf]at ag;have o1:=(gC ok.may).1;have o6:=(gC ok.may).2.1;have ei:(e.o-1).toNat=i:=by omega
 have eq:e.q=i:=ei;have os:=a9;have oV:l2.s.V=Z.2.s.V.set i e.s:=by
  have:l2.s.V=ED e Z.2.s.V:=congrArg PL.V ag
  rw[this];unfold ED;rw[eq,os]
 have a8:e.s≤upC C i i:=by
  have:=j.le i al
  unfold upC;rw[if_pos rfl];omega
 have bb:LC w2 p2 l2 (upC C i):=⟨⟨B2,b6⟩,b4,fun k u=>by
  rw[oV,Bu (by rw[a0.v6];exact al)];split
  ·rename_i X;rw[←X];exact a8
  ·exact Int.le_trans (j.le k u) (Jl k u)⟩
 have bt:=ac d g1 g1.lt;have ca:w2.ownsRow Bw 115 1 (.slice (some ⟨gl,0,none⟩) L.length lc) L.length (L.flatMap ptC):=cJ g2 fun k u=>d.block k (World.ownsRow.lt g2 k u).2;have cc:w2.ownsRow Bw 54 14 (.slice ea E.length ec) E.length (E.flatMap evC):=cJ g3 fun k u=>d.block k (World.ownsRow.lt g3 k u).2
 refine ai <|oM <|lK (v:=.slice (some ⟨gl,0,none⟩) L.length lc) bt rfl <|pj (s:=1) rfl underlying72 (fun _=>by kernel_rfl) hi ?_;obtain⟨ck,cg,b5,a3⟩:=cq ca (by omega);cases b5;refine SJ bt a3 cc (fun x hx=>(bk.led x hx).up Jl) bb hi rfl fun w3 s1 s2 s3 s4 k3 o3=>?_;have ad:(L.set i (p2,l2)).length=L.length:=List.length_set ..
 have a7:eb≠gl:=fun X=>absurd (uc ar (X ▸ a3.blk)) (by decide);have bi:tb≠gl:=fun X=>absurd (uc ap (X ▸ a3.blk)) (by decide);have ce:Bw≤w2.heap.size:=Nat.le_trans O d.size;have B3:Below Bw w0 w3:=(d.mono O).trans (k3.below ce);have b9:WP (L.set i (p2,l2)).length ((L.set i (p2,l2)).map fun x=>toP x.2) (E++[e]):=by
  rw[ad,List.map_set];have hm:=M.wp.make (i:=i) (l:=toP Z.2) (e:=e) (by rw[List.getElem?_map,an];rfl) ok eq fun k _=>by rw[b0];rfl
  rw[←ag]at hm;exact hm
 have bd:∀(k:Nat) x,(L.set i (p2,l2))[k]? = some x→x.2.s.V.getD k 0=upC C i k:=fun k x hx=>by
  rw[List.getElem?_set]at hx;by_cases aS:i=k
  ·subst aS;rw[if_pos rfl,if_pos hi]at hx;cases hx;rw[oV,Bu (by rw[a0.v6];exact al),if_pos rfl,os,M.own i Z an];unfold upC;rw[if_pos rfl]
  ·rw[if_neg aS]at hx;rw[M.own k x hx];unfold upC;rw[if_neg (fun X=>aS X.symm)]
 have bW:∀y∈E++[e],y.a≤65536:=fun y J=>by
  rcases List.mem_append.1 J with X|X
  ·exact M.am y X
  ·rw[List.mem_singleton.1 X];exact b3.2
 refine VS s1 s2 s3 s4 (fun y J=>⟨(M.ev y J).1,(M.ev y J).2.1,?_⟩) ⟨o1,o6,by rw[ei];exact a8⟩ (by rw[Um al,M.sum]) (fun k u=>Int.le_trans (M.c0 k u) (Jl k u)) (by rw[ad];exact be) b9 bd bW (by omega) (Nat.le_trans O B3.size) M.lo (o3.blk ar a7) (o3.blk ap bi) bs (fun k u=>⟨by have:=av k u;omega,by have:=av k u;omega⟩) b7 (Nat.le_trans O a2) rfl rfl rfl fun w' hw b=>h w' _ _ _ _ hw ad (by simp) (B3.trans b)
 have h6:=M.ev y J;exact Int.le_trans h6.2.2 (Jl _ (by omega))
theorem Wx {L:List (Nat×LG)}{E:List EV}{x:AC}(O:WM w Bw g L E C)(a4:Bw≤w.heap.size)(hn:E.length≤800)(X:Fm x)(h:∀w' L' E' C' e',WM w' Bw g L' E' C'→L'.length=L.length→E'.length≤E.length+1→Below Bw w w'→K (.agg (evC e').toArray) w'):call Tryz.prog 16 #[.pointer (some ⟨g,0,none⟩),.agg (acC x).toArray] K w:=by
 refine aj (goK func16) (Cu ?_);refine cv fun w1 a0 b1 s1=>?_;have a0:blk w1 w.heap.size 70 (acC x):=by simpa[Value.cells]using a0
 refine dZ (z:=.agg (evC ⟨0,0,0,0,0,0,0,0,0,0,0,0,0,0⟩).toArray) (by kernel_rfl) fun w2 M b2 s2=>?_;have M:blk w2 w1.heap.size 54 (evC ⟨0,0,0,0,0,0,0,0,0,0,0,0,0,0⟩):=by simpa[Value.cells]using M
 rw[s1]at M ⊢;have a2:=(ac b2 a0 a0.lt).drew;have M:=M.drew;have ar:Below w.heap.size w w2.drew:=(b1.trans (b2.mono (by omega))).drew;have bb:=O.fresh ar;obtain⟨la,lc,ea,ec,I,ap,al⟩:=bb.row;obtain⟨cX,c2,cs,cG,g1,g2,g3⟩:=O.row;have hp:=O.pos;obtain⟨i,hi⟩:∃i:Nat,i=(x.who%(L.length:Nat)).toNat:=⟨_,rfl⟩
 have cR:0≤x.who%((L.length:Nat):Int):=Int.emod_nonneg _ (by omega);have cV:x.who%((L.length:Nat):Int)<(L.length:Nat):=Int.emod_lt_of_pos _ (by omega);have Z:i<L.length:=by omega
 refine aa (fun _=>CW) <|aa (v:=kv8 x.who) (fun _=>lK a2 rfl) <|aa (v:=.int .i64 x.who) (fun K d=>dS underlying5 underlying3 (by rw[eK (by have:=X.1;omega) (by have:=X.1;omega)];exact d)) <|aa (fun _=>ai) <|aa (fun _=>oM) <|aa (v:=.slice la L.length lc) (fun _=>lK I rfl) <|aa (fun _=>bj underlying72) <|aa (v:=.int .i64 ((i:Nat):Int)) (fun K d=>xX X.1.1 (by omega) (by rw[show x.who%((L.length:Nat):Int)=(i:Nat)by omega];exact d)) <|QT <|lK (v:=.bool x.meet) a2 rfl ?_
 refine vl (fun hd=>?_) (fun hd=>?_)
 ·obtain⟨j,hj⟩:∃j:Nat,j=(x.other%(L.length:Nat)).toNat:=⟨_,rfl⟩
  have cL:0≤x.other%((L.length:Nat):Int):=Int.emod_nonneg _ (by omega);have cO:x.other%((L.length:Nat):Int)<(L.length:Nat):=Int.emod_lt_of_pos _ (by omega);have bk:j<L.length:=by omega
  have ad:L[i]? = some L[i]:=List.getElem?_eq_getElem Z;generalize L[i]=pl at ad;have a6:L[j]? = some L[j]:=List.getElem?_eq_getElem bk;generalize L[j]=ql at a6;have I:=I.drew;have bd:=a2.drew;have bW:=bb.fresh (Below.refl _ w2.drew).drew;have ap:w2.drew.drew.ownsRow Bw 115 1 (.slice la L.length lc) L.length (L.flatMap ptC):=ap
  have al:w2.drew.drew.ownsRow Bw 54 14 (.slice ea E.length ec) E.length (E.flatMap evC):=al;have U:=ar.drew;have a7:=bW.led pl (List.mem_of_getElem? ad);have a8:=bW.led ql (List.mem_of_getElem? a6);obtain⟨Bj,J⟩:=a8.lm;obtain⟨gl,av,rfl,op⟩:=cq ap (by omega);have ci:av[i*1]? = some (.pointer (some ⟨pl.1,0,none⟩)):=by
   have:=op.cell zF rfl ad (show 0<1 by omega)
   simpa[ptC]using this
  have cj:av[j*1]? = some (.pointer (some ⟨ql.1,0,none⟩)):=by
   have:=op.cell zF rfl a6 (show 0<1 by omega)
   simpa[ptC]using this
  refine aw (fun y=>blk y g 74 [.slice (some ⟨gl,0,none⟩) L.length lc,.slice ea E.length ec]∧blk y gl 115 av∧blk y w.heap.size 70 (acC x)∧blk y ql.1 123 (lgC ql.2)) ⟨I,op.blk,bd,J.cl⟩ <|ab (fun y u _=>ai) <|ab (fun y u _=>oM) <|ab (v:=.slice (some ⟨gl,0,none⟩) L.length lc) (fun y u _=>lK u.1 rfl) <|ab (fun y u _=>ai) <|ab (fun y u _=>oM) <|ab (v:=.slice (some ⟨gl,0,none⟩) L.length lc) (fun y u _=>lK u.1 rfl) <|ab (v:=.pointer (some ⟨gl,i*1,none⟩)) (fun y u _=>pj (s:=1) rfl underlying72 (fun _=>by kernel_rfl) Z) <|ab (v:=.pointer (some ⟨pl.1,0,none⟩)) (fun y u _=>lK u.2.1 ci) <|ab (fun y u _=>ai) <|ab (fun y u _=>mD) <|ab (v:=.slice ea E.length ec) (fun y u _=>lK u.1 rfl) <|ab (fun y u _=>ai) <|ab (fun y u _=>oM) <|ab (v:=.slice (some ⟨gl,0,none⟩) L.length lc) (fun y u _=>lK u.1 rfl) <|ab (fun y u _=>QU) ?_
  refine ab (v:=kv8 x.other) (fun y u _=>lK u.2.2.1 rfl) <|ab (v:=.int .i64 x.other) (fun y u K d=>dS underlying5 underlying3 (by rw[eK (by have:=X.2.1;omega) (by have:=X.2.1;omega)];exact d)) <|ab (fun y u _=>ai) <|ab (fun y u _=>oM) <|ab (v:=.slice (some ⟨gl,0,none⟩) L.length lc) (fun y u _=>lK u.1 rfl) <|ab (fun y u _=>bj underlying72) <|ab (v:=.int .i64 ((j:Nat):Int)) (fun y u K d=>xX X.2.1.1 (by omega) (by rw[show x.other%((L.length:Nat):Int)=(j:Nat)by omega];exact d)) <|ab (v:=.pointer (some ⟨gl,j*1,none⟩)) (fun y u _=>pj (s:=1) rfl underlying72 (fun _=>by kernel_rfl) bk) <|ab (v:=.pointer (some ⟨ql.1,0,none⟩)) (fun y u _=>lK u.2.1 cj) <|ab (fun y u _=>ai) <|ab (fun y u _=>bq) <|ab (fun y u _=>ot) <|ab (v:=.agg (ql.2.s.V.map u6).toArray) (fun y u _=>ldA (n:=6) (vs:=ql.2.s.V.map u6) underlying35 rfl (by kernel_rfl) u.2.2.2 J.cutV (by simp[J.v6])) ?_
  refine Tx O.wp.hist a7 (O.wp.lk _ (List.mem_map.2 ⟨pl,List.mem_of_getElem? ad,rfl⟩)) (by rw[O.sum];omega) O.ev rfl (by omega) J.v6 al fun w4 p4 l4 ag b4=>?_;have a3:Below w.heap.size w w4:=U.trans (b4.mono U.size);have cc:=O.fresh a3
  refine aE ⟨ac b4 I I.lt,ac b4 op.blk op.blk.lt,ac b4 bd bd.lt,ac b4 J.cl J.cl.lt⟩ <|ab (v:=.pointer (some ⟨gl,i*1,none⟩)) (fun y u _=>pj (s:=1) rfl underlying72 (fun _=>by kernel_rfl) Z) ?_;have b0:Opn w4 Bw 115 1 L.length lc gl av (L.flatMap ptC):=⟨ac b4 op.blk op.blk.lt,op.lo,op.nc,op.cm,op.len,op.take,op.xl⟩
  have az:=ac b4 M.drew M.drew.lt;refine SJ (ac b4 I I.lt) b0 (cJ al fun k hk=>b4.block k (World.ownsRow.lt al k hk).2) cc.led ag.lc Z rfl fun w5 be ch ck cn k5 o5=>?_;have an:(L.set i (p4,l4)).length=L.length:=List.length_set ..;have ca:w.heap.size+1≠gl:=fun hh=>absurd (uc az (hh ▸ b0.blk)) (by decide);have aS:=o5.blk az ca;have b9:i<6:=by omega
  have cg:WP (L.set i (p4,l4)).length ((L.set i (p4,l4)).map fun x=>toP x.2) E:=by
   rw[an,List.map_set];refine O.wp.learn (l:=toP pl.2) (by rw[List.getElem?_map,ad];rfl) ag.lk ag.gr fun k m hm=>?_;rw[List.getElem?_map]at hm;cases hx:L[k]? with
   | none=>rw[hx]at hm;cases hm
   | some y =>
    rw[hx]at hm;cases hm;have hk:k<L.length:=(List.getElem?_eq_some_iff.1 hx).1
    have:=O.own k y hx
    have h4:=ag.lc.le k (by omega);show l4.s.V.getD k 0≤y.2.s.V.getD k 0;omega
  have bt:∀(k:Nat) x,(L.set i (p4,l4))[k]? = some x→x.2.s.V.getD k 0=C k:=fun k x hx=>by
   rw[List.getElem?_set]at hx;by_cases bs:i=k
   ·subst bs;rw[if_pos rfl,if_pos Z]at hx;cases hx;have h1:=ag.lc.le i b9;have h2:=ag.gr i;have h3:=O.own i pl ad;show l4.s.V.getD i 0=C i;omega
   ·rw[if_neg bs]at hx;exact O.own k x hx
  have ce:WM w5 Bw g (L.set i (p4,l4)) E C:=⟨⟨_,_,_,_,be,ch,ck⟩,O.lo,cn,by rw[an];exact hp,O.ev,O.sum,O.c0,cg,bt,O.am⟩
  have B5:Below Bw w w5:=(a3.mono a4).trans (k5.below (Nat.le_trans a4 a3.size));refine eT (vs:=evC ⟨0,0,0,0,0,0,0,0,0,0,0,0,0,0⟩) (by kernel_rfl) ?_;refine OQ aS rfl fun w6 o6=>?_;refine h w6 _ E C _ (ce.oth aS (by omega) (fun cD cI c1 c3 hb hh=>?_) o6) an (by omega) (bG B5 o6 (by omega));unfold Go.Proofs.YtkbhfjljieopoaaGreatDoor.blk at hb be;rw[be]at hb
  simp only[Option.some.injEq,Obj.cells.injEq,Array.mk.injEq,List.cons.injEq,Value.slice.injEq]at hb;obtain⟨⟨_,⟨rfl,_,rfl⟩,_⟩,_⟩:=hb;have e1:=ac U g1 g1.lt;unfold Go.Proofs.YtkbhfjljieopoaaGreatDoor.blk at e1 I;rw[e1]at I;simp only[Option.some.injEq,Obj.cells.injEq,Array.mk.injEq,List.cons.injEq,Value.slice.injEq]at I;obtain⟨⟨_,⟨rfl,_,rfl⟩,_⟩,_⟩:=I
  have:=(World.ownsRow.lt g3 _ hh).2
  omega
 ·refine ldA (n:=9) (vs:=acC x) underlying70 rfl (by kernel_rfl) a2 rfl rfl ?_;refine Ti bb (by omega) X fun w3 e i' pl cp bi he b8 b6 b7 b3=>?_;obtain rfl:i'=i:=by omega
  have U:Below w.heap.size w w3:=ar.trans (b3.mono ar.size);refine dZ (z:=.agg (evC ⟨0,0,0,0,0,0,0,0,0,0,0,0,0,0⟩).toArray) (by kernel_rfl) fun w4 h4 b4 s4=>?_;have h4:blk w4 w3.heap.size 54 (evC ⟨0,0,0,0,0,0,0,0,0,0,0,0,0,0⟩):=by simpa[Value.cells]using h4
  refine jP (n:=14) (vs:=evC e) (by kernel_rfl) rfl h4 (by show 0+14≤14;omega) (qy _) fun w5 h5 o5=>?_;have h5:blk w5 w3.heap.size 54 (evC e):=h5;have a9:=ac b3 M M.lt;have az:=ac b4 a9 a9.lt;have cQ:=a9.lt;have aS:=o5.blk az (by omega);have b5:Below w.heap.size w w5:=U.trans (bG (b4.mono U.size) o5 U.size)
  exact VQ O b5 a4 (by omega) U.size (by omega) hn Z he bi b8 b6 b7 h5 aS rfl rfl rfl rfl rfl h
structure AR (w:World) (a:Option Addr) (n c:Nat) (X:List AC):Prop where
 len:X.length=n
 some_:0<n→∃b o,a=some ⟨b,o,none⟩
 cell:∀(i:Nat) (x:AC),X[i]? = some x→∀b o,a=some ⟨b,o,none⟩→∀(j:Nat) (u:Value),(acC x)[j]? = some u→w.cell? ⟨b,o+i*9+j,none⟩=some u
 ok:∀x∈X,Fm x
theorem AR.bel {X:List AC}(h:AR w a n c X)(M:Below B w w')(I:w.heap.size≤B):AR w' a n c X :=
 ⟨h.len,h.some_,fun i x U b o J j u O=>by
  have:=h.cell i x U b o J j u O
  have d:=World.block_lt_of_cell? w _ this;rw[M.cell (p:=⟨b,o+i*9+j,none⟩) (Nat.lt_of_lt_of_le d I)];exact this,h.ok⟩
theorem Wz {X:List AC}{x:AC}(h:AR w a n c X)(I:a=some ⟨b,o,none⟩)(M:X[i]? = some x)(d:K (.agg (acC x).toArray) w):ld Tryz.prog 70 (.pointer (some ⟨b,o+i*9,none⟩)) K w :=
 IG (run_loadVar_mid w b (o+i*9) 70 (acC x) _ (fun j u J=>h.cell i x M b o I j u J) underlying70 rfl (by kernel_rfl)) d
section
variable {n:Nat}{E:List EV}{C:Nat→Int}
theorem pfx (h:HistL n E)(j:Nat):(E.take j).foldl (fun s e=>jL e s) (pl0 n)=lQ eff (pl0 n) (E.take j):=Wv (n:=n) (h.pre (E.take j) (E.drop j) (List.take_append_drop j E).symm)
theorem Vu (h:HistL n E)(U:EC E C)(O:∀k,k<6→0≤C k)(hs:C 0+C 1+C 2+C 3+C 4+C 5=E.length)(j:Nat):sV (lQ eff (pl0 n) (E.take j)).V≤E.length:=by
 have Z:=h.pre (E.take j) (E.drop j) (List.take_append_drop j E).symm;have d:=MR (D:=fun k=>if k<6 then C k else 0) (rh n) (HistL.all Z).1 (fun k=>by
  have:=congrFun (EP n) k
  unfold kV at this;rw[this];split
  ·exact O k (by assumption)
  ·exact Int.le_refl _) (fun f X=>by
  obtain⟨a,b,c⟩:=U f (List.mem_of_mem_take X);have hq:f.q<6:=by unfold EV.q;omega
  rw[if_pos hq];exact c)
 have u:=d 0;have b1:=d 1;have b2:=d 2;have I:=d 3;have J:=d 4;have M:=d 5;simp only[show (0:Nat)<6 by omega,show (1:Nat)<6 by omega,show (2:Nat)<6 by omega,show (3:Nat)<6 by omega,show (4:Nat)<6 by omega,show (5:Nat)<6 by omega,if_true]at u b1 b2 I J M;unfold sV;omega
end
theorem PE {L:List (Nat×LG)}{E:List EV}(M:WM w Bw g L E C)(hn:L.length=n)(hE:E.length≤800)(hK:∀w' B l p,LM w' B p l→XI l (sV l.s.V)→toP l=lQ eff (pl0 n) E→Below w.heap.size w w'→K (.agg (saC l.s).toArray) w'):call Tryz.prog 17 #[pB g,iv (n:Nat)] K w:=by
 subst hn;have hp:=M.pos;have h:=M.wp.hist;refine aj (goK func17) (Dl ?_);refine dZ (z:=.agg (saC ⟨List.replicate 6 false,List.replicate 6 false,List.replicate 6 0,[],none,0,.slice none 0 0⟩).toArray) (by kernel_rfl) fun w1 O b1 s1=>?_
 have O:blk w1 w.heap.size 45 (saC ⟨List.replicate 6 false,List.replicate 6 false,List.replicate 6 0,[],none,0,.slice none 0 0⟩):=by simpa[Value.cells]using O
 generalize a2:saC ⟨List.replicate 6 false,List.replicate 6 false,List.replicate 6 0,[],none,0,.slice none 0 0⟩=zs at O;have a4:zs.length=20:=by rw[←a2];rfl
 refine PN (by omega) (by omega) fun w2 p2 l2 U _ hV ar b2=>cZ (db ?_);obtain⟨az,hP⟩:=RP U ar;have al:=b1.trans (b2.mono b1.size);refine BJ (Inv:=fun lv i wr=>∃(j p B:Nat) (l:LG),lv=pB p∧i=iv (j:Nat)∧j≤E.length∧LM wr B p l∧XI l (sV l.s.V)∧toP l=lQ eff (pl0 L.length) (E.take j)∧Below w.heap.size w wr∧blk wr w.heap.size 45 zs) (μ:=fun _ i _=>E.length-(intOf i).toNat)
  ⟨0,p2,_,l2,rfl,rfl,Nat.zero_le _,U,az.xi,hP,al,ac b2 O O.lt⟩ ?_
 rintro _ _ dd w3 mu ⟨j,p,B,l,rfl,rfl,hj,d,hx,I,u,z3⟩ aS;obtain⟨la,lc,ea,ec,ag,_,Z⟩:=(M.fresh u).row;refine ai (mD (lK (v:=.slice ea E.length ec) ag rfl (bj underlying36 (aM ?_))));by_cases X:j<E.length
 ·have J:E[j]? = some E[j]:=List.getElem?_eq_getElem X;have ad:E.take (j+1)=E.take j++[E[j]]:=by rw[List.take_add_one,J];rfl
  generalize E[j]=e at J ad;refine ax (by omega) (ai (mD (lK (v:=.slice ea E.length ec) ag rfl ?_)));refine Ge (enc:=evC) (s:=14) underlying36 (fun _=>by kernel_rfl) underlying54 rfl (by kernel_rfl) vd Z rfl J fun _=>?_;have hs:sV l.s.V≤900:=by
   have:=Vu h M.ev M.c0 M.sum j
   rw[←I]at this;have e1:(toP l).V=l.s.V:=rfl;rw[e1]at this;omega
  refine Ie d hx hs fun w4 B4 p4 l4 av a0 am b4=>cZ (db (aW (by omega) (by omega) ?_));refine⟨⟨j+1,p4,B4,l4,rfl,congrArg iv (by push_cast;rfl),X,av,a0,?_,u.trans (b4.mono u.size),ac b4 z3 z3.lt⟩,by rw[aS];show E.length-((j:Int)+1).toNat<E.length-(j:Int).toNat;omega⟩;rw[am,I, ←pfx h (j+1), ←pfx h j,ad,List.foldl_append];rfl
 ·have an:j=E.length:=by omega
  subst an;rw[List.take_length]at I;refine aq (by omega) (BK (ai (bq ?_)));refine ldA (n:=20) (vs:=saC l.s) underlying45 rfl (by kernel_rfl) d.cl d.cutS d.sl ?_;have a3:∀v∈saC l.s,v.oneCell'=true:=by
   intro v hv;unfold saC at hv;rw[d.gv]at hv;simp only[List.mem_append,List.mem_map,List.mem_cons,List.not_mem_nil,or_false]at hv;rcases hv with((⟨_,_,rfl⟩|⟨_,_,rfl⟩)|⟨_,_,rfl⟩)|(rfl|rfl)<;>rfl
  refine jP (n:=20) (vs:=saC l.s) (by kernel_rfl) d.sl z3 (by omega) a3 fun w4 z4 o4=>?_;rw[List.take_zero,List.nil_append,List.drop_of_length_le (by omega),List.append_nil]at z4;have kk:Keep [45] 0 w3 w4:=o4.keep z3 (by simp) (Nat.zero_le _)
  refine vD (v:=.agg (saC l.s).toArray) (fun _ hK=>ldA (n:=20) (vs:=saC l.s) underlying45 rfl (by kernel_rfl) z4 (by rw[List.drop_zero,List.take_of_length_le (by rw[d.sl];omega)]) d.sl hK) ?_;refine hK w4 B l p {d with
    cl:=kk.blk d.cl (.inr (by decide))
    nd:=ff d.nd kk (by decide)
    gr:=ff d.gr kk (by decide)
    tm:=d.tm.keep kk (by decide) (by decide)
    rq:=fun k ap => (d.rq k ap).imp fun a=>Exists.imp fun c hh=>⟨hh.1,ff hh.2 kk (by decide)⟩} hx I (bG u o4 (Nat.le_refl _))
theorem JW {t:STA}(d:t.I.length=6)(h:t.L.length=6)(j:t.V.length=6):((saC t).drop 0).take 6=t.I.map .bool∧((saC t).drop 6).take 6=t.L.map .bool∧((saC t).drop 12).take 6=vCs t.V:=by
 obtain⟨I,L,V,N,J,M,u⟩:=t;obtain⟨_,_,_,_,_,_,rfl⟩:=rU d;obtain⟨_,_,_,_,_,_,rfl⟩:=rU h;obtain⟨_,_,_,_,_,_,rfl⟩:=rU j;exact⟨rfl,rfl,rfl⟩
theorem Br {I:List Bool}(h:I.length=6):jD Tryz.prog 3 41 (I.map .bool)=true:=by
 obtain⟨_,_,_,_,_,_,rfl⟩:=rU h
 kernel_rfl
theorem RR {x:ND}(h:x.A.length=54):jD Tryz.prog 6 52 (ndC x)=true:=by
 rw[←Cx h]
 kernel_rfl
theorem Kk (g:GR):jD Tryz.prog 3 126 (grC g)=true:=by kernel_rfl
theorem VC {B1 B2 : Nat} {t1 t2 : STA} {G : List GR} {g1 g2 : Option Addr} {c1 c2 : Nat} (k1 : SK w t1) (k2 : SK w t2) (eI : t2.I = t1.I) (eL : t2.L = t1.L) (eV : t2.V = t1.V) (eN : t2.nodes = t1.nodes) (v1 : t1.gv = .slice g1 G.length c1) (v2 : t2.gv = .slice g2 G.length c2)
    (r1 : w.ownsRow B1 126 5 (.slice g1 G.length c1) G.length (G.flatMap grC)) (r2 : w.ownsRow B2 126 5 (.slice g2 G.length c2) G.length (G.flatMap grC)) (hG : G.length ≤ 1000000)
    (h : ∀ w', Below w.heap.size w w' → K cT w') : call Tryz.prog 18 #[.agg (saC t1).toArray, .agg (saC t2).toArray] K w := by
  have hcl : ∀ t : STA, (Value.agg (saC t).toArray).cells.toList = saC t := fun t => by simp [Value.cells]
  obtain ⟨a1, a2, a3⟩ := JW k1.i6 k1.l6 k1.v6
  obtain ⟨b1, b2, b3⟩ := JW k2.i6 k2.l6 k2.v6
  rw [eI] at b1; rw [eL] at b2; rw [eV] at b3
  refine aj (goK Tryz.func18) (Gq (cv fun w1 z1 l1 s1 => cv fun w2 z2 l2 s2 => ?_))
  rw [hcl] at z1 z2
  have z1 := ac l2 z1 z1.lt
  have l02 := l1.trans (l2.mono l1.size)
  have k1' := k1.bel l02 (Nat.le_refl _)
  have k2' := k2.bel l02 (Nat.le_refl _)
  have d18a := JV k1.i6 k1.l6 k1.v6
  have d18b := JV k2.i6 k2.l6 k2.v6
  have d19a := Oc k1.i6 k1.l6 k1.v6
  have d19b := Oc k2.i6 k2.l6 k2.v6
  rw [eN] at d18b
  rw [v1] at d19a; rw [v2] at d19b
  refine uO (ldA (n := 6) (vs := t1.I.map .bool) Tryz.underlying41 rfl (by kernel_rfl) z1 a1 (by simp [k1.i6]) (uO (ldA (n := 6) (vs := t1.I.map .bool) Tryz.underlying41 rfl (by kernel_rfl) z2 b1 (by simp [k1.i6]) ?_)))
  refine wu 3 (by omega) (by kernel_rfl) (by kernel_rfl) (Br k1.i6) (Br k1.i6) fun r hr => ?_
  rw [hr.2 rfl]
  refine lR (zR (ldA (n := 6) (vs := t1.L.map .bool) Tryz.underlying41 rfl (by kernel_rfl) z1 a2 (by simp [k1.l6]) (zR (ldA (n := 6) (vs := t1.L.map .bool) Tryz.underlying41 rfl (by kernel_rfl) z2 b2 (by simp [k1.l6]) ?_))))
  refine wu 3 (by omega) (by kernel_rfl) (by kernel_rfl) (Br k1.l6) (Br k1.l6) fun r hr => ?_
  rw [hr.2 rfl]
  refine ex (lR (ot (ldA (n := 6) (vs := vCs t1.V) Tryz.underlying35 rfl (by kernel_rfl) z1 a3 (by rw [bQ]; exact k1.v6) (ot (ldA (n := 6) (vs := vCs t1.V) Tryz.underlying35 rfl (by kernel_rfl) z2 b3 (by rw [bQ]; exact k1.v6) ?_)))))
  refine wu 3 (by omega) (by kernel_rfl) (by kernel_rfl) (Gj k1.v6) (Gj k1.v6) fun r hr => ?_
  rw [hr.2 rfl]
  refine ex (lR (eA (ld1 (v := .slice t1.na t1.nodes.length t1.nc) (fun _ => by kernel_rfl) z1 d18a (bj Tryz.underlying42 (eA (ld1 (v := .slice t2.na t1.nodes.length t2.nc) (fun _ => by kernel_rfl) z2 d18b (bj Tryz.underlying42 (bN ?_))))))))
  refine ex (dX (by simp) (fj (ld1 (v := .slice g1 G.length c1) (fun _ => by kernel_rfl) z1 d19a (bj Tryz.underlying43 (fj (ld1 (v := .slice g2 G.length c2) (fun _ => by kernel_rfl) z2 d19b (bj Tryz.underlying43 (bN ?_))))))))
  refine bw (by simp) (aq (by simp) ?_)
  have hn := k1.few
  refine Ej (Inv := fun i wr => ∃ k : Nat, i = iv (k : Nat) ∧ k ≤ t1.nodes.length ∧ Below w2.heap.size w2 wr) (μ := fun i _ => t1.nodes.length - (intOf i).toNat) ⟨0, rfl, Nat.zero_le _, Below.refl _ _⟩ ?_
  rintro _ dd w3 mu ⟨k, rfl, hk, l3⟩ hmu
  have y1 := ac l3 z1 z1.lt
  have y2 := ac l3 z2 z2.lt
  refine eA (ld1 (v := .slice t1.na t1.nodes.length t1.nc) (fun _ => by kernel_rfl) y1 d18a (bj Tryz.underlying42 (aM ?_)))
  by_cases hlt : k < t1.nodes.length
  · have hx : t1.nodes[k]? = some t1.nodes[k] := List.getElem?_eq_getElem hlt
    generalize t1.nodes[k] = x at hx
    have hx2 : t2.nodes[k]? = some x := by rw [eN]; exact hx
    have n1 := (k1'.bel l3 (Nat.le_refl _)).nr
    have n2 := (k2'.bel l3 (Nat.le_refl _)).nr
    obtain ⟨p1, o1, ha1⟩ := n1.some_ (by omega)
    obtain ⟨p2, o2, ha2⟩ := n2.some_ (by rw [eN]; omega)
    have n1 := n1.bel (Below.refl w3.heap.size w3).drew (Nat.le_refl _)
    have n2 := n2.bel (Below.refl w3.heap.size w3).drew (Nat.le_refl _)
    refine ax (by omega) ?_
    refine aa (fun K hK => eA hK) (aa (v := .slice t1.na t1.nodes.length t1.nc) (fun K hK => ld1 (fun _ => by kernel_rfl) y1.drew d18a hK) ?_)
    refine aa (v := .pointer (some ⟨p1, o1 + k * 56, none⟩)) (fun K hK => by
      rw [ha1]
      exact dJ Tryz.underlying42 (s := 56) (fun _ => by kernel_rfl) (by omega) (by omega) (by rw [Int.toNat_natCast]; exact hK)) ?_
    refine aa (v := .agg (ndC x).toArray) (fun K hK => Vb n1 ha1 hx hK) ?_
    refine aa (fun K hK => eA hK) (aa (v := .slice t2.na t1.nodes.length t2.nc) (fun K hK => ld1 (fun _ => by kernel_rfl) y2.drew d18b hK) ?_)
    refine aa (v := .pointer (some ⟨p2, o2 + k * 56, none⟩)) (fun K hK => by
      rw [ha2]
      exact dJ Tryz.underlying42 (s := 56) (fun _ => by kernel_rfl) (by omega) (by omega) (by rw [Int.toNat_natCast]; exact hK)) ?_
    refine aa (v := .agg (ndC x).toArray) (fun K hK => Vb n2 ha2 hx2 hK) ?_
    have hf := RR (n1.A54 x (List.mem_of_getElem? hx))
    refine aa (v := .bool false) (fun K hK => wu 6 (by omega) (by kernel_rfl) (by kernel_rfl) hf hf fun r hr => by rw [hr.2 rfl]; exact hK) ?_
    refine aO (aW (by omega) (by omega) ⟨⟨k + 1, congrArg iv (by push_cast; rfl), hlt, l3.drew⟩, ?_⟩)
    rw [hmu]; show t1.nodes.length - ((k : Int) + 1).toNat < t1.nodes.length - (k : Int).toNat; omega
  refine aq (by omega) (El ?_)
  have r1 := cJ r1 fun k hk => l02.block k (World.ownsRow.lt r1 k hk).2
  have r2 := cJ r2 fun k hk => l02.block k (World.ownsRow.lt r2 k hk).2
  refine Ek (Inv := fun i wr => ∃ k : Nat, i = iv (k : Nat) ∧ k ≤ G.length ∧ Below w2.heap.size w2 wr) (μ := fun i _ => G.length - (intOf i).toNat) ⟨0, rfl, Nat.zero_le _, l3⟩ ?_
  rintro _ dd w4 mu ⟨k, rfl, hk, l4⟩ hmu
  have y1 := ac l4 z1 z1.lt
  have y2 := ac l4 z2 z2.lt
  refine fj (ld1 (v := .slice g1 G.length c1) (fun _ => by kernel_rfl) y1 d19a (bj Tryz.underlying43 (aM ?_)))
  by_cases hlt : k < G.length
  · have hx : G[k]? = some G[k] := List.getElem?_eq_getElem hlt
    generalize G[k] = x at hx
    have r1 := cJ r1 (w' := w4.drew) fun k hk => l4.drew.block k (World.ownsRow.lt r1 k hk).2
    have r2 := cJ r2 (w' := w4.drew) fun k hk => l4.drew.block k (World.ownsRow.lt r2 k hk).2
    refine ax (by omega) ?_
    refine aa (fun K hK => fj hK) (aa (v := .slice g1 G.length c1) (fun K hK => ld1 (fun _ => by kernel_rfl) y1.drew d19a hK) ?_)
    obtain ⟨p1, cur1, ha1, op1⟩ := cq r1 (by omega)
    obtain ⟨p2, cur2, ha2, op2⟩ := cq r2 (by omega)
    refine aa (v := .pointer (some ⟨p1, 0 + k * 5, none⟩)) (fun K hK => by
      rw [ha1]
      exact dJ Tryz.underlying43 (s := 5) (fun _ => by kernel_rfl) (by omega) (by omega) (by rw [Int.toNat_natCast]; exact hK)) ?_
    refine aa (v := .agg (grC x).toArray) (fun K hK => ldA (n := 5) (vs := grC x) Tryz.underlying126 rfl (by kernel_rfl) op1.blk (by rw [Nat.zero_add]; exact op1.elem iI rfl hx) rfl hK) ?_
    refine aa (fun K hK => fj hK) (aa (v := .slice g2 G.length c2) (fun K hK => ld1 (fun _ => by kernel_rfl) y2.drew d19b hK) ?_)
    refine aa (v := .pointer (some ⟨p2, 0 + k * 5, none⟩)) (fun K hK => by
      rw [ha2]
      exact dJ Tryz.underlying43 (s := 5) (fun _ => by kernel_rfl) (by omega) (by omega) (by rw [Int.toNat_natCast]; exact hK)) ?_
    refine aa (v := .agg (grC x).toArray) (fun K hK => ldA (n := 5) (vs := grC x) Tryz.underlying126 rfl (by kernel_rfl) op2.blk (by rw [Nat.zero_add]; exact op2.elem iI rfl hx) rfl hK) ?_
    refine aa (v := .bool false) (fun K hK => wu 3 (by omega) (by kernel_rfl) (by kernel_rfl) (Kk x) (Kk x) fun r hr => by rw [hr.2 rfl]; exact hK) ?_
    refine aO (aW (by omega) (by omega) ⟨⟨k + 1, congrArg iv (by push_cast; rfl), hlt, l4.drew⟩, ?_⟩)
    rw [hmu]; show G.length - ((k : Int) + 1).toNat < G.length - (k : Int).toNat; omega
  exact aq (by omega) (Em (h w4 (l02.trans (l4.mono l02.size))))
theorem Wt :leV (List.replicate 6 0) (List.replicate 6 1099511627776)=true:=by decide
theorem UQ :gp0.set 0 (jV (List.replicate 6 0) (List.replicate 6 0))=gp0:=by decide
theorem SP {R:RpB}{Rw j:List kN}(h:∀k∈RpF R Rw,B≤k)(I:B≤s)(u:∀k∈lrB j,k∈lrB Rw∨s≤k):∀k∈RpF R j,B≤k:=fun k d=>by
 rcases gD.1 d with d|d|d|d
 ·exact h k (gD.2 (.inl d))
 ·exact h k (gD.2 (.inr (.inl d)))
 ·exact(u k d).elim (fun d=>h k (gD.2 (.inr (.inr (.inl d))))) fun d=>by omega
 ·exact h k (gD.2 (.inr (.inr (.inr d))))
theorem PF {L:List (Nat×LG)}{E:List EV}{X:List AC}{x:AC}(hw:WM w Bw g L E C)(O:Bw≤w.heap.size)(hn:E.length≤800)(hX:AR w a m c X)(hx:X[j]? = some x)(am:j<m)(hm:m≤1000000)(hk:2≤k∧k≤6)(e1:Z1=.slice a m c)(e2:Y2=iv (j:Nat))(e3:W2=iv (k:Nat))(e4:X2=pB g)(hB:∀e w' L' E' C',WM w' Bw g L' E' C'→L'.length=L.length→E'.length≤E.length+1→Below Bw w w'→gd e 9=iv ((j:Int)+1)→Z0 e w'):io K Z0 ((aH Y1 Z1 U2 V2 W2 X2 Y2 Z2 U3 V3 W3 X3 Y3 Z3 j4 U4 V4 W4 X4 Y4 Z4 U5 V5 W5 X5 Y5 Z5 K6 T6 U6 V6 W6 X6 Y6 Z6 u7 B7 K7 T7 U7 V7 W7 X7 Y7 Z7 y8 B8 zf)) w:=by
 subst e1 e2 e3 e4;obtain⟨b,o,ha⟩:=hX.some_ (by omega);subst ha;have ad:=hX.ok x (List.mem_of_getElem? hx);refine wK <|dJ underlying63 (s:=9) (fun _=>by kernel_rfl) (by omega) (by omega) ?_;rw[Int.toNat_natCast];refine Wz hX rfl hx ?_;refine dZ (z:=.agg (acC ⟨0,false,0,0,0,0,0,0,0⟩).toArray) (by kernel_rfl) fun w1 z1 b1 s1=>?_
 have z1:blk w1 w.heap.size 70 (acC ⟨0,false,0,0,0,0,0,0,0⟩):=by simpa[Value.cells]using z1
 refine jP (n:=9) (vs:=acC x) (by kernel_rfl) rfl z1 (by show 0+9≤9;omega) (by simp[acC,kv8,Value.oneCell']) fun w2 z2 o2=>?_;have z2:blk w2 w.heap.size 70 (acC x):=z2;have b2:Below w.heap.size w w2:=bv b1 o2 (Nat.le_refl _);refine CW (lK (v:=kv8 x.who) z2 rfl (bh (by omega) (by omega) ?_));refine dS underlying3 underlying5 ?_
 rw[show IntKind.u8.wrap ((k:Nat)-1:Int)=(k:Nat)-1 by simp[IntKind.wrap,IntKind.signed,IntKind.bits];omega];obtain⟨⟨h1,h2⟩,h3⟩:=ad;refine xX h1 (by omega) ?_;have I:0≤x.who%((k:Nat)-1:Int):=Int.emod_nonneg _ (by omega);have ag:x.who%((k:Nat)-1:Int)<(k:Nat)-1:=Int.emod_lt_of_pos _ (by omega);generalize x.who%((k:Nat)-1:Int)=r at I ag
 refine CW (eB (fun _=>by kernel_rfl) z2 (by show 0+0<9;omega) rfl fun w3 z3 o3=>?_);have z3:blk w3 w.heap.size 70 (acC {x with who:=r}):=z3;have M:Below w.heap.size w w3:=bv b2 o3 (Nat.le_refl _);have h:=hw.fresh M;have u:Fm {x with who:=r}:=⟨⟨I,by show r≤255;omega⟩,h3⟩
 have nx:∀{w':World} {L':List (Nat×LG)} {E':List EV} {C':Nat→Int} {X3 Y3 Z3 j4:Value} {zf:Nat→Value},WM w' Bw g L' E' C'→L'.length=L.length→E'.length≤E.length+1→Below Bw w w' →
   eu K Z0 (aH Y1 (.slice (some ⟨b,o,none⟩) m c) U2 V2 (iv (k:Nat)) (pB g) (iv (j:Nat)) Z2 U3 V3 W3 X3 Y3 Z3 j4 U4 V4 W4 X4 Y4 Z4 U5 V5 W5 X5 Y5 Z5 K6 T6 U6 V6 W6 X6 Y6 Z6 u7 B7 K7 T7 U7 V7 W7 X7 Y7 Z7 y8 B8 zf) w':=fun a1 a2 a3 a4 =>
  wQ (aW (by omega) (by omega) (hB _ _ _ _ _ a1 a2 a3 a4 rfl))
 have d:Below Bw w w3:=M.mono O;refine GN (lK (v:=kv8 x.kind) z3 rfl (ww (by omega) (bN ?_)));by_cases J:x.kind.tmod 7≠6
 ·refine dD J (GN (lK (v:=kv8 x.kind) z3 rfl (ww (by omega) (bN (bO J ?_)))));by_cases h5:x.kind.tmod 7≠5
  ·refine ax h5 (ldA (n:=9) (vs:=acC {x with who:=r}) underlying70 rfl (by kernel_rfl) z3 rfl rfl ?_);have s3:=M.size;refine Wx h (by omega) hn u fun w4 L4 E4 C4 e4 al Z U b4=>?_;exact nx al Z U (d.trans b4)
  ·exact aq h5 (nx h rfl (by omega) d)
 ·exact dY J (bw J (aO (nx h rfl (by omega) d)))
theorem PJ {Bb q:Nat}{Ls:List (Nat×LG)}{E:List EV}{R:RpB}{l:PL}{W:HM}{Rw:List kN}{x:EV}(h:RpM w R k l W Rw (ct:Nat) gp0)(hr:RHL k E l W ct)(hE:E.length≤60)(al:ct≤60)(hx:x∈E)(hk:2≤k∧k≤6)(hz:blk w z 54 (evC x))(hF:∀k∈RpF R Rw,Bb≤k)(O:Bb≤w.heap.size)(ag:∀w',Below Bb w w'→WM w' Bw g Ls E C)(hq:q≤1000000)(am:on≤100)(u:∀l' W' F,DR l (nf l.V W [x]) l' W' F→on+E.length≤q→F=[])(I:U2=.slice a on b)(e2:V3=iv (q:Nat))(e3:W2=iv (k:Nat))(e4:X2=pB g)(e5:U3=iv (ct:Nat))(e6:W3=pB z)(e7:Z2=pB R.p)(hB:∀e w' l' W' d F,RpM w' R k l' W' d ((ct:Int)+(F.length:Nat)) gp0→DR l (nf l.V W [x]) l' W' F→ew l'.V W' 6=none→Ch (RpF R Rw) w w'→(∀k∈lrB d,k∈lrB Rw∨w.heap.size≤k)→F.length≤64→gd e 13=iv ((ct:Int)+(F.length:Nat))→gd e 14=iv ((q:Int)+1)→Z0 e w'):dH K Z0 ((aH Y1 Z1 U2 V2 W2 X2 Y2 Z2 U3 V3 W3 X3 Y3 Z3 j4 U4 V4 W4 X4 Y4 Z4 U5 V5 W5 X5 Y5 Z5 K6 T6 U6 V6 W6 X6 Y6 Z6 u7 B7 K7 T7 U7 V7 W7 X7 Y7 Z7 y8 B8 zf)) w:=by
 subst I e2 e3 e4 e5 e6 e7;refine wU (gB hz ?_);refine mY [evV x] underlying36 (s:=14) (by kernel_rfl) (by kernel_rfl) (by omega) rfl (by simp) (by decide) rfl (by
  intro v hv;rw[List.mem_singleton.1 hv];rfl) fun w1 I b1 s1=>?_
 have I:blk w1 w.heap.size 54 (evC x):=by simpa[Value.cells,evV]using I
 refine eT (vs:=mgC 1 (((0:Nat):Int)+1) (k:Nat) (List.replicate 6 0) (.slice (some ⟨w.heap.size,0,none⟩) 1 1) 0 0) (by kernel_rfl) ?_;have h1:=h.below b1;refine TX (f:=0) (V:=List.replicate 6 0) (A:=List.replicate 6 0) h1 hr (by omega) (by omega) hx I (by omega) (by omega) (by omega) rfl Wt rfl fun w2 l' W' d F fa fc h2 M n2 c2 k2=>?_;rw[UQ]at h2;have X:F.length≤64:=by
  have a1:=(M.ri (hr.puts (by omega) (L:=[x]) fun e Z=>by rw[List.mem_singleton.1 Z];exact hx)).2.2.1;have a2:=(hr.puts (by omega) (L:=[x]) fun e Z=>by rw[List.mem_singleton.1 Z];exact hx).few;omega
 have c1:Ch (RpF R Rw) w w2:=(Ch.of_below b1:Ch (RpF R Rw) w w1).trans c2 fun y hy=>.inl hy;have bb:Below Bb w w2:=c1.below hF O;obtain⟨la,lc,ea,ec,ad,_,_⟩:=(ag w2 bb).row;refine cZ (db (bN (dX (by simp) (bj underlying64 (ai (mD (lK (v:=.slice ea E.length ec) ad rfl (bj underlying36 (aW (by omega) (by omega) (bM ?_)))))))))) 
 have J:∀{X5 Y5 Z5 K6 T6 U6 V6 W6 X6 Y6 Z6 u7 B7 K7 T7:Value} {zf:Nat→Value},bJ K Z0 (aH Y1 Z1 (.slice a on b) V2 (iv (k:Nat)) (pB g) Y2 (pB R.p) (iv ((ct:Int)+(F.length:Nat))) (iv (q:Nat)) (pB z) X3 Y3 Z3 j4 U4 V4 W4 X4 Y4 Z4 U5 V5 W5 X5 Y5 Z5 K6 T6 U6 V6 W6 X6 Y6 Z6 u7 B7 K7 T7 U7 V7 W7 X7 Y7 Z7 y8 B8 zf) w2 :=
  wT (aW (by omega) (by omega) (hB _ w2 l' W' d F h2 M n2 c1 (fun y hy=>(k2 y hy).imp id fun hh=>by have:=b1.size;omega) X rfl rfl))
 by_cases j:(on:Int)+(E.length:Nat)≤(q:Nat)
 ·have U:=u l' W' F M (by omega);subst U;refine dD j (bj underlying36 (de (dX (by simp) (bO j (bw (by simp) (aq (by simp) (bj underlying36 (aW (by rw[List.length_nil];omega) (by rw[List.length_nil];omega) J))))))))
 ·exact dY j (dX (by simp) (bw j (bw (by simp) (aO (bj underlying36 (aW (by omega) (by omega) J))))))
end
end Go.Proofs.YtkbhfjljieopoaaGreatDoor
