/- Laid together: Rn13 Rn14 Rn15 Rn16 Rn16y RnE Rn16x Rn16z Rn17 Rn18 WkR RnR. -/
import Derived.Test.YtgpfkmdknlcemaaGreatDoorQ11
import Derived.Test.YtgpfkmdknlcemaaGreatDoorQ2
import Derived.RangeFuncOwn
import Derived.Maps.RangeRun
import Derived.Test.YtgpfkmdknlcemaaGreatDoorQ10
namespace Go.Proofs.YtgpfkmdknlcemaaGreatDoor
set_option maxRecDepth 100000
open Go.RowKit
section
variable {P:Program} {G:Glo} {B0:Nat} {R:Lay} {H H':AH} {w w':World} {n:Nat} {E E':Tr GV} {e:Env} {cl:Cl} {cp:Cp} {ops:Array Oper} {K:KE}
def JY (cp:Cp) (P:Program) (G:Glo) (B0 n:Nat) (ops:Array Oper) (K:KE) (fc:Nat) (Lc:Array Bool) (pc:List Nat) (R:Lay) (qs:List Rec) (e:Env) (w:World):Prop :=
 ∀ Qs,LnkAll cp P G B0 n R qs Qs→∃ S':World→Prop,(∀ x,S' x→∀ Q ∈ Qs,Q x)∧S' w∧bQ P ops K fc Lc pc S' e w
theorem oh {w1:World} (hs:Sim G B0 R H w) (hb:Below w.heap.size w w1):Fr B0 R H w R H w1 :=
 ⟨hb.mono hs.size,fun k hk _=>hb.block k hk,fun i o L a b c => .inl ⟨i,o,L,a,b,c,rfl⟩⟩
def ala (al:Nat→Nat) (i α:Nat):Nat→Nat:=fun x=>match Nat.beq x i with | true=>α | false=>al x
theorem vi (al:Nat→Nat) (i α:Nat):ala al i α i=α:=by unfold ala; simp
theorem wC (al:Nat→Nat) {i x:Nat} (α:Nat) (h:x≠i):ala al i α x=al x:=by
 unfold ala
 cases hb:Nat.beq x i with
 | true=>exact absurd (Nat.eq_of_beq_eq_true hb) h
 | false=>rfl
theorem Erl.more {w0 w1:World} {la:La} {m:Msk} {al:Nat→Nat} {i d:Nat} {oa:Oper} {t:TypeId} {z:Value} (h:Erl P ops B0 R H w w0 e la m al) (hs:Sim G B0 R H w) (hb:Below w.heap.size w w1)
  (nd1:(la.map (·.1)).Nodup) (nd2:(la.map (·.2)).Nodup) (hi:(i,d) ∈ la) (hw0:w0.heap.size≤w.heap.size) (ho:ops[i]? = some oa) (hop:oa.op=.alloc t) (hz:(P.info? t).bind (·.zero)=some z) (hbk:blk w1 w.heap.size t z.cells.toList) (hdl:d < e.length) :
  Erl P ops B0 R H w1 w0 (pt e (some d) (.pointer (some ⟨w.heap.size,0,none⟩))) la (ups m i) (ala al i w.heap.size) where
 at_ q hq hm:=by
  by_cases hqi:q.1=i
  ·have:q=(i,d):=wQ nd1 hq hi hqi
   subst this
   simp only
   rw [vi]
   refine ⟨?_,⟨oa,t,z,ho,hop,hz,hbk⟩, ?_,hs.size,hw0,hbk.lt⟩
   ·unfold pt gd
    simp [List.getD_eq_getElem?_getD,hdl]
   ·intro k ok L hk lk hL
    obtain ⟨M,x1,_,x3⟩:=hs.obj k ok hk lk
    rw [hL] at x1; cases x1
    have:=x3.lt lk
    omega
  ·rw [ol m hqi] at hm
   rw [wC al _ hqi]
   refine (h.at_ q hq hm).step (oh hs hb) ?_
   have:d≠q.2:=fun he=>hqi (by have:=wQ nd2 hq hi he.symm; rw [this])
   unfold pt gd
   simp [List.getD_eq_getElem?_getD,List.getElem?_set_ne this]
 ne q hq q' hq' hm hm' hne:=by
  by_cases hqi:q.1=i
  ·have hqi':q'.1≠i:=fun he=>hne (hqi.trans he.symm)
   rw [ol m hqi'] at hm'
   rw [hqi,vi,wC al _ hqi']
   have:=(h.at_ q' hq' hm').lt
   omega
  ·rw [ol m hqi] at hm
   rw [wC al _ hqi]
   by_cases hqi':q'.1=i
   ·rw [hqi',vi]
    have:=(h.at_ q hq hm).lt
    omega
   ·rw [ol m hqi'] at hm'
    rw [wC al _ hqi']
    exact h.ne q hq q' hq' hm hm' hne
theorem IR (hcl:gR P G B0 cl) (hcp:gV P G B0 cp) {R0:Lay} {H0:AH} {w0:World}
  (hK:∀ R' e' w',Lay.le R0 R'→EnvR R' n E' e'→Sim G B0 R' H' w'→Fr B0 R0 H0 w0 R' H' w'→K e' w') :
  ∀ (k:Nat) {f:Nat} {listed:Array Bool} {pend:List Nat} {E:Tr GV} {H:AH} {qs:List Rec} {la:La},
   iHR cl cp P G n ops k f listed pend E H qs la=some (E',H') →
   ∀ {m:Msk} {al:Nat→Nat} {fc:Nat} {pc:List Nat} {R:Lay} {e:Env} {w:World},EnvR R n E e→Sim G B0 R H w→f=fc+delta la m→(∀ x,m x=true→∃ d,(x,d) ∈ la)→Erl P ops B0 R H w w0 e la m al →
   (∀ x ∈ pc,x ∈ pend)→tM cp P G H n qs→Lay.le R0 R→Fr B0 R0 H0 w0 R H w→JY cp P G B0 n ops K fc (bE la m listed) pc R qs e w:=by
 intro k
 induction k with
 | zero=>intro f listed pend E H qs la h; cases h
 | succ k ih =>
  intro f listed pend E H qs la h m al fc pc R e w he hs hf hms hE hpc hr hR hFr Qs hQs
  unfold iHR at h
  split at h
  ·cases h
  ·rename_i f1 L1 pd E1 q1 hrd
   obtain ⟨g1,g2,g3,g4,Qs1,e1,g5,g6,g7,g8⟩:=wL (K:=K) (m:=m) hcp hs hrd he hr
   obtain ⟨fc1,pc1,k1,k2,k3⟩:=g8 fc pc hf hpc
   have hQA:LnkAll cp P G B0 n R q1 (Qs++Qs1):=by
    intro Q hQ
    rcases List.mem_append.1 hQ with hQ | hQ
    ·exact hQs.mono (Lay.le.refl R) g2 Q hQ
    ·exact g6 Q hQ
   have hE1:Erl P ops B0 R H w w0 e1 la m al:=hE.step (Fr.refl ..) (fun q hq hm=>⟨hq,hm⟩) fun q hq _=>g7 q hq
   suffices hgoal:∃ S':World→Prop,(∀ x,S' x→∀ Q ∈ Qs++Qs1,Q x)∧S' w∧bQ P ops K fc1 (bE la m L1) pc1 S' e1 w by
    obtain ⟨S',a,b,c⟩:=hgoal
    exact ⟨S',fun x hx Q hQ=>a x hx Q (List.mem_append_left _ hQ),b,k3 S' (fun x hx Q hQ=>a x hx Q (List.mem_append_right _ hQ)) c⟩
   clear k3 g8 hrd he hf hpc hr hE hQs g6 g7
   split at h
   ·rename_i hrdy
    split at h
    ·cases h
     exact ⟨fun x => ∀ Q ∈ Qs++Qs1,Q x,fun x hx=>hx,hQA.now g1 hs,yu hrdy (hK R e1 w hR g5 hs hFr)⟩
    ·cases h
   ·rename_i j0 js hrdy
    split at h
    ·rename_i j new mg f2 hw
     generalize hla':new++la=la' at h
     -- what goes for both
     have core:okW P n ops la' j mg L1=true→(∀ (u:Nat) {m:Msk} {al:Nat→Nat} {fcx:Nat} {pcx:List Nat} {ex:Env} {wx:World},(unM la' m).length=u→f2+1=fcx+delta la' m→(∀ x,m x=true→∃ d,(x,d) ∈ la')→Erl P ops B0 R H wx w0 ex la' m al →
       EnvR R n (ji la' n E1) ex→Sim G B0 R H wx→Fr B0 R0 H0 w0 R H wx→(∀ x ∈ pcx,x ∈ pd)→∃ S':World→Prop,(∀ x,S' x→∀ Q ∈ Qs++Qs1,Q x)∧S' wx∧bQ P ops K fcx (bE la' m L1) pcx S' ex wx) →
       ∃ S':World→Prop,(∀ x,S' x→∀ Q ∈ Qs++Qs1,Q x)∧S' w∧bQ P ops K fc1 (bE la m L1) pc1 S' e1 w:=by
      intro hok inner
      obtain ⟨nd1,_,_,_,_,_⟩:=wR hok
      have hnew:∀ q ∈ new,m q.1=false:=by
       intro q hq
       cases hm:m q.1 with
       | false=>rfl
       | true =>
        obtain ⟨d,hd⟩:=hms _ hm
        rw [← hla',List.map_append,List.nodup_append] at nd1
        exact absurd rfl (nd1.2.2 q.1 (List.mem_map.2 ⟨q,hq,rfl⟩) q.1 (List.mem_map.2 ⟨(q.1,d),hd,rfl⟩))
      obtain ⟨w1,w2⟩:=yy (la:=la) (l:=L1) hnew
      rw [hla'] at w1 w2
      have hms':∀ x,m x=true→∃ d,(x,d) ∈ la':=fun x hx=>by
       obtain ⟨d,hd⟩:=hms x hx
       exact ⟨d,by rw [← hla']; exact List.mem_append_right _ hd⟩
      have hE':Erl P ops B0 R H w w0 e1 la' m al:=by
       refine hE1.step (Fr.refl ..) (fun q hq hm => ?_) fun q hq _=>rfl
       rw [← hla'] at hq
       rcases List.mem_append.1 hq with hq | hq
       ·rw [hnew q hq] at hm; cases hm
       ·exact ⟨hq,hm⟩
      rw [← w1]
      exact inner _ rfl (by rw [w2]; exact k1) hms' hE' (yw g5) hs hFr k2
     -- one comes ahead
     have early:okW P n ops la' j mg L1=true→∀ (u:Nat) {m:Msk} {al:Nat→Nat} {fcy:Nat} {pcx:List Nat} {ex:Env} {wx:World} {i:Nat},
       (∀ {m:Msk} {al:Nat→Nat} {fcx:Nat} {pcx:List Nat} {ex:Env} {wx:World},(unM la' m).length=u→f2+1=fcx+delta la' m→(∀ x,m x=true→∃ d,(x,d) ∈ la')→Erl P ops B0 R H wx w0 ex la' m al →
       EnvR R n (ji la' n E1) ex→Sim G B0 R H wx→Fr B0 R0 H0 w0 R H wx→(∀ x ∈ pcx,x ∈ pd)→∃ S':World→Prop,(∀ x,S' x→∀ Q ∈ Qs++Qs1,Q x)∧S' wx∧bQ P ops K fcx (bE la' m L1) pcx S' ex wx) →
       (unM la' m).length=u+1→f2+1=fcy+1+delta la' m→(∀ x,m x=true→∃ d,(x,d) ∈ la')→Erl P ops B0 R H wx w0 ex la' m al→EnvR R n (ji la' n E1) ex→Sim G B0 R H wx→Fr B0 R0 H0 w0 R H wx→(∀ x ∈ pcx,x ∈ pd)→i ∈ unM la' m →
       ∃ o,ops[i]? = some o∧nM P ops ex o (tN P ops K fcy (bE la' m L1) pcx (fun x => ∀ Q ∈ Qs++Qs1,Q x) i ex o.dst) wx:=by
      intro hok u m al fcy pcx ex wx i hin hu hfy hmsx hEx hex hsx hfrx hpx hi
      obtain ⟨nd1,nd2,hals,_,_,_⟩:=wR hok
      obtain ⟨hmi,d,hid⟩:=xZ hi
      obtain ⟨oa,t,cs,ho',hop',hgd',hds',hcs,hdn⟩:=Cb (hals _ hid)
      refine ⟨oa,ho', ?_⟩
      unfold nM
      rw [hgd']
      show cOp P (ev ex) oa _ wx
      have:cOp P (ev ex) oa=alc P t:=by unfold cOp; rw [hop']
      rw [this]
      obtain ⟨z,hz1,hz2⟩:=ij (R:=R) hcs
      refine cH hz1 fun w1 hb1 hbl _ => ?_
      have hs1:Sim G B0 R H w1:=hsx.below hbl
      have hf1:=hfrx.trans (oh hsx hbl)
      rw [hds']
      have hE2:=hEx.more hsx hbl nd1 nd2 hid hfrx.below.size ho' hop' hz1 hb1 (by rw [hex.len]; exact hdn)
      obtain ⟨u1,u2,u3⟩:=yx (l:=L1) nd1 hid hmi
      have hms2:∀ x,ups m i x=true→∃ d,(x,d) ∈ la':=by
       intro x hx
       by_cases hxi:x=i
       ·subst hxi; exact ⟨d,hid⟩
       ·rw [ol m hxi] at hx; exact hmsx x hx
      have fin:=fun (pcz:List Nat) (hz:∀ x ∈ pcz,x ∈ pd)=>hin (m:=ups m i) (fcx:=fcy) (pcx:=pcz) (by omega) (by omega) hms2 hE2 (HX hdn ⟨i,hid⟩ hex) hs1 hf1 hz
      rw [u1] at fin
      exact qU (fun hl=>by obtain ⟨S',_,b,c⟩:=fin [] (fun x hx=>by cases hx); exact ⟨S',b,c⟩) (fun p ps hl=>fin (p::ps) (fun x hx=>hpx x (yv (by rw [hl]; exact hx))))
     split at h
     ·rename_i o ho hok
      refine core hok fun u => ?_
      obtain ⟨nd1,nd2,hals,hmt,_,hsch⟩:=wR hok
      obtain ⟨d,hjd⟩:=hmt rfl
      obtain ⟨o',t',cs,ho',hop',hgd',hds',hcs,hdn⟩:=Cb (hals _ hjd)
      rw [ho] at ho'; cases ho'
      split at h
      ·rename_i t hop
       rw [hop'] at hop; cases hop
       split at h
       ·rename_i r H1 hal
        split at h
        ·rename_i hrk
         rw [Bool.and_eq_true] at hrk
         obtain ⟨hrk,hfu⟩:=hrk
         have hrk:=Ca hrk
         have hfu:=Nat.le_of_ble_eq_true hfu
         have hms3:∀ {m:Msk},(∀ x,m x=true→∃ d,(x,d) ∈ la')→∀ x,dns m j x=true→∃ d,(x,d) ∈ rem j la':=by
          intro m hmsx x hx
          by_cases hxj:x=j
          ·subst hxj; rw [Gu] at hx; cases hx
          ·rw [wN m hxj] at hx
           obtain ⟨d,hd⟩:=hmsx x hx
           exact ⟨d,Em hxj hd⟩
         have hdns:∀ (m:Msk) (l:Array Bool),bE (rem j la') m l=bE (rem j la') (dns m j) l∧delta (rem j la') m=delta (rem j la') (dns m j):=by
          intro m l
          obtain ⟨x1,x2,_⟩:=AJ (la:=rem j la') (m:=m) (m':=dns m j) (fun q hq=>(wN m (pJ nd1 hq)).symm) l
          exact ⟨x1,x2⟩
         have main:∀ {m:Msk} {al:Nat→Nat} {fcx:Nat} {pcx:List Nat} {ex:Env} {wx:World},f2+1=fcx+delta la' m→(∀ x,m x=true→∃ d,(x,d) ∈ la')→Erl P ops B0 R H wx w0 ex la' m al →
           EnvR R n (ji la' n E1) ex→Sim G B0 R H wx→Fr B0 R0 H0 w0 R H wx→(∀ x ∈ pcx,x ∈ pd) →
           (∀ fcy i,fcx=fcy+1→i ∈ unM la' m→∃ o,ops[i]? = some o∧nM P ops ex o (tN P ops K fcy (bE la' m L1) pcx (fun x => ∀ Q ∈ Qs++Qs1,Q x) i ex o.dst) wx) →
           ∃ S':World→Prop,(∀ x,S' x→∀ Q ∈ Qs++Qs1,Q x)∧S' wx∧bQ P ops K fcx (bE la' m L1) pcx S' ex wx:=by
          intro m al fcx pcx ex wx hfx hmsx hEx hex hsx hfrx hpx hearly
          obtain ⟨hrt,hrf⟩:=yz (m:=m) (l:=L1) nd1 hjd
          obtain ⟨hd1,hd2⟩:=hdns m L1
          cases hmj:m j with
          | true =>
           obtain ⟨rt1,rt2⟩:=hrt hmj
           have hat:=hEx.at_ _ hjd hmj
           obtain ⟨o',t'',z,x1,x2,x3,x4⟩:=hat.ex
           rw [ho] at x1; cases x1
           rw [hop'] at x2; cases x2
           unfold Aq at hal
           rw [hcs] at hal
           simp only at hal
           obtain ⟨z',hz1,hz2⟩:=ij (R:=R) hcs
           rw [x3] at hz1; cases hz1
           unfold Ap at hal
           split at hal
           ·rename_i hlt
            cases hal
            have hlt:=ba.1 hlt
            have hle:=hsx.upd_le ⟨al j,0⟩
            have hs':=hsx.adopt x4 hz2 hat.no hat.b0 hlt
            have hrv:GV.rel (upd R H.n ⟨al j,0⟩) (fH (.p H.n 0)) (gd ex d):=by
             have:=hat.ptr
             simp only at this
             rw [this]; exact ⟨_,eZ,rfl⟩
            have he':EnvR (upd R H.n ⟨al j,0⟩) n (ptE (ji la' n E1) n o.dst (fH (.p H.n 0))) ex:=by
             rw [hds']; exact (hex.mono hle).same hrv
            have hE':Erl P ops B0 (upd R H.n ⟨al j,0⟩) (H.new (.cells t' 1 false cs)) wx w0 ex (rem j la') (dns m j) al:=by
             have key:∀ q ∈ rem j la',dns m j q.1=true→q ∈ la'∧m q.1=true∧q.1≠j:=fun q hq hm=>⟨tO hq,by rwa [wN m (pJ nd1 hq)] at hm,pJ nd1 hq⟩
             refine ⟨fun q hq hm => ?_,fun q hq q' hq' hm hm' => ?_⟩
             ·obtain ⟨y1,y2,y3⟩:=key q hq hm
              have ha:=hEx.at_ q y1 y2
              refine ⟨ha.ptr,ha.ex,fun i oi L hi hl hL => ?_,ha.b0,ha.w0,ha.lt⟩
              rw [AH.get_new hlt] at hi
              unfold upd at hL
              split at hi
              ·rename_i he; rw [if_pos he] at hL; cases hL
               exact hEx.ne (j,d) hjd q y1 hmj y2 y3.symm
              ·rename_i he; rw [if_neg he] at hL; exact ha.no i oi L hi hl hL
             ·obtain ⟨y1,y2,y3⟩:=key q hq hm
              obtain ⟨z1,z2,z3⟩:=key q' hq' hm'
              exact hEx.ne q y1 q' z1 y2 z2
            have:=ih h (m:=dns m j) (al:=al) (fc:=fcx) (pc:=pcx) he' hs' (by omega) (hms3 hmsx) hE' hpx hrk (hR.trans hle) (hfrx.adopt hat.w0 hlt) (Qs++Qs1) (hQA.mono hle fun _ h=>h)
            rw [rt1,hd1, ← il]
            exact this
           ·cases hal
          | false =>
           obtain ⟨rf1,rf2⟩:=hrf hmj
           obtain ⟨s1,s2,s3⟩:=hsch m fun _=>hmj
           have hdl:=qT m (rem j la')
           obtain ⟨fcy,rfl⟩:∃ fcy,fcx=fcy+1:=⟨fcx - 1,by omega⟩
           refine ⟨_,fun x hx=>hx,hQA.now g1 hsx,BZ rfl s2 s1 ?_⟩
           intro i hi
           by_cases hij:i=j
           ·subst hij
            refine ⟨o,ho, ?_⟩
            unfold nM
            rw [hgd']
            show cOp P (ev ex) o _ wx
            have:cOp P (ev ex) o=alc P t':=by unfold cOp; rw [hop']
            rw [this]
            refine BR hal hsx _ fun R' v w2 hle hrv hs2 hfr2 => ?_
            have he2:EnvR R' n (ptE (ji la' n E1) n o.dst r) (pt ex o.dst v):=(hex.mono hle).put hrv
            have hE2:Erl P ops B0 R' H1 w2 w0 (pt ex o.dst v) (rem i la') (dns m i) al:=by
             refine hEx.step hfr2 (fun q hq hm=>⟨tO hq,by rwa [wN m (pJ nd1 hq)] at hm⟩) fun q hq _ => ?_
             rw [hds']
             have:d≠q.2:=fun he=>pJ nd1 hq (by have:=wQ nd2 (tO hq) hjd he.symm; rw [this])
             unfold pt gd
             simp [List.getD_eq_getElem?_getD,List.getElem?_set_ne this]
            have IH:=fun (pc2:List Nat) (hp:∀ x ∈ pc2,x ∈ pd)=>ih h (m:=dns m i) (al:=al) (fc:=fcy) (pc:=pc2) he2 hs2 (by omega) (hms3 hmsx) hE2 hp hrk (hR.trans hle) (hfrx.trans hfr2)
            rw [il] at IH
            rw [rf1,hd1]
            refine qU (fun hl => ?_) (fun p ps hl => ?_)
            ·obtain ⟨S',_,b,c⟩:=IH [] (fun x hx=>by cases hx) [] (fun Q hQ=>by cases hQ)
             exact ⟨S',b,c⟩
            ·exact IH (p::ps) (fun x hx=>hpx x (yv (by rw [hl]; exact hx))) (Qs++Qs1) (hQA.mono hle fun _ h=>h)
           ·rcases s3 i hi with hij' | hiu
            ·exact absurd hij' hij
            ·exact hearly fcy i rfl hiu
         induction u with
         | zero =>
          intro m al fcx pcx ex wx hu hfx hmsx hEx hex hsx hfrx hpx
          refine main hfx hmsx hEx hex hsx hfrx hpx fun fcy i _ hi => ?_
          have:unM la' m=[]:=List.eq_nil_of_length_eq_zero hu
          rw [this] at hi; cases hi
         | succ u ihu =>
          intro m al fcx pcx ex wx hu hfx hmsx hEx hex hsx hfrx hpx
          refine main hfx hmsx hEx hex hsx hfrx hpx fun fcy i hfy hi => ?_
          subst hfy
          exact early hok u ihu hu hfx hmsx hEx hex hsx hfrx hpx hi
        ·cases h
       ·cases h
      ·cases h
     ·rename_i o ho hok
      refine core hok fun u => ?_
      obtain ⟨nd1,nd2,hals,_,hmf,hsch⟩:=wR hok
      split at h
      ·rename_i r H1 hd hfu hop
       have hfu:=Nat.le_of_ble_eq_true hfu
       have main:∀ {m:Msk} {al:Nat→Nat} {fcx:Nat} {pcx:List Nat} {ex:Env} {wx:World},f2+1=fcx+delta la' m→(∀ x,m x=true→∃ d,(x,d) ∈ la')→Erl P ops B0 R H wx w0 ex la' m al →
         EnvR R n (ji la' n E1) ex→Sim G B0 R H wx→Fr B0 R0 H0 w0 R H wx→(∀ x ∈ pcx,x ∈ pd) →
         (∀ fcy i,fcx=fcy+1→i ∈ unM la' m→∃ o,ops[i]? = some o∧nM P ops ex o (tN P ops K fcy (bE la' m L1) pcx (fun x => ∀ Q ∈ Qs++Qs1,Q x) i ex o.dst) wx) →
         ∃ S':World→Prop,(∀ x,S' x→∀ Q ∈ Qs++Qs1,Q x)∧S' wx∧bQ P ops K fcx (bE la' m L1) pcx S' ex wx:=by
        intro m al fcx pcx ex wx hfx hmsx hEx hex hsx hfrx hpx hearly
        obtain ⟨s1,s2,s3⟩:=hsch m fun hh=>by cases hh
        have hdl:=qT m la'
        obtain ⟨fcy,rfl⟩:∃ fcy,fcx=fcy+1:=⟨fcx - 1,by omega⟩
        refine ⟨_,fun x hx=>hx,hQA.now g1 hsx,BZ rfl s2 s1 ?_⟩
        intro i hi
        rcases s3 i hi with hij | hiu
        ·subst hij
         refine ⟨o,ho, ?_⟩
         refine HW hcl hop hex hsx fun R' v w2 hle hrv hs2 hfr2 => ?_
         have he2:EnvR R' n (ptE (ji la' n E1) n o.dst r) (pt ex o.dst v):=(hex.mono hle).put hrv
         have hE2:Erl P ops B0 R' H1 w2 w0 (pt ex o.dst v) la' m al:=hEx.step hfr2 (fun q hq hm=>⟨hq,hm⟩) fun q hq _=>qS hd hq
         split at h
         ·rename_i hl0
          refine qU (fun hl => ?_) (fun p ps hl => ?_)
          ·obtain ⟨S',_,b,c⟩:=ih h (m:=m) (fc:=fcy) (pc:=[]) he2 hs2 (by omega) hmsx hE2 (fun x hx=>by cases hx) (fun q hq=>by cases hq) (hR.trans hle) (hfrx.trans hfr2) [] (fun Q hQ=>by cases hQ)
           rw [il] at c; exact ⟨S',b,c⟩
          ·have:p ∈ ep ops pd i:=wM hpx p (by rw [hl]; exact .head _)
           rw [hl0] at this; cases this
         ·rename_i p0 ps0 hl0
          split at h
          ·rename_i hrk
           have hrk:=Ca hrk
           have IH:=fun (pc2:List Nat) (hp:∀ x ∈ pc2,x ∈ p0::ps0)=>ih h (m:=m) (fc:=fcy) (pc:=pc2) he2 hs2 (by omega) hmsx hE2 hp hrk (hR.trans hle) (hfrx.trans hfr2)
           rw [il] at IH
           refine qU (fun hl => ?_) (fun p ps hl => ?_)
           ·obtain ⟨S',_,b,c⟩:=IH [] (fun x hx=>by cases hx) [] (fun Q hQ=>by cases hQ)
            exact ⟨S',b,c⟩
           ·exact IH (p::ps) (fun x hx=>by rw [← hl0]; exact wM hpx x (by rw [hl]; exact hx)) (Qs++Qs1) (hQA.mono hle fun _ h=>h)
          ·cases h
        ·exact hearly fcy i rfl hiu
       induction u with
       | zero =>
        intro m al fcx pcx ex wx hu hfx hmsx hEx hex hsx hfrx hpx
        refine main hfx hmsx hEx hex hsx hfrx hpx fun fcy i _ hi => ?_
        have:unM la' m=[]:=List.eq_nil_of_length_eq_zero hu
        rw [this] at hi; cases hi
       | succ u ihu =>
        intro m al fcx pcx ex wx hu hfx hmsx hEx hex hsx hfrx hpx
        refine main hfx hmsx hEx hex hsx hfrx hpx fun fcy i hfy hi => ?_
        subst hfy
        exact early hok u ihu hu hfx hmsx hEx hex hsx hfrx hpx hi
      ·cases h
     ·cases h
    ·cases h
end
end Go.Proofs.YtgpfkmdknlcemaaGreatDoor
namespace Go.Proofs.YtgpfkmdknlcemaaGreatDoor
set_option maxRecDepth 100000
open Go.RowKit
inductive Out where
 | nrm (E:Tr GV) (H:AH)
 | ext (i:Nat) (E:Tr GV) (H:AH)
 | ret (E:Tr GV) (H:AH)
def Out.E:Out→Tr GV
 | .nrm E _=>E
 | .ext _ E _=>E
 | .ret E _=>E
def Out.H:Out→AH
 | .nrm _ H=>H
 | .ext _ _ H=>H
 | .ret _ H=>H
def Out.k:Out→KE→(Nat→KE)→KE→KE
 | .nrm _ _,N,_,_=>N
 | .ext i _ _,_,X,_=>X i
 | .ret _ _,_,_,R=>R
def unr (P:Program) (c:Code) (X:Nat→KE) (Rt:KE):Nat→KE
 | 0=>fun _ _=>False
 | k+1=>fun e w=>ac P c (unr P c X Rt k) X Rt e w
theorem DY {p:Nat→Prop}:∀ k,p k→∃ m,p m∧∀ j,j < m→¬ p j:=by
 intro k
 induction k using Nat.strongRecOn with
 | ind k ih =>
  intro hk
  by_cases h:∃ j,j < k∧p j
  ·obtain ⟨j,h1,h2⟩:=h; exact ih j h1 h2
  ·exact ⟨k,hk,fun j h1 h2=>h ⟨j,h1,h2⟩⟩
open Classical in
theorem FS {P:Program} {c:Code} {N:KE} {X:Nat→KE} {Rt:KE} {k:Nat} {e:Env} {w:World} (h:unr P c X Rt k e w):ac P (.loop c) N X Rt e w:=by
 have hm:∀ e w,(∃ k,unr P c X Rt k e w)→∃ m,unr P c X Rt m e w∧∀ j,j < m→¬ unr P c X Rt j e w:=fun e w ⟨k,hk⟩=>DY (p:=fun k=>unr P c X Rt k e w) k hk
 refine ⟨fun e w => ∃ k,unr P c X Rt k e w,fun e w=>if hh:∃ k,unr P c X Rt k e w then Classical.choose (hm e w hh) else 0,⟨k,h⟩, ?_⟩
 intro e' w' hI
 have hsp:=Classical.choose_spec (hm e' w' hI)
 simp only [dif_pos hI]
 generalize Classical.choose (hm e' w' hI)=m at hsp
 cases m with
 | zero=>exact hsp.1.elim
 | succ m =>
  refine ut c hsp.1 (fun e2 w2 _ h2 => ?_) (fun _ _ _ _ h=>h) (fun _ _ _ h=>h)
  have hI2:∃ k,unr P c X Rt k e2 w2:=⟨m,h2⟩
  refine ⟨hI2, ?_⟩
  simp only [dif_pos hI2]
  have hs2:=Classical.choose_spec (hm e2 w2 hI2)
  by_cases hlt:Classical.choose (hm e2 w2 hI2) < m+1
  ·exact hlt
  ·exact absurd h2 (hs2.2 m (by omega))
def Gd (P:Program) (f:Nat) (c:Code) (N:KE) (X:Nat→KE) (Rt:KE):KE:=match c with | .loop b=>unr P b X Rt f | c=>ac P c N X Rt
theorem Gd.code {P:Program} {f:Nat} {c:Code} {N:KE} {X:Nat→KE} {Rt:KE} {e:Env} {w:World} (h:Gd P f c N X Rt e w):ac P c N X Rt e w:=by
 cases c with
 | loop b=>exact FS h
 | _=>exact h
def isT (E:Tr GV) (n:Nat) (c:Operand):Option Bool:=match evG E n c with | some (.val (.one (.k (.bool b))))=>some b | _=>none
abbrev Ht:=Nat→Option (Bool × Nat)
def d9 (P:Program) (ht:Ht):Code→Bool
 | .region id ops draw=>match draw with
  | false=>true
  | true=>match ht id with
   | none=>true
   | some (h,d)=>match ky P ops,h with
    | true,true=>true
    | false,false=>Nat.beq (cR ops) d
    | _,_=>false
 | .seq a b=>match d9 P ht a with | true=>d9 P ht b | false=>false
 | .cond _ a b=>match d9 P ht a with | true=>d9 P ht b | false=>false
 | .block _ c=>d9 P ht c
 | .loop c=>d9 P ht c
 | .rangeFunc _ _ a b=>match d9 P ht a with | true=>(match d9 P ht b with | true=>(match jp a with | true=>jp b | false=>false) | false=>false) | false=>false
 | _=>true
def FT (hd:Option (Bool × Nat)) (cl:Cl) (cp:Cp) (P:Program) (G:Glo) (n:Nat) (ops:Array Oper) (E:Tr GV) (H:AH):Option (Tr GV × AH) :=
 match P.follows .mixedOrders with
 | true=>match hd with
  | some (true,_)=>iHR cl cp P G n ops (ops.size+ops.size+2) ops.size (Array.replicate ops.size false) [] E H [] []
  | some (false,d)=>match Nat.ble d ops.size with
   | true=>match kL cp P G H n ops.toList (grp (ops.toList.take d)) E with
    | some E1=>sZ cl P G n ops.toList (grp (ops.toList.drop d)) E1 H
    | none=>none
   | false=>none
  | none=>none
 | false=>none
def CO:Option (Tr GV × AH)→Option Out
 | some (E,H)=>some (.nrm E H)
 | none=>none
def fJ (ht:Ht) (cl:Cl) (cp:Cp) (P:Program) (G:Glo) (n:Nat):Nat→Code→Tr GV→AH→Option Out
 | 0,_,_,_=>none
 | f+1,c,E,H =>
  match c with
  | .skip=>some (.nrm E H)
  | .region id ops draw=>match draw with
   | false=>CO (sZ cl P G n ops.toList (grp ops.toList) E H)
   | true=>CO (FT (ht id) cl cp P G n ops E H)
  | .seq a b=>match fJ ht cl cp P G n f a E H with
   | some (.nrm E1 H1)=>fJ ht cl cp P G n f b E1 H1
   | r=>r
  | .cond c x y=>match isT E n c with
   | some true=>fJ ht cl cp P G n f x E H
   | some false=>fJ ht cl cp P G n f y E H
   | none=>none
  | .block id c=>match fJ ht cl cp P G n f c E H with
   | some (.ext i E1 H1)=>match Nat.beq i id with | true=>some (.nrm E1 H1) | false=>some (.ext i E1 H1)
   | r=>r
  | .loop c=>match fJ ht cl cp P G n f c E H with
   | some (.nrm E1 H1)=>fJ ht cl cp P G n f (.loop c) E1 H1
   | r=>r
  | .exit i=>some (.ext i E H)
  | .ret=>some (.ret E H)
  | _=>none
section
variable {P:Program} {G:Glo} {B0:Nat} {R:Lay} {H H':AH} {w w':World} {n:Nat} {E E':Tr GV} {e:Env} {cl:Cl} {cp:Cp} {K:KE} {ht:Ht}
theorem mi {c:Operand} {b:Bool} (h:isT E n c=some b) (he:EnvR R n E e):ev e c=.bool b:=by
 unfold isT at h
 split at h
 ·rename_i b' hb
  cases h
  have:=aO he hb
  exact this
 ·cases h
theorem Fr.drew (hs:Sim G B0 R H w):Fr B0 R H w R H w.drew:=oh hs (Below.refl _ w).drew
theorem yq {x:Option (Tr GV × AH)} {o:Out} (h:CO x=some o):∃ E H,x=some (E,H)∧o=.nrm E H:=by
 unfold CO at h
 split at h
 ·cases h; exact ⟨_,_,rfl,rfl⟩
 ·cases h
theorem HD (hcl:gR P G B0 cl) (hcp:gV P G B0 cp) {id:Nat} {ops:Array Oper} {X:Nat→KE} {Rt:KE} (hh:d9 P ht (.region id ops true)=true) (h:FT (ht id) cl cp P G n ops E H=some (E',H')) (he:EnvR R n E e) (hs:Sim G B0 R H w)
  (hK:∀ R' e' w',Lay.le R R'→EnvR R' n E' e'→Sim G B0 R' H' w'→Fr B0 R H w R' H' w'→K e' w'):ac P (.region id ops true) K X Rt e w:=by
 have hs':Sim G B0 R H w.drew:=hs.below (Below.refl _ w).drew
 have hf':Fr B0 R H w R H w.drew:=Fr.drew hs
 unfold FT at h
 unfold ac
 unfold d9 at hh
 simp only at hh
 split at h
 ·rename_i hm
  split at h
  ·rename_i d hd
   rw [hd] at hh
   have hd2:ky P ops=true:=by
    simp only at hh
    split at hh <;> first | assumption | cases hh | (rename_i h1 h2; cases h2)
   have:(P.follows .mixedOrders && ky P ops)=true:=by rw [hm,hd2]; rfl
   rw [this]
   show aX (fun S w=>bQ P ops K ops.size (Array.replicate ops.size false) [] S e w) w.drew
   have:=IR (K:=K) (R0:=R) (H0:=H) (w0:=w) (ops:=ops) hcl hcp hK _ h (m:=fun _=>false) (al:=fun _=>0) (fc:=ops.size) (pc:=[]) he hs' rfl (fun _ hh=>by cases hh) Erl.nil (fun x hx=>by cases hx) (fun q hq=>by cases hq) (Lay.le.refl R) hf'
   obtain ⟨S',_,b,c⟩:=this [] (fun Q hQ=>by cases hQ)
   exact ⟨S',b,c⟩
  ·rename_i d hd
   rw [hd] at hh
   have hd2:ky P ops=false∧cR ops=d:=by
    simp only at hh
    split at hh
    ·rename_i h1 h2; cases h2
    ·rename_i h1 _; exact ⟨h1,Nat.eq_of_beq_eq_true hh⟩
    ·cases hh
   obtain ⟨hd2,rfl⟩:=hd2
   have:(P.follows .mixedOrders && ky P ops)=false:=by rw [hm,hd2]; rfl
   rw [this]
   split at h
   ·rename_i hb
    have:(P.follows .mixedOrders && Nat.ble (cR ops) ops.size)=true:=by rw [hm,hb]; rfl
    show @Bool.rec (fun _=>Prop) False (im P ops.toList (grp (ops.toList.take (cR ops))) (aW P ops.toList (grp (ops.toList.drop (cR ops))) K) e w.drew) (P.follows .mixedOrders && Nat.ble (cR ops) ops.size)
    rw [this]
    show im P ops.toList (grp (ops.toList.take (cR ops))) (aW P ops.toList (grp (ops.toList.drop (cR ops))) K) e w.drew
    split at h
    ·rename_i E1 h1
     refine qR hcp hs' h1 he fun e1 he1 => ?_
     exact pI hcl h he1 hs' fun R' e' w' hle he' hs2 hf2=>hK R' e' w' hle he' hs2 (hf'.trans hf2)
    ·cases h
   ·cases h
  ·cases h
 ·cases h
theorem qI {a b:Code} (h:(match d9 P ht a with | true=>d9 P ht b | false=>false)=true):d9 P ht a=true∧d9 P ht b=true:=by
 split at h
 ·rename_i h1; exact ⟨h1,h⟩
 ·cases h
theorem vj (hcl:gR P G B0 cl) (hcp:gV P G B0 cp):∀ (f:Nat) {c:Code} {E:Tr GV} {H:AH} {o:Out},d9 P ht c=true→fJ ht cl cp P G n f c E H=some o→∀ {R:Lay} {e:Env} {w:World} {N:KE} {X:Nat→KE} {Rt:KE},EnvR R n E e→Sim G B0 R H w →
  (∀ R' e' w',Lay.le R R'→EnvR R' n o.E e'→Sim G B0 R' o.H w'→Fr B0 R H w R' o.H w'→o.k N X Rt e' w')→Gd P f c N X Rt e w:=by
 intro f
 induction f with
 | zero=>intro c E H o _ h; cases h
 | succ f ih =>
  intro c E H o hh h R e w N X Rt he hs hK
  unfold fJ at h
  cases c with
  | skip=>cases h; exact hK R e w (Lay.le.refl R) he hs (Fr.refl ..)
  | region id ops draw =>
   cases draw with
   | false =>
    obtain ⟨E1,H1,h1,rfl⟩:=yq h
    exact pI hcl h1 he hs hK
   | true =>
    obtain ⟨E1,H1,h1,rfl⟩:=yq h
    exact HD (id:=id) (X:=X) (Rt:=Rt) hcl hcp hh h1 he hs hK
  | seq a b =>
   have hh:=qI hh
   simp only at h
   split at h
   ·rename_i E1 H1 h1
    exact (ih hh.1 h1 he hs fun R1 e1 w1 hle he1 hs1 hf1=>(ih hh.2 h he1 hs1 fun R2 e2 w2 hle2 he2 hs2 hf2=>hK R2 e2 w2 (hle.trans hle2) he2 hs2 (hf1.trans hf2)).code).code
   ·rename_i hno
    refine (ih (c:=a) (N:=ac P b N X Rt) (X:=X) (Rt:=Rt) hh.1 h he hs fun R1 e1 w1 hle he1 hs1 hf1 => ?_).code
    have:=hK R1 e1 w1 hle he1 hs1 hf1
    cases o with
    | nrm E1 H1=>exact absurd h (hno E1 H1)
    | ext i E1 H1=>exact this
    | ret E1 H1=>exact this
  | cond c x y =>
   have hh:=qI hh
   simp only at h
   split at h
   ·rename_i hc
    exact ⟨true,mi hc he,fun _=>(ih hh.1 h he hs hK).code,fun hh=>by cases hh⟩
   ·rename_i hc
    exact ⟨false,mi hc he,fun hh=>(by cases hh),fun _=>(ih hh.2 h he hs hK).code⟩
   ·cases h
  | block id c =>
   have hh:d9 P ht c=true:=hh
   simp only at h
   split at h
   ·rename_i i E1 H1 h1
    split at h
    ·rename_i hb
     cases h
     refine (ih hh h1 he hs fun R1 e1 w1 hle he1 hs1 hf1 => ?_).code
     show (@Bool.rec (fun _=>KE) (X i) N (Nat.beq i id)) e1 w1
     rw [hb]
     exact hK R1 e1 w1 hle he1 hs1 hf1
    ·rename_i hb
     cases h
     refine (ih hh h1 he hs fun R1 e1 w1 hle he1 hs1 hf1 => ?_).code
     show (@Bool.rec (fun _=>KE) (X i) N (Nat.beq i id)) e1 w1
     rw [hb]
     exact hK R1 e1 w1 hle he1 hs1 hf1
   ·rename_i hno
    refine (ih (c:=c) (N:=N) (Rt:=Rt) hh h he hs fun R1 e1 w1 hle he1 hs1 hf1 => ?_).code
    have:=hK R1 e1 w1 hle he1 hs1 hf1
    cases o with
    | nrm E1 H1=>exact this
    | ext i E1 H1=>exact absurd h (hno i E1 H1)
    | ret E1 H1=>exact this
  | loop c =>
   have hh:d9 P ht c=true:=hh
   simp only at h
   show unr P c X Rt (f+1) e w
   unfold unr
   split at h
   ·rename_i E1 H1 h1
    refine (ih hh h1 he hs fun R1 e1 w1 hle he1 hs1 hf1 => ?_).code
    have:=ih (c:=.loop c) (N:=N) (X:=X) (Rt:=Rt) hh h he1 hs1 fun R2 e2 w2 hle2 he2 hs2 hf2=>hK R2 e2 w2 (hle.trans hle2) he2 hs2 (hf1.trans hf2)
    exact this
   ·rename_i hno
    refine (ih (c:=c) (N:=unr P c X Rt f) (X:=X) (Rt:=Rt) hh h he hs fun R1 e1 w1 hle he1 hs1 hf1 => ?_).code
    have:=hK R1 e1 w1 hle he1 hs1 hf1
    cases o with
    | nrm E1 H1=>exact absurd h (hno E1 H1)
    | ext i E1 H1=>exact this
    | ret E1 H1=>exact this
  | exit i=>cases h; exact hK R e w (Lay.le.refl R) he hs (Fr.refl ..)
  | ret=>cases h; exact hK R e w (Lay.le.refl R) he hs (Fr.refl ..)
  | _=>cases h
end
end Go.Proofs.YtgpfkmdknlcemaaGreatDoor
namespace Go.Proofs.YtgpfkmdknlcemaaGreatDoor
set_option maxRecDepth 100000
open Go.RowKit
inductive OutP where
 | nrm (E:Tr GV)
 | ext (i:Nat) (E:Tr GV)
 | ret (E:Tr GV)
def OutP.E:OutP→Tr GV
 | .nrm E=>E
 | .ext _ E=>E
 | .ret E=>E
def OutP.k:OutP→KE→(Nat→KE)→KE→KE
 | .nrm _,N,_,_=>N
 | .ext i _,_,X,_=>X i
 | .ret _,_,_,R=>R
def IS:Option (Tr GV)→Option OutP
 | some E=>some (.nrm E)
 | none=>none
def iPc (cp:Cp) (P:Program) (G:Glo) (H:AH) (n:Nat):Nat→Code→Tr GV→Option OutP
 | 0,_,_=>none
 | f+1,c,E =>
  match c with
  | .skip=>some (.nrm E)
  | .region _ ops draw=>match draw with
   | false=>IS (kL cp P G H n ops.toList (grp ops.toList) E)
   | true=>none
  | .seq a b=>match iPc cp P G H n f a E with
   | some (.nrm E1)=>iPc cp P G H n f b E1
   | r=>r
  | .cond c x y=>match isT E n c with
   | some true=>iPc cp P G H n f x E
   | some false=>iPc cp P G H n f y E
   | none=>none
  | .block id c=>match iPc cp P G H n f c E with
   | some (.ext i E1)=>match Nat.beq i id with | true=>some (.nrm E1) | false=>some (.ext i E1)
   | r=>r
  | .loop c=>match iPc cp P G H n f c E with
   | some (.nrm E1)=>iPc cp P G H n f (.loop c) E1
   | r=>r
  | .exit i=>some (.ext i E)
  | .ret=>some (.ret E)
  | _=>none
section
variable {P:Program} {G:Glo} {B0:Nat} {R:Lay} {H H':AH} {w w':World} {n:Nat} {E E':Tr GV} {e:Env} {cl:Cl} {cp:Cp} {K:KE}
theorem DZ (o:Oper) (l:List Oper):bc (o::l)=o.dst.toList++bc l:=by
 unfold bc
 rw [List.filterMap_cons]
 cases o.dst <;> rfl
theorem vk (hcp:gV P G B0 cp) (hs:Sim G B0 R H w):∀ {l:List Oper} {E E':Tr GV} {e:Env},qQ cp P G H n l E=some E'→EnvR R n E e→∃ e',EnvR R n E' e'∧agree (bc l) e e'∧∀ K:KE,K e' w→bA P l K e w
 | [],E,E',e,h,he=>by cases h; exact ⟨e,he,agree.refl _ _,fun K hK=>hK⟩
 | o::l,E,E',e,h,he=>by
  unfold qQ at h
  split at h
  ·rename_i r ho
   obtain ⟨v,hv,hk⟩:=qP hcp ho he hs
   obtain ⟨e',h1,h2,h3⟩:=vk hcp hs h (he.put hv)
   refine ⟨e',h1, ?_,fun K hK => ?_⟩
   ·rw [DZ]; exact (qd e o.dst v).trans h2
   ·unfold bA
    exact hk _ (h3 K hK)
  ·cases h
theorem qJ (hcp:gV P G B0 cp) (hs:Sim G B0 R H w) {ops:List Oper}:∀ {gs:List (Option (Nat × Bool) × List Oper)} {E E':Tr GV} {e:Env},kL cp P G H n ops gs E=some E'→EnvR R n E e→∃ e',EnvR R n E' e'∧∀ K:KE,K e' w→aW P ops gs K e w
 | [],E,E',e,h,he=>by cases h; exact ⟨e,he,fun K hK=>hK⟩
 | (none,l)::gs,E,E',e,h,he=>by
  unfold kL at h
  split at h
  ·rename_i E1 h1
   obtain ⟨e1,a1,_,c1⟩:=vk hcp hs h1 he
   obtain ⟨e2,a2,c2⟩:=qJ hcp hs h a1
   refine ⟨e2,a2,fun K hK => ?_⟩
   unfold aW
   exact c1 _ (c2 K hK)
  ·cases h
 | (some (j,want),l)::gs,E,E',e,h,he=>by
  unfold kL at h
  split at h
  ·rename_i hb hg
   have hmet:=(ki hg he).1 rfl
   split at h
   ·rename_i E1 h1
    obtain ⟨e1,a1,b1,c1⟩:=vk hcp hs h1 he
    obtain ⟨e2,a2,c2⟩:=qJ hcp hs h a1
    refine ⟨e2,a2,fun K hK => ?_⟩
    unfold aW
    rw [hb]
    refine ⟨fun _=>c1 _ ?_,fun hh=>absurd hmet hh⟩
    show aW P ops gs K (iO e (bc l) ((bc l).map (gd e1))) w
    rw [kz b1]
    exact c2 K hK
   ·cases h
  ·rename_i hb hg
   have hmet : ¬ asB (fX ops e j)=some want:=fun hh=>by have:=(ki hg he).2 hh; cases this
   obtain ⟨e2,a2,c2⟩:=qJ hcp hs h (tL _ 0 (mc (bc l)) he)
   refine ⟨e2,a2,fun K hK => ?_⟩
   unfold aW
   rw [hb]
   exact ⟨fun hh=>absurd hh hmet,fun _=>c2 K hK⟩
  ·cases h
theorem IT (hcp:gV P G B0 cp) (hs:Sim G B0 R H w):∀ (f:Nat) {c:Code} {E:Tr GV} {o:OutP} {e:Env},iPc cp P G H n f c E=some o→EnvR R n E e→∃ e',EnvR R n o.E e'∧∀ (N:KE) (X:Nat→KE) (Rt:KE),o.k N X Rt e' w→Gd P f c N X Rt e w:=by
 intro f
 induction f with
 | zero=>intro c E o e h; cases h
 | succ f ih =>
  intro c E o e h he
  unfold iPc at h
  cases c with
  | skip=>cases h; exact ⟨e,he,fun N X Rt h=>h⟩
  | region id ops draw =>
   cases draw with
   | false =>
    simp only [IS] at h
    split at h
    ·rename_i E1 h1
     cases h
     obtain ⟨e1,a1,b1⟩:=qJ hcp hs h1 he
     exact ⟨e1,a1,fun N X Rt h=>b1 _ h⟩
    ·cases h
   | true=>cases h
  | seq a b =>
   simp only at h
   split at h
   ·rename_i E1 h1
    obtain ⟨e1,a1,b1⟩:=ih h1 he
    obtain ⟨e2,a2,b2⟩:=ih h a1
    exact ⟨e2,a2,fun N X Rt hh=>(b1 (ac P b N X Rt) X Rt (b2 N X Rt hh).code).code⟩
   ·rename_i hno
    obtain ⟨e1,a1,b1⟩:=ih h he
    refine ⟨e1,a1,fun N X Rt hh=>(b1 (ac P b N X Rt) X Rt ?_).code⟩
    cases o with
    | nrm E1=>exact absurd h (hno E1)
    | ext i E1=>exact hh
    | ret E1=>exact hh
  | cond c x y =>
   simp only at h
   split at h
   ·rename_i hc
    obtain ⟨e1,a1,b1⟩:=ih h he
    exact ⟨e1,a1,fun N X Rt hh=>⟨true,mi hc he,fun _=>(b1 N X Rt hh).code,fun hh=>by cases hh⟩⟩
   ·rename_i hc
    obtain ⟨e1,a1,b1⟩:=ih h he
    exact ⟨e1,a1,fun N X Rt hh=>⟨false,mi hc he,fun hh=>(by cases hh),fun _=>(b1 N X Rt hh).code⟩⟩
   ·cases h
  | block id c =>
   simp only at h
   split at h
   ·rename_i i E1 h1
    obtain ⟨e1,a1,b1⟩:=ih h1 he
    split at h
    ·rename_i hb
     cases h
     refine ⟨e1,a1,fun N X Rt hh=>(b1 N (fun i => @Bool.rec (fun _=>KE) (X i) N (Nat.beq i id)) Rt ?_).code⟩
     show (@Bool.rec (fun _=>KE) (X i) N (Nat.beq i id)) e1 w
     rw [hb]
     exact hh
    ·rename_i hb
     cases h
     refine ⟨e1,a1,fun N X Rt hh=>(b1 N (fun i => @Bool.rec (fun _=>KE) (X i) N (Nat.beq i id)) Rt ?_).code⟩
     show (@Bool.rec (fun _=>KE) (X i) N (Nat.beq i id)) e1 w
     rw [hb]
     exact hh
   ·rename_i hno
    obtain ⟨e1,a1,b1⟩:=ih h he
    refine ⟨e1,a1,fun N X Rt hh=>(b1 N (fun i => @Bool.rec (fun _=>KE) (X i) N (Nat.beq i id)) Rt ?_).code⟩
    cases o with
    | nrm E1=>exact hh
    | ext i E1=>exact absurd h (hno i E1)
    | ret E1=>exact hh
  | loop c =>
   simp only at h
   split at h
   ·rename_i E1 h1
    obtain ⟨e1,a1,b1⟩:=ih h1 he
    obtain ⟨e2,a2,b2⟩:=ih h a1
    refine ⟨e2,a2,fun N X Rt hh => ?_⟩
    exact (b1 (unr P c X Rt f) X Rt (b2 N X Rt hh)).code
   ·rename_i hno
    obtain ⟨e1,a1,b1⟩:=ih h he
    refine ⟨e1,a1,fun N X Rt hh => ?_⟩
    refine (b1 (unr P c X Rt f) X Rt ?_).code
    cases o with
    | nrm E1=>exact absurd h (hno E1)
    | ext i E1=>exact hh
    | ret E1=>exact hh
  | exit i=>cases h; exact ⟨e,he,fun N X Rt h=>h⟩
  | ret=>cases h; exact ⟨e,he,fun N X Rt h=>h⟩
  | _=>cases h
/-! ## What a function is handed, and what it returns. -/
def aG:GV→Option AV
 | .val a=>some a
 | _=>none
def kJ (E:Tr GV) (n t:Nat):Option AV:=match Nat.blt t n with | true=>aG (gK E t) | false=>none
theorem gZ {t:Nat} {a:AV} (h:kJ E n t=some a) (he:EnvR R n E e):a.rel R (gd e t):=by
 unfold kJ at h
 split at h
 ·rename_i hb
  have:=he.rel t (ba.1 hb)
  unfold aG at h
  split at h
  ·rename_i a' ha; cases h; rw [ha] at this; exact this
  ·cases h
 ·cases h
def FU (E:Tr GV) (n:Nat):List ResultVar→Option GV
 | []=>some (.tup [])
 | [.tmp t]=>match kJ E n t with | some a=>some (.val a) | none=>none
 | [.tmp t,.tmp u]=>match kJ E n t,kJ E n u with | some a,some b=>some (.tup [a,b]) | _,_=>none
 | [.tmp t,.tmp u,.tmp v]=>match kJ E n t,kJ E n u,kJ E n v with | some a,some b,some c=>some (.tup [a,b,c]) | _,_,_=>none
 | [.tmp t,.tmp u,.tmp v,.tmp x]=>match kJ E n t,kJ E n u,kJ E n v,kJ E n x with | some a,some b,some c,some d=>some (.tup [a,b,c,d]) | _,_,_,_=>none
 | _=>none
theorem HE {rs:List ResultVar} {r:GV} (h:FU E n rs=some r) (he:EnvR R n E e):∃ v,r.rel R v∧∀ (K:KV) w,K v w→oP P rs K e w:=by
 unfold FU at h
 split at h
 ·cases h; exact ⟨_,⟨[],.nil,rfl⟩,fun K w h=>h⟩
 ·split at h
  ·rename_i ha; cases h; exact ⟨_,gZ ha he,fun K w h=>h⟩
  ·cases h
 ·split at h
  ·rename_i ha hb; cases h; exact ⟨_,⟨_,.cons (gZ ha he) (.cons (gZ hb he) .nil),rfl⟩,fun K w h=>h⟩
  ·cases h
 ·split at h
  ·rename_i ha hb hc; cases h; exact ⟨_,⟨_,.cons (gZ ha he) (.cons (gZ hb he) (.cons (gZ hc he) .nil)),rfl⟩,fun K w h=>h⟩
  ·cases h
 ·split at h
  ·rename_i ha hb hc hd; cases h; exact ⟨_,⟨_,.cons (gZ ha he) (.cons (gZ hb he) (.cons (gZ hc he) (.cons (gZ hd he) .nil))),rfl⟩,fun K w h=>h⟩
  ·cases h
 ·cases h
def IU:GV→Bool
 | .val (.one (.p _ _))=>true
 | .val (.one (.g _ _))=>true
 | _=>false
def xQ (P:Program) (G:Glo) (H:AH) (E:Tr GV) (n:Nat) (a:Tmp) (t:TypeId):Option AV :=
 match Nat.blt a n,IU (gK E a) with
 | true,true=>match ldG P G H t (gK E a) with | some r=>aG r | none=>none
 | _,_=>none
theorem tE {a:Tmp} {t:TypeId} {x:AV} (h:xQ P G H E n a t=some x) (he:EnvR R n E e) (hs:Sim G B0 R H w):∃ (q:Addr) (v:Value),gd e a=.pointer (some q)∧x.rel R v∧(loadVar t q).run P w=.ok v w:=by
 unfold xQ at h
 split at h
 ·rename_i hb hp
  have hr:=he.rel a (ba.1 hb)
  split at h
  ·rename_i r hl
   obtain ⟨v,hv,hk⟩:=Dn hl hs hr
   unfold aG at h
   split at h
   ·rename_i x' 
    cases h
    have hq:∃ q,gd e a=.pointer (some q):=by
     unfold IU at hp
     split at hp
     ·rename_i b o he; rw [he] at hr; obtain ⟨L,_,hq⟩:=hr; exact ⟨_,hq⟩
     ·rename_i b o he; rw [he] at hr; exact ⟨_,hr⟩
     ·cases hp
    obtain ⟨q,hq⟩:=hq
    refine ⟨q,v,hq,hv, ?_⟩
    have:=hk (fun v' w' => v'=v∧w'=w) ⟨rfl,rfl⟩
    unfold ld okV at this
    rw [hq] at this
    unfold Instr.loadAt at this
    simp only [Instr.sureAddr,Sem.run_bind,Sem.run_pure,Result.andThen_ok] at this
    split at this
    ·rename_i v' w' hrun; rw [hrun,this.1,this.2]
    ·exact this.elim
   ·cases h
  ·cases h
 ·cases h
def qK (P:Program) (G:Glo) (H:AH) (E:Tr GV) (n:Nat) (rs:List ResultVar):Option GV :=
 match rs with
 | [.cell a t]=>match xQ P G H E n a t with | some x=>some (.val x) | none=>none
 | [.cell a t,.tmp u]=>match xQ P G H E n a t,kJ E n u with | some x,some y=>some (.tup [x,y]) | _,_=>none
 | [.cell a t,.cell b s,.tmp u]=>match xQ P G H E n a t,xQ P G H E n b s,kJ E n u with | some x,some y,some z=>some (.tup [x,y,z]) | _,_,_=>none
 | rs=>FU E n rs
theorem BJ {rs:List ResultVar} {r:GV} (h:qK P G H E n rs=some r) (he:EnvR R n E e) (hs:Sim G B0 R H w):∃ v,r.rel R v∧∀ K:KV,K v w→oP P rs K e w:=by
 unfold qK at h
 split at h
 ·rename_i a t
  split at h
  ·rename_i x hx
   cases h
   obtain ⟨q,v,h1,h2,h3⟩:=tE hx he hs
   refine ⟨v,h2,fun K hK => ?_⟩
   show aH P [(some t,gd e a)] K w
   unfold aH
   have:(dD [(some t,gd e a)]).run P w=.ok v w:=by simp [dD,h1,asAddr,Sem.run_bind,h3]
   rw [this]; exact ⟨rfl,hK⟩
  ·cases h
 ·rename_i a t u
  split at h
  ·rename_i x y hx hy
   cases h
   obtain ⟨q,v,h1,h2,h3⟩:=tE hx he hs
   refine ⟨_,⟨_,.cons h2 (.cons (gZ hy he) .nil),rfl⟩,fun K hK => ?_⟩
   show aH P [(some t,gd e a),(none,gd e u)] K w
   unfold aH
   have:(dD [(some t,gd e a),(none,gd e u)]).run P w=.ok (.tuple #[v,gd e u]) w:=by simp [dD,h1,asAddr,Sem.run_bind,h3]
   rw [this]; exact ⟨rfl,hK⟩
  ·cases h
 ·rename_i a t b s u
  split at h
  ·rename_i x y z hx hy hz
   cases h
   obtain ⟨q,v,h1,h2,h3⟩:=tE hx he hs
   obtain ⟨q',v',h1',h2',h3'⟩:=tE hy he hs
   refine ⟨_,⟨_,.cons h2 (.cons h2' (.cons (gZ hz he) .nil)),rfl⟩,fun K hK => ?_⟩
   show aH P [(some t,gd e a),(some s,gd e b),(none,gd e u)] K w
   unfold aH
   have:(dD [(some t,gd e a),(some s,gd e b),(none,gd e u)]).run P w=.ok (.tuple #[v,v',gd e u]) w:=by simp [dD,h1,h1',asAddr,Sem.run_bind,h3,h3']
   rw [this]; exact ⟨rfl,hK⟩
  ·cases h
 ·obtain ⟨v,h1,h2⟩:=HE (P:=P) h he
  exact ⟨v,h1,fun K hK=>h2 K w hK⟩
def oX (n:Nat):Nat→List GV→Tr GV→Tr GV
 | _,[],E=>E
 | i,a::l,E=>oX n (i+1) l (ptE E n (some i) a)
def xR:Nat→List Value→Env→Env
 | _,[],e=>e
 | i,v::l,e=>xR (i+1) l (pt e (some i) v)
theorem BK:∀ {aS:List GV} {vs:List Value} {i:Nat} {E:Tr GV} {e:Env},All2 (GV.rel R) aS vs→EnvR R n E e→EnvR R n (oX n i aS E) (xR i vs e)
 | [],_,i,E,e,h,he=>by cases h; exact he
 | a::aS,_,i,E,e,h,he=>by
  cases h with
  | cons h1 h2 =>
   unfold oX xR
   exact BK h2 (he.put (d:=some i) h1)
theorem BL:∀ (vs:List Value) (pre:Env) (k:Nat),vs.length≤k→xR pre.length vs (pre++List.replicate k undef)=pre++(vs++List.replicate (k - vs.length) undef)
 | [],pre,k,_=>by simp [xR]
 | v::vs,pre,k,h=>by
  cases k with
  | zero=>simp at h
  | succ k =>
   unfold xR
   have h1:pt (pre++List.replicate (k+1) undef) (some pre.length) v=(pre++[v])++List.replicate k undef:=by
    unfold pt
    simp [List.set_append,List.replicate_succ]
   rw [h1]
   have h2:=BL vs (pre++[v]) k (by simpa using h)
   rw [List.length_append,List.length_singleton] at h2
   rw [h2]
   simp
theorem JZ (hn:n≤256):EnvR R n .e (List.replicate n undef) where
 len:=by simp
 big:=hn
 rel i hi:=by
  have:gd (List.replicate n undef) i=undef:=by unfold gd; simp [List.getD_eq_getElem?_getD,List.getElem?_replicate,hi]
  rw [this]
  exact rfl
theorem FV {aS:List GV} {vs:List Value} (h:All2 (GV.rel R) aS vs) (hl:Nat.ble aS.length n=true) (hn:Nat.ble n 256=true):EnvR R n (oX n 0 aS .e) (vs++List.replicate (n - vs.length) undef):=by
 have h1:=BK (i:=0) h (JZ (R:=R) (Nat.le_of_ble_eq_true hn))
 have h2:=BL vs [] n (by rw [h.len]; exact Nat.le_of_ble_eq_true hl)
 simp only [List.length_nil,List.nil_append] at h2
 rw [h2] at h1
 exact h1
/-! ## Functions. -/
def iPf (jc:Cp) (P:Program) (G:Glo) (F:Nat):Nat→Cp
 | 0=>jc
 | k+1=>fun f args H=>match jc f args H with
  | some r=>some r
  | none=>match P.funcs[f]? with
   | some fn=>match fn.body,Nat.ble args.length fn.ntmps,Nat.ble fn.ntmps 256 with
    | some c,true,true=>match iPc (iPf jc P G F k) P G H fn.ntmps F c (oX fn.ntmps 0 args .e) with
     | some (.nrm E)=>qK P G H E fn.ntmps fn.results.toList
     | some (.ret E)=>qK P G H E fn.ntmps fn.results.toList
     | _=>none
    | _,_,_=>none
   | none=>none
def ns (P:Program):Prop := ∀ (f:FuncId) (fn:Func),P.funcs[f]? = some fn→(fn.name == "runtime.NumGoroutine")=false
theorem IV {jc:Cp} {F:Nat} (hgo:ns P) (hjc:gV P G B0 jc):∀ k,gV P G B0 (iPf jc P G F k):=by
 intro k
 induction k with
 | zero=>exact hjc
 | succ k ih =>
  intro f args H r R w vs h hs ha
  unfold iPf at h
  split at h
  ·rename_i r' hr; cases h; exact hjc hr hs ha
  ·split at h
   ·rename_i fn hf
    split at h
    ·rename_i c hb hl hn
     have he:=FV ha hl hn
     have fin:∀ {E:Tr GV} {o:OutP},iPc (iPf jc P G F k) P G H fn.ntmps F c (oX fn.ntmps 0 args .e)=some o→qK P G H o.E fn.ntmps fn.results.toList=some r→(∀ (N:KE) (X:Nat→KE),o.k N X N=N)→Yld (fun K w=>call P f vs.toArray K w) R r w:=by
      intro E o h1 h2 h3
      obtain ⟨e',he',hk⟩:=IT ih hs F h1 he
      obtain ⟨v,hv,hret⟩:=BJ h2 he' hs
      refine ⟨v,hv,fun K hK=>⟨⟨fn,hf,hgo f fn hf,by rw [hb]; rfl⟩, ?_⟩⟩
      refine enter hf hb (hk _ _ _ ?_).code
      rw [h3]
      exact hret K hK
     split at h
     ·rename_i E h1; exact fin (E:=E) h1 h fun _ _=>rfl
     ·rename_i E h1; exact fin (E:=E) h1 h fun _ _=>rfl
     ·cases h
    ·cases h
   ·cases h
end
end Go.Proofs.YtgpfkmdknlcemaaGreatDoor
namespace Go.Proofs.YtgpfkmdknlcemaaGreatDoor
set_option maxRecDepth 100000
open Go.RowKit
def Out.x:Out→Exit
 | .nrm _ _ => .normal
 | .ext i _ _ => .exit i
 | .ret _ _ => .ret
/-! ## A round. -/
def Ae (n:Nat):List (Tmp × GV)→Tr GV→Tr GV
 | [],E=>E
 | (p,v)::r,E=>Ae n r (ptE E n (some p) v)
def xS:List (Tmp × Value)→Env→Env
 | [],e=>e
 | (p,v)::r,e=>xS r (e.set p v)
def Af (ht:Ht) (cl:Cl) (cp:Cp) (P:Program) (G:Glo) (n F:Nat) (E:Tr GV) (ps:List Tmp) (a bd:Code) (aS:List GV) (H:AH):Option (Option Code × AH) :=
 match Nat.beq aS.length ps.length with
 | true=>match fJ ht cl cp P G n F a (Ae n (ps.zip aS) E) H with
  | some (.nrm E1 H1)=>match fJ ht cl cp P G n F bd E1 H1 with
   | some (.nrm _ H2)=>some (none,H2)
   | some (.ext i _ H2)=>some (some (.exit i),H2)
   | some (.ret _ H2)=>some (some .ret,H2)
   | none=>none
  | _=>none
 | false=>none
abbrev Rnd:=List GV→AH→Option (Option Code × AH)
/-! ## The function that is ranged over. -/
def isY (b:Nat) (E:Tr GV) (n:Nat) (o:Oper):Option (List Operand) :=
 match o.op with
 | .call c=>match c.callee with
  | .value (.tmp t)=>match evG E n (.tmp t) with
   | some (.val (.one (.yd b')))=>match Nat.beq b b' with | true=>some c.args.toList | false=>none
   | _=>none
  | _=>none
 | _=>none
def iYs (rnd:Rnd) (b:Nat) (cl:Cl) (P:Program) (G:Glo) (n:Nat) (ops:Array Oper):List Oper→Tr GV→AH→Option Code→Option (Tr GV × AH × Option Code)
 | [],E,H,y=>some (E,H,y)
 | o::r,E,H,y=>match (match o.guard with | none=>some true | some (j,want)=>gB ops.toList E n j want) with
  | none=>none
  | some false=>iYs rnd b cl P G n ops r (ptE E n o.dst jU) H y
  | some true=>match isY b E n o with
   | some args=>match y,evL E n args with
    | none,some l=>match rnd l H with
     | some (j,H1)=>iYs rnd b cl P G n ops r (ptE E n o.dst (kG (.bool j.isNone))) H1 j
     | none=>none
    | _,_=>none
   | none=>match ndO o with
    | true=>match iOp cl P G H E n o with
     | some (g,H1)=>iYs rnd b cl P G n ops r (ptE E n o.dst g) H1 y
     | none=>none
    | false=>none
def K0 (ops:List Oper):Bool:=ops.any fun o=>match o.op with | .call c=>(match c.callee with | .value (.tmp _)=>true | _=>false) | _=>false
def iY (rnd:Rnd) (b:Nat) (ht:Ht) (cl:Cl) (cp:Cp) (P:Program) (G:Glo) (n:Nat):Nat→Code→Tr GV→AH→Option Code→Option (Out × Option Code)
 | 0,_,_,_,_=>none
 | f+1,c,E,H,y =>
  match c with
  | .seq a b' => match iY rnd b ht cl cp P G n f a E H y with
   | some (.nrm E1 H1,y1)=>iY rnd b ht cl cp P G n f b' E1 H1 y1
   | r=>r
  | .cond c x z=>match isT E n c with
   | some true=>iY rnd b ht cl cp P G n f x E H y
   | some false=>iY rnd b ht cl cp P G n f z E H y
   | none=>none
  | .block id c=>match iY rnd b ht cl cp P G n f c E H y with
   | some (.ext i E1 H1,y1)=>match Nat.beq i id with | true=>some (.nrm E1 H1,y1) | false=>some (.ext i E1 H1,y1)
   | r=>r
  | .loop c=>match iY rnd b ht cl cp P G n f c E H y with
   | some (.nrm E1 H1,y1)=>iY rnd b ht cl cp P G n f (.loop c) E1 H1 y1
   | r=>r
  | .region id ops false=>match K0 ops.toList with
   | true=>match iYs rnd b cl P G n ops ops.toList E H y with | some (E1,H1,y1)=>some (.nrm E1 H1,y1) | none=>none
   | false=>match fJ ht cl cp P G n f (.region id ops false) E H with | some o=>some (o,y) | none=>none
  | c=>match fJ ht cl cp P G n f c E H with | some o=>some (o,y) | none=>none
/-! ## A function with such a loop. -/
def iRf (hts:FuncId→Ht) (ht:Ht) (cl:Cl) (cp:Cp) (P:Program) (G:Glo) (n f:Nat) (g:Operand) (ps:List Tmp) (a bd:Code) (E:Tr GV) (H:AH):Option (AH × Option Code) :=
 match evG E n g with
 | some x=>match Df x with
  | some (gf,[],cap)=>match P.funcs[gf]? with
   | some fn=>match fn.body,Nat.blt H.n 8192,Nat.ble (cap.length+1) fn.ntmps,Nat.ble fn.ntmps 256,fn.results.toList with
    | some c,true,true,true,[]=>match iY (Af ht cl cp P G n f E ps a bd) H.n (hts gf) cl cp P G fn.ntmps f c (oX fn.ntmps 0 (fH (.yd H.n)::cap) .e) (H.new .dead) none with
     | some (.nrm _ H1,y)=>some (H1,y)
     | some (.ret _ H1,y)=>some (H1,y)
     | _=>none
    | _,_,_,_,_=>none
   | none=>none
  | _=>none
 | none=>none
def GJ (E:Tr GV):Option (AH × Option Code)→Option (Out × Bool)
 | some (H,none)=>some (.nrm E H,true)
 | some (H,some .ret)=>some (.ret E H,true)
 | some (H,some (.exit i))=>some (.ext i E H,true)
 | _=>none
section
variable {P:Program} {G:Glo} {B0:Nat} {R:Lay} {H H':AH} {w w':World} {n:Nat} {E E':Tr GV} {e:Env} {cl:Cl} {cp:Cp} {K:KE} {ht:Ht}
theorem BM:∀ {ps:List Tmp} {aS:List GV} {vs:List Value} {E:Tr GV} {e:Env},All2 (GV.rel R) aS vs→EnvR R n E e→EnvR R n (Ae n (ps.zip aS) E) (xS (ps.zip vs) e)
 | [],_,_,_,_,_,h=>by simpa [Ae,xS] using h
 | _::_,_,_,_,_,.nil,h=>by simpa [Ae,xS] using h
 | p::ps,_,_,_,_,.cons h1 h2,h=>BM (ps:=ps) h2 (h.put (d:=some p) h1)
theorem BN:∀ (l:List (Tmp × Value)) (e:Env),l.foldl (fun t p=>t.setIfInBounds p.1 p.2) e.toArray=(xS l e).toArray
 | [],e=>rfl
 | (p,v)::l,e=>by
  rw [List.foldl_cons,show e.toArray.setIfInBounds p v=(e.set p v).toArray by simp]
  exact BN l _
structure BkAt (Bm:Nat) (R:Lay) (H:AH) (w:World) (D:Nat) (o:Obj):Prop where
 dl:w.heap[D]? = some o
 b0:Bm≤D
 no:∀ i o L,H.get i=some o→o.live=true→R i=some L→L.B≠D
def Mk (Bm:Nat) (R:Lay) (H:AH) (w:World) (mk:Bool) (ds:List Deferred):Prop:=match mk with | false=>ds=[] | true => ∃ D,ds=[{ target:=.collected D,args:=#[] }]∧BkAt Bm R H w D (.deferred (some []))
theorem BkAt.step {Bm:Nat} {R':Lay} {H1:AH} {w1:World} {D:Nat} {o:Obj} (h:BkAt Bm R H w D o) (hf:Fr B0 R H w R' H1 w1):BkAt Bm R' H1 w1 D o:=by
 have hlt:=(Array.getElem?_eq_some_iff.1 h.dl).1
 refine ⟨by rw [hf.keep D hlt h.no]; exact h.dl,h.b0,fun i o L hi hl hL e => ?_⟩
 rcases hf.fresh i o L hi hl hL with ⟨j,oj,Lj,x,y,z,hz⟩ | hz
 ·exact h.no j oj Lj x y z (hz.trans e)
 ·omega
theorem BkAt.set {Bm D:Nat} {o o':Obj} (h:BkAt Bm R H w D o):BkAt Bm R H (w.putObj D o') D o':=⟨World.putObj_heap_same (Array.getElem?_eq_some_iff.1 h.dl).1,h.b0,h.no⟩
theorem BkAt.oth {Bm D l:Nat} {o o':Obj} (h:BkAt Bm R H w D o) (hne:D≠l):BkAt Bm R H (w.putObj l o') D o:=⟨by rw [World.putObj_heap_other hne]; exact h.dl,h.b0,h.no⟩
theorem Mk.step {Bm:Nat} {R':Lay} {H1:AH} {w1:World} {mk:Bool} {ds:List Deferred} (h:Mk Bm R H w mk ds) (hf:Fr B0 R H w R' H1 w1):Mk Bm R' H1 w1 mk ds:=by
 cases mk with
 | false=>exact h
 | true=>obtain ⟨D,h1,h2⟩:=h; exact ⟨D,h1,h2.step hf⟩
theorem Sim.oth {l:Nat} (h:Sim G B0 R H w) (hl:B0≤l) (hs:w'.heap.size=w.heap.size) (hw:∀ k,k≠l→w'.heap[k]? = w.heap[k]?) (hno:∀ i o L,H.get i=some o→o.live=true→R i=some L→L.B≠l):Sim G B0 R H w' where
 obj i o hi hl:=by
  obtain ⟨L,h1,h2,h3⟩:=h.obj i o hi hl
  exact ⟨L,h1,h2,h3.same (hw _ (hno i o L hi hl h1))⟩
 inj:=h.inj
 dom:=h.dom
 big:=h.big
 size:=by rw [hs]; exact h.size
 glob g e cs hg:=by
  obtain ⟨h1,h2⟩:=h.glob g e cs hg
  exact ⟨h1,h2.same (hw g (by omega))⟩
theorem Fr.oth {R':Lay} {H1:AH} {w1 w2:World} {l:Nat} {o2:Obj} (h:Fr B0 R H w R' H1 w1) (hs:Sim G B0 R H w) (hl:w.heap.size≤l) (hw:w2=w1.putObj l o2):Fr B0 R H w R' H1 w2 where
 below:=by
  subst hw
  have hb:=h.below
  have:=hs.size
  exact ⟨hb.os,hb.tape,hb.output,by rw [World.putObj_size]; exact hb.size,fun k hk=>by rw [World.putObj_heap_other (by omega)]; exact hb.block k hk⟩
 keep k hk hno:=by
  subst hw
  rw [World.putObj_heap_other (by omega)]
  exact h.keep k hk hno
 fresh:=h.fresh
def gE (fn:FuncId) (e:Env) (ps:Array Tmp) (a bd:Code) (D:Nat) (st:LoopState) (y:Option Code):Loop := { state:=st,pending:=y,fn,tmps:=e.toArray,params:=ps,assign:=a,body:=bd,defers:=D }
def stL (y:Option Code):LoopState:=if y.isNone then .ready else .done
structure LpAt (Bm:Nat) (R:Lay) (H:AH) (w:World) (l D:Nat) (r:Loop):Prop where
 lp:BkAt Bm R H w l (.loop r)
 df:BkAt Bm R H w D (.deferred (some []))
 ne:D≠l
theorem LpAt.step {Bm:Nat} {R':Lay} {H1:AH} {w1:World} {l D:Nat} {r:Loop} (h:LpAt Bm R H w l D r) (hf:Fr B0 R H w R' H1 w1):LpAt Bm R' H1 w1 l D r:=⟨h.lp.step hf,h.df.step hf,h.ne⟩
theorem LpAt.set {Bm:Nat} {l D:Nat} {r r':Loop} (h:LpAt Bm R H w l D r):LpAt Bm R H (w.putObj l (.loop r')) l D r':=⟨h.lp.set,h.df.oth h.ne,h.ne⟩
theorem LpAt.sim {Bm:Nat} {l D:Nat} {r:Loop} {o:Obj} (h:LpAt Bm R H w l D r) (hB:B0≤Bm) (hs:Sim G B0 R H w):Sim G B0 R H (w.putObj l o) :=
 hs.oth (l:=l) (Nat.le_trans hB h.lp.b0) World.putObj_size (fun k hk=>World.putObj_heap_other hk) h.lp.no
section round
variable {Bm:Nat} {R0:Lay} {H0:AH} {w0:World} {l D:Nat} {fn:FuncId} {ps:Array Tmp} {a bd:Code}
theorem IW {g:Operand} {F nn:Nat} {aS:List GV} {vs:List Value} {j:Option Code} {K:KV} (hcl:gR P G B0 cl) (hcp:gV P G B0 cp) (hh:d9 P ht (.rangeFunc g ps a bd)=true)
  (h:Af ht cl cp P G n F E ps.toList a bd aS H=some (j,H')) (he:EnvR R n E e) (hs:Sim G B0 R H w) (hL:LpAt Bm R H w l D (gE fn e ps a bd D .ready none)) (hB:B0≤Bm) (ha:All2 (GV.rel R) aS vs)
  (hf0:Fr B0 R0 H0 w0 R H w) (hs0:Sim G B0 R0 H0 w0) (hl0:w0.heap.size≤l)
  (hK:∀ R' w',Lay.le R R'→Sim G B0 R' H' w'→Fr B0 R0 H0 w0 R' H' w'→LpAt Bm R' H' w' l D (gE fn e ps a bd D (stL j) j)→K (.bool j.isNone) w') :
  vs.length=ps.size∧RoundIn Fence.wide nn P l fn ((ps.zip vs.toArray).foldl (fun tmps (t,a)=>tmps.setIfInBounds t a) e.toArray) a bd w (fun x w' => ∃ v,x=.returned v∧K v w'):=by
 obtain ⟨hha,hhb,na,nb⟩:d9 P ht a=true∧d9 P ht bd=true∧jp a=true∧jp bd=true:=by
  unfold d9 at hh
  split at hh
  ·rename_i h1
   split at hh
   ·rename_i h2
    split at hh
    ·rename_i h3; exact ⟨h1,h2,h3,hh⟩
    ·cases hh
   ·cases hh
  ·cases hh
 unfold Af at h
 split at h
 ·rename_i hlen
  have hlen:=Nat.eq_of_beq_eq_true hlen
  refine ⟨by rw [ha.len,hlen]; simp, ?_⟩
  have etmp:(ps.zip vs.toArray).foldl (fun tmps (t,a)=>tmps.setIfInBounds t a) e.toArray=(xS (ps.toList.zip vs) e).toArray:=by
   rw [← BN, ← Array.foldl_toList]
   simp
  rw [etmp]
  split at h
  ·rename_i E1 H1 h1
   refine roundIn_of_wpIn trivial ?_
   have hA:=(vj hcl hcp F hha h1 (N:=fun e1 w1 => ∃ w₂,(Instr.beginRound l).run P w1=.ok () w₂∧bd.wpIn (Fence.wide.inRound l) nn P (roundPost P l (fun x w' => ∃ v,x=.returned v∧K v w')) ⟨e1.toArray,[]⟩ w₂) (X:=fun _ _ _=>False) (Rt:=fun _ _=>False) (BM (ps:=ps.toList) ha he) hs ?_).code
   ·refine wpIn_mono (qV (ds:=[]) a _ _ _ _ _ na hA) ?_
    intro x a1 w1 hq
    cases x with
    | normal=>obtain ⟨e1,rfl,hq⟩:=hq; exact hq
    | exit i=>obtain ⟨_,_,hq⟩:=hq; exact hq
    | ret=>obtain ⟨_,_,hq⟩:=hq; exact hq
    | _=>exact hq
   ·intro R1 e1 w1 hle1 he1 hs1 hf1
    have hL1:=hL.step hf1
    refine ⟨_,run_beginRound hL1.lp.dl rfl, ?_⟩
    have hL2:LpAt Bm R1 H1 (w1.putObj l (.loop (gE fn e ps a bd D .busy none))) l D (gE fn e ps a bd D .busy none):=hL1.set
    have hs2:Sim G B0 R1 H1 (w1.putObj l (.loop (gE fn e ps a bd D .busy none))):=hL1.sim hB hs1
    have hf2:Fr B0 R0 H0 w0 R1 H1 (w1.putObj l (.loop (gE fn e ps a bd D .busy none))):=(hf0.trans hf1).oth (l:=l) hs0 hl0 rfl
    have fin:∀ {jj:Option Code} {Hq:AH} {R3:Lay} {w3:World},jj=j→Hq=H'→Lay.le R1 R3→Sim G B0 R3 Hq w3→Fr B0 R1 H1 (w1.putObj l (.loop (gE fn e ps a bd D .busy none))) R3 Hq w3 →
      ∃ v w',(Instr.endRound l jj).run P w3=.ok v w'∧∃ v',Ending.returned v=.returned v'∧K v' w':=by
     rintro jj Hq R3 w3 rfl rfl hle3 hs3 hf3
     have hL3:=hL2.step hf3
     refine ⟨_,_,run_endRound jj hL3.lp.dl,_,rfl, ?_⟩
     exact hK R3 _ (hle1.trans hle3) (hL3.sim hB hs3) ((hf2.trans hf3).oth (l:=l) hs0 hl0 rfl) hL3.set
    have bodyK:∀ {o:Out},fJ ht cl cp P G n F bd E1 H1=some o→(∀ R3 e3 w3,Lay.le R1 R3→Sim G B0 R3 o.H w3→Fr B0 R1 H1 (w1.putObj l (.loop (gE fn e ps a bd D .busy none))) R3 o.H w3→roundPost P l (fun x w' => ∃ v,x=.returned v∧K v w') o.x ⟨e3,[]⟩ w3)→bd.wpIn (Fence.wide.inRound l) nn P (roundPost P l (fun x w' => ∃ v,x=.returned v∧K v w')) ⟨e1.toArray,[]⟩ (w1.putObj l (.loop (gE fn e ps a bd D .busy none))):=by
     intro o ho hp
     have hB:=(vj hcl hcp F hhb ho (N:=fun e3 w3=>roundPost P l (fun x w' => ∃ v,x=.returned v∧K v w') .normal ⟨e3.toArray,[]⟩ w3) (X:=fun i e3 w3=>roundPost P l (fun x w' => ∃ v,x=.returned v∧K v w') (.exit i) ⟨e3.toArray,[]⟩ w3)
      (Rt:=fun e3 w3=>roundPost P l (fun x w' => ∃ v,x=.returned v∧K v w') .ret ⟨e3.toArray,[]⟩ w3) he1 hs2 (fun R3 e3 w3 hle3 _ hs3 hf3=>by
       have:=hp R3 e3.toArray w3 hle3 hs3 hf3
       cases o <;> exact this)).code
     refine wpIn_mono (qV (ds:=[]) bd _ _ _ _ _ nb hB) ?_
     intro x a1 w1 hq
     cases x with
     | normal=>obtain ⟨e1,rfl,hq⟩:=hq; exact hq
     | exit i=>obtain ⟨e1,rfl,hq⟩:=hq; exact hq
     | ret=>obtain ⟨e1,rfl,hq⟩:=hq; exact hq
     | _=>exact hq.elim
    split at h
    ·rename_i E2 H2 h2; cases h
     exact bodyK h2 fun R3 e3 w3 hle3 hs3 hf3=>fin rfl rfl hle3 hs3 hf3
    ·rename_i i E2 H2 h2; cases h
     exact bodyK h2 fun R3 e3 w3 hle3 hs3 hf3=>fin rfl rfl hle3 hs3 hf3
    ·rename_i E2 H2 h2; cases h
     exact bodyK h2 fun R3 e3 w3 hle3 hs3 hf3=>fin rfl rfl hle3 hs3 hf3
    ·cases h
  ·cases h
 ·cases h
end round
end
end Go.Proofs.YtgpfkmdknlcemaaGreatDoor
namespace Go.Proofs.YtgpfkmdknlcemaaGreatDoor
set_option maxRecDepth 100000
open Go.RowKit
section
variable {P:Program} {Q:Exit→Act→World→Prop}
def lu (P:Program) (c:Code) (Q:Exit→Act→World→Prop):Nat→Act→World→Prop
 | 0=>fun _ _=>False
 | k+1=>fun a w=>c.wp P (Exit.then (lu P c Q k) Q) a w
open Classical in
theorem IX {c:Code} {k:Nat} {a:Act} {w:World} (h:lu P c Q k a w):(Code.loop c).wp P Q a w:=by
 have hm:∀ a w,(∃ k,lu P c Q k a w)→∃ m,lu P c Q m a w∧∀ j,j < m→¬ lu P c Q j a w:=fun a w ⟨k,hk⟩=>DY (p:=fun k=>lu P c Q k a w) k hk
 refine wp_loop (fun a w => ∃ k,lu P c Q k a w) (fun a w=>if hh:∃ k,lu P c Q k a w then Classical.choose (hm a w hh) else 0) ⟨k,h⟩ ?_
 intro a' w' hI
 have hsp:=Classical.choose_spec (hm a' w' hI)
 simp only [dif_pos hI]
 generalize Classical.choose (hm a' w' hI)=m at hsp
 cases m with
 | zero=>exact hsp.1.elim
 | succ m =>
  refine wp_mono hsp.1 fun x a2 w2 h2 => ?_
  cases x with
  | normal =>
   have h2:lu P c Q m a2 w2:=h2
   have hI2:∃ k,lu P c Q k a2 w2:=⟨m,h2⟩
   refine ⟨hI2, ?_⟩
   simp only [dif_pos hI2]
   have hs2:=Classical.choose_spec (hm a2 w2 hI2)
   by_cases hlt:Classical.choose (hm a2 w2 hI2) < m+1
   ·exact hlt
   ·exact absurd h2 (hs2.2 m (by omega))
  | _=>exact h2
def GdW (P:Program) (f:Nat) (c:Code) (Q:Exit→Act→World→Prop):Act→World→Prop:=match c with | .loop b=>lu P b Q f | c=>c.wp P Q
theorem GdW.code {f:Nat} {c:Code} {a:Act} {w:World} (h:GdW P f c Q a w):c.wp P Q a w:=by
 cases c with
 | loop b=>exact IX h
 | _=>exact h
theorem HF {n:Nat} {o:Oper} {a:Act} {w:World} {K:Act→World→Prop} (h:o.wp P a w K Q):o.wpIn Fence.wide n P a w K Q:=by
 unfold Oper.wp at h
 unfold Oper.wpIn
 refine ⟨fun _ _=>trivial, ?_⟩
 rw [show Fence.wide.round=none from rfl,Oper.semAt_none]
 generalize (execOp a.eval o).run P w=r at *
 cases r with
 | ok x w' =>
  cases x <;> simp only [Oper.upon] at h <;> simp only [Oper.uponIn]
  case value=>exact h
  case skip=>exact h
  case enter f args=>exact ⟨fun hh=>(by cases hh),callsIn_wide.2 h⟩
  case defer=>exact h
  case row row args =>
   refine ⟨fun hh=>(by cases hh), ?_⟩
   intro c cs _
   obtain ⟨v,w2,h1,h2⟩:=h c cs
   exact ⟨v,w2,h1,stepsIn_wide.2 h2⟩
 | halt x w' => cases x <;> simp only [Oper.upon] at h <;> simp only [Oper.uponIn] <;> exact h
end
section
variable {P:Program} {G:Glo} {B0:Nat} {R:Lay} {H H':AH} {w w':World} {n:Nat} {E E':Tr GV} {e:Env} {cl:Cl} {cp:Cp} {K:KE} {ht:Ht}
theorem tF {f:Nat} {c:Code} {o:Out} {Q:Exit→Act→World→Prop} {ds:List Deferred} (hcl:gR P G B0 cl) (hcp:gV P G B0 cp) (hh:d9 P ht c=true) (h:fJ ht cl cp P G n f c E H=some o) (he:EnvR R n E e) (hs:Sim G B0 R H w)
  (hK:∀ R' e' w',Lay.le R R'→EnvR R' n o.E e'→Sim G B0 R' o.H w'→Fr B0 R H w R' o.H w'→Q o.x ⟨e'.toArray,ds⟩ w'):c.wp P Q ⟨e.toArray,ds⟩ w:=by
 have:=vj hcl hcp f hh h (N:=fun e' w' => Q .normal ⟨e'.toArray,ds⟩ w') (X:=fun i e' w' => Q (.exit i) ⟨e'.toArray,ds⟩ w') (Rt:=fun e' w' => Q .ret ⟨e'.toArray,ds⟩ w') he hs (by
  intro R' e' w' a b c d
  have:=hK R' e' w' a b c d
  cases o <;> exact this)
 refine wp_mono (ur (ds:=ds) c _ _ _ _ _ this.code) ?_
 intro x a w hq
 cases x with
 | normal=>obtain ⟨e,rfl,h⟩:=hq; exact h
 | exit i=>obtain ⟨e,rfl,h⟩:=hq; exact h
 | ret=>obtain ⟨e,rfl,h⟩:=hq; exact h
 | _=>exact hq.elim
def CQ (P:Program) (G:Glo) (B0:Nat) (Rx R0:Lay) (H0:AH) (w0:World) (Bm l D:Nat) (fn:FuncId) (e:Env) (ps:Array Tmp) (a bd:Code) (rnd:Rnd):Prop :=
 ∀ {aS:List GV} {H H':AH} {j:Option Code},rnd aS H=some (j,H')→∀ {R:Lay} {w:World} {vs:List Value} {K:KV},Lay.le Rx R→Sim G B0 R H w→Fr B0 R0 H0 w0 R H w→LpAt Bm R H w l D (gE fn e ps a bd D .ready none)→All2 (GV.rel R) aS vs →
  (∀ R' w',Lay.le R R'→Sim G B0 R' H' w'→Fr B0 R0 H0 w0 R' H' w'→LpAt Bm R' H' w' l D (gE fn e ps a bd D (stL j) j)→K (.bool j.isNone) w') →
  vs.length=ps.size∧RoundIn Fence.wide 0 P l fn ((ps.zip vs.toArray).foldl (fun tmps (t,a)=>tmps.setIfInBounds t a) e.toArray) a bd w (fun x w' => ∃ v,x=.returned v∧K v w')
section iter
variable {Rx R0:Lay} {H0:AH} {w0:World} {Bm l D b:Nat} {fn:FuncId} {ex:Env} {ps:Array Tmp} {a bd:Code} {rnd:Rnd}
theorem IY {o:Oper} {args:List Operand} (h:isY b E n o=some args) (he:EnvR R n E e) (hb:R b=some ⟨l,0⟩) :
  ∃ t ats,o.op=.call { callee:=.value (.tmp t),args:=args.toArray,argTypes:=ats }∧ev e (.tmp t)=.func (.yield l) #[] #[]:=by
 unfold isY at h
 split at h
 ·rename_i c hc
  split at h
  ·rename_i t ht'
   split at h
   ·rename_i b' hy
    split at h
    ·rename_i hbb
     cases h
     have hbb:=Nat.eq_of_beq_eq_true hbb
     subst hbb
     obtain ⟨L,h1,h2⟩:∃ L,R b=some L∧ev e (.tmp t)=.func (.yield L.B) #[] #[]:=aO he hy
     rw [hb] at h1
     cases h1
     obtain ⟨cal,aS,ats⟩:=c
     simp only at ht'
     subst ht'
     exact ⟨t,ats,by simpa using hc,h2⟩
    ·cases h
   ·cases h
  ·cases h
 ·cases h
theorem wD (hcl:gR P G B0 cl) (hr:CQ P G B0 Rx R0 H0 w0 Bm l D fn ex ps a bd rnd) {ops:Array Oper} {Q:Exit→Act→World→Prop}:∀ {L:List Oper} {R:Lay} {E:Tr GV} {H:AH} {e:Env} {w:World} {y:Option Code} {E':Tr GV} {H':AH} {y':Option Code},
  iYs rnd b cl P G n ops L E H y=some (E',H',y')→EnvR R n E e→Sim G B0 R H w→Fr B0 R0 H0 w0 R H w→LpAt Bm R H w l D (gE fn ex ps a bd D (stL y) y)→R b=some ⟨l,0⟩→Lay.le Rx R →
  (∀ R' e' w',Lay.le R R'→EnvR R' n E' e'→Sim G B0 R' H' w'→Fr B0 R0 H0 w0 R' H' w'→LpAt Bm R' H' w' l D (gE fn ex ps a bd D (stL y') y')→Q .normal ⟨e'.toArray,[]⟩ w')→wpListIn Fence.wide 1 P ops Q L ⟨e.toArray,[]⟩ w
 | [],R,E,H,e,w,y,E',H',y',h,he,hs,hf,hL,hb,hx,hK=>by
  cases h
  exact hK R e w (Lay.le.refl R) he hs hf hL
 | o::L,R,E,H,e,w,y,E',H',y',h,he,hs,hf,hL,hb,hx,hK=>by
  unfold iYs at h
  refine wpListIn_step fun KK hKK => ?_
  have wnt:∀ {q:Bool},(match o.guard with | none=>some true | some (j,want)=>gB ops.toList E n j want)=some q→Region.wanted o (yielded ops e.toArray)=q:=by
   intro q hq
   cases hg:o.guard with
   | none=>rw [hg] at hq; cases hq; simp [Region.wanted,hg]
   | some jw =>
    obtain ⟨j,want⟩:=jw
    rw [hg] at hq
    simp only at hq
    have hw:=ju ops.toList e o j want hg
    rw [show ops.toList.toArray=ops from rfl] at hw
    rw [hw]
    cases q with
    | true=>rw [(ki hq he).1 rfl]; simp
    | false =>
     cases hd:(asB (fX ops.toList e j) == some want) with
     | false=>rfl
     | true=>have:=(ki hq he).2 (by simpa using hd); cases this
  dsimp only
  split at h
  ·cases h
  ·rename_i hq
   rw [wnt hq]
   refine ⟨fun _ _=>trivial, ?_⟩
   rw [jL]
   exact hKK _ _ (wD hcl hr (L:=L) h (he.put rfl) hs hf hL hb hx hK)
  ·rename_i hq
   rw [wnt hq,if_pos rfl]
   split at h
   ·rename_i args hy
    split at h
    ·rename_i aS has
     split at h
     ·rename_i j H1 h1
      obtain ⟨t,ats,hop,hev⟩:=IY hy he hb
      have hR:=hr h1 (vs:=args.map (ev e)) (K:=fun v w' => KK ⟨(pt e o.dst v).toArray,[]⟩ w') hx hs hf hL (gJ he has) (fun R' w' hle hs' hf' hL' => hKK _ _ (wD hcl hr (L:=L) h ((he.mono hle).put Ic) hs' hf' hL' (hle _ _ hb) (hx.trans hle) fun R2 e2 w2 hle2 he2 hs2 hf2 hL2=>hK R2 e2 w2 (hle.trans hle2) he2 hs2 hf2 hL2))
      have hrun:(execOp (Act.eval ⟨e.toArray,[]⟩) o).run P w=.ok (.round l fn ((ps.zip (args.map (ev e)).toArray).foldl (fun tmps (t,a)=>tmps.setIfInBounds t a) ex.toArray) a bd) w:=by
       have he':Act.eval ⟨e.toArray,[]⟩=ev e:=funext (gD e [])
       obtain ⟨dst,op,ty,pos,after,guard⟩:=o
       simp only at hop
       subst hop
       rw [he']
       simp only [execOp,resolve,Deferred.ofValue,invoke,Sem.run_bind,Sem.run_pure,Result.andThen_ok,hev]
       have e1 : #[]++Array.map (ev e) args.toArray=(args.map (ev e)).toArray:=by simp
       rw [e1]
       have:=run_yield (P:=P) (w:=w) (l:=l) (args:=(args.map (ev e)).toArray) hL.lp.dl (by have:=hR.1; simpa [gE] using this)
       exact this
      unfold Oper.wpIn
      refine ⟨fun _ _=>trivial, ?_⟩
      rw [show Fence.wide.round=none from rfl,Oper.semAt_none,hrun,Oper.uponIn_round]
      refine ⟨fun hh=>(by cases hh),hR.2.mono ?_⟩
      rintro x w2 ⟨v,rfl,hv⟩
      show KK (Act.put ⟨e.toArray,[]⟩ o.dst v) w2
      rw [jL]
      exact hv
     ·cases h
    ·cases h
   ·split at h
    ·split at h
     ·rename_i g H1 h1
      have:=pH hcl h1 he hs (fun v w' => KK ⟨(pt e o.dst v).toArray,[]⟩ w') (fun R' v w' hle hv hs' hf' => hKK _ _ (wD hcl hr (L:=L) h ((he.mono hle).put hv) hs' (hf.trans hf') (hL.step hf') (hle _ _ hb) (hx.trans hle) fun R2 e2 w2 hle2 he2 hs2 hf2 hL2=>hK R2 e2 w2 (hle.trans hle2) he2 hs2 hf2 hL2))
      exact HF (jt this fun v w' hv=>hv)
     ·cases h
    ·cases h
theorem JI (hcl:gR P G B0 cl) (hcp:gV P G B0 cp) (hr:CQ P G B0 Rx R0 H0 w0 Bm l D fn ex ps a bd rnd):∀ (f:Nat) {c:Code} {E:Tr GV} {H:AH} {y:Option Code} {o:Out} {y':Option Code},d9 P ht c=true→iY rnd b ht cl cp P G n f c E H y=some (o,y') →
  ∀ {R:Lay} {e:Env} {w:World} {Q:Exit→Act→World→Prop},EnvR R n E e→Sim G B0 R H w→Fr B0 R0 H0 w0 R H w→LpAt Bm R H w l D (gE fn ex ps a bd D (stL y) y)→R b=some ⟨l,0⟩→Lay.le Rx R →
  (∀ R' e' w',Lay.le R R'→EnvR R' n o.E e'→Sim G B0 R' o.H w'→Fr B0 R0 H0 w0 R' o.H w'→LpAt Bm R' o.H w' l D (gE fn ex ps a bd D (stL y') y')→Q o.x ⟨e'.toArray,[]⟩ w')→GdW P f c Q ⟨e.toArray,[]⟩ w:=by
 intro f
 induction f with
 | zero=>intro c E H y o y' _ h; cases h
 | succ f ih =>
  intro c E H y o y' hh h R e w Q he hs hf hL hb hx hK
  have leaf:∀ {c:Code},d9 P ht c=true→(match fJ ht cl cp P G n f c E H with | some o=>some (o,y) | none=>none)=some (o,y')→c.wp P Q ⟨e.toArray,[]⟩ w:=by
   intro c hh h
   split at h
   ·rename_i o' ho
    cases h
    exact tF hcl hcp hh ho he hs fun R' e' w' a b c d=>hK R' e' w' a b c (hf.trans d) (hL.step d)
   ·cases h
  unfold iY at h
  cases c with
  | seq a' b' =>
   have hh:=qI hh
   simp only at h
   refine wp_seq ?_
   split at h
   ·rename_i E1 H1 y1 h1
    refine (ih hh.1 h1 he hs hf hL hb hx fun R1 e1 w1 hle he1 hs1 hf1 hL1 => ?_).code
    exact (ih hh.2 h he1 hs1 hf1 hL1 (hle _ _ hb) (hx.trans hle) fun R2 e2 w2 hle2 he2 hs2 hf2 hL2=>hK R2 e2 w2 (hle.trans hle2) he2 hs2 hf2 hL2).code
   ·rename_i hno
    refine (ih hh.1 h he hs hf hL hb hx fun R1 e1 w1 hle he1 hs1 hf1 hL1 => ?_).code
    have:=hK R1 e1 w1 hle he1 hs1 hf1 hL1
    cases o with
    | nrm E1 H1=>exact absurd h (hno E1 H1 y')
    | ext i E1 H1=>exact this
    | ret E1 H1=>exact this
  | cond c x z =>
   have hh:=qI hh
   simp only at h
   split at h
   ·rename_i hc
    exact wp_cond (t:=true) (by rw [gD]; exact mi hc he) (ih hh.1 h he hs hf hL hb hx hK).code
   ·rename_i hc
    exact wp_cond (t:=false) (by rw [gD]; exact mi hc he) (ih hh.2 h he hs hf hL hb hx hK).code
   ·cases h
  | block id c =>
   have hh:d9 P ht c=true:=hh
   simp only at h
   refine wp_block ?_
   split at h
   ·rename_i i E1 H1 y1 h1
    split at h
    ·rename_i hbb
     cases h
     refine (ih hh h1 he hs hf hL hb hx fun R1 e1 w1 hle he1 hs1 hf1 hL1 => ?_).code
     have hi:=Nat.eq_of_beq_eq_true hbb
     subst hi
     simp only [Out.x,Exit.inBlock,if_true]
     exact hK R1 e1 w1 hle he1 hs1 hf1 hL1
    ·rename_i hbb
     cases h
     refine (ih hh h1 he hs hf hL hb hx fun R1 e1 w1 hle he1 hs1 hf1 hL1 => ?_).code
     have hi : ¬ i=id:=fun hh=>by subst hh; simp at hbb
     simp only [Out.x,Exit.inBlock,if_neg hi]
     exact hK R1 e1 w1 hle he1 hs1 hf1 hL1
   ·rename_i hno
    refine (ih hh h he hs hf hL hb hx fun R1 e1 w1 hle he1 hs1 hf1 hL1 => ?_).code
    have:=hK R1 e1 w1 hle he1 hs1 hf1 hL1
    cases o with
    | nrm E1 H1=>exact this
    | ext i E1 H1=>exact absurd h (hno i E1 H1 y')
    | ret E1 H1=>exact this
  | loop c =>
   have hh:d9 P ht c=true:=hh
   simp only at h
   show c.wp P (Exit.then (lu P c Q f) Q) ⟨e.toArray,[]⟩ w
   split at h
   ·rename_i E1 H1 y1 h1
    refine (ih hh h1 he hs hf hL hb hx fun R1 e1 w1 hle he1 hs1 hf1 hL1 => ?_).code
    have:=ih (c:=.loop c) (Q:=Q) hh h he1 hs1 hf1 hL1 (hle _ _ hb) (hx.trans hle) fun R2 e2 w2 hle2 he2 hs2 hf2 hL2=>hK R2 e2 w2 (hle.trans hle2) he2 hs2 hf2 hL2
    exact this
   ·rename_i hno
    refine (ih hh h he hs hf hL hb hx fun R1 e1 w1 hle he1 hs1 hf1 hL1 => ?_).code
    have:=hK R1 e1 w1 hle he1 hs1 hf1 hL1
    cases o with
    | nrm E1 H1=>exact absurd h (hno E1 H1 y')
    | ext i E1 H1=>exact this
    | ret E1 H1=>exact this
  | region id ops draw =>
   cases draw with
   | true=>exact leaf hh h
   | false =>
    simp only at h
    split at h
    ·split at h
     ·rename_i E1 H1 y1 h1
      cases h
      exact (wpIn_wide (n:=1)).1 (wpIn_region_list (wD hcl hr h1 he hs hf hL hb hx hK))
     ·cases h
    ·exact leaf hh h
  | _=>exact leaf hh h
end iter
end
end Go.Proofs.YtgpfkmdknlcemaaGreatDoor
namespace Go.Proofs.YtgpfkmdknlcemaaGreatDoor
set_option maxRecDepth 100000
open Go.RowKit
def Ag:Value→Value→Bool
 | .int k (.ofNat a),.int l (.ofNat b)=>match Nat.beq a b with | true=>decide (k=l) | false=>false
 | a,b=>veq a b
theorem xT {a b:Value} (h:Ag a b=true):a=b:=by
 unfold Ag at h
 split at h
 ·split at h
  ·rename_i hb; rw [Nat.eq_of_beq_eq_true hb,of_decide_eq_true h]
  ·cases h
 ·exact Ej h
def CS:CV→CV→Bool
 | .k a,.k b=>Ag a b
 | .yd a,.yd b=>Nat.beq a b
 | a,b=>ceq a b
theorem BO {a b:CV} (h:CS a b=true):a=b:=by
 unfold CS at h
 split at h
 ·rw [xT h]
 ·rw [Nat.eq_of_beq_eq_true h]
 ·exact AD h
def wE:List CV→List CV→Bool
 | [],[]=>true
 | a::l,b::m=>match CS a b with | true=>wE l m | false=>false
 | _,_=>false
theorem vl:∀ {l m:List CV},wE l m=true→l=m
 | [],[],_=>rfl
 | a::l,b::m,h=>by
  unfold wE at h
  split at h
  ·rename_i hab; rw [BO hab,vl h]
  ·cases h
 | [],_::_,h=>by cases h
 | _::_,[],h=>by cases h
def Ah:AV→AV→Bool
 | .one a,.one b=>CS a b
 | .agg a,.agg b=>wE a b
 | _,_=>false
theorem xU {a b:AV} (h:Ah a b=true):a=b:=by
 unfold Ah at h
 split at h
 ·rw [BO h]
 ·rw [vl h]
 ·cases h
def yW:List AV→List AV→Bool
 | [],[]=>true
 | a::l,b::m=>match Ah a b with | true=>yW l m | false=>false
 | _,_=>false
theorem Ai:∀ {l m:List AV},yW l m=true→l=m
 | [],[],_=>rfl
 | a::l,b::m,h=>by
  unfold yW at h
  split at h
  ·rename_i hab; rw [xU hab,Ai h]
  ·cases h
 | [],_::_,h=>by cases h
 | _::_,[],h=>by cases h
def FW:GV→GV→Bool
 | .val a,.val b=>Ah a b
 | .tup a,.tup b=>yW a b
 | _,_=>false
theorem HG {a b:GV} (h:FW a b=true):a=b:=by
 unfold FW at h
 split at h
 ·rw [xU h]
 ·rw [Ai h]
 ·cases h
def CT:List Value→List Value→Bool
 | [],[]=>true
 | a::l,b::m=>match Ag a b with | true=>CT l m | false=>false
 | _,_=>false
theorem BP:∀ {l m:List Value},CT l m=true→l=m
 | [],[],_=>rfl
 | a::l,b::m,h=>by
  unfold CT at h
  split at h
  ·rename_i hab; rw [xT hab,BP h]
  ·cases h
 | [],_::_,h=>by cases h
 | _::_,[],h=>by cases h
def FX:Value→Value→Bool
 | .agg a,.agg b=>CT a.toList b.toList
 | a,b=>Ag a b
theorem HH {a b:Value} (h:FX a b=true):a=b:=by
 unfold FX at h
 split at h
 ·rename_i x y
  have:=BP h
  rw [show x=y from by rw [← Array.toArray_toList (xs:=x),this]]
 ·exact xT h
def yX:List kj→List kj→Bool
 | [],[]=>true
 | ⟨k,v,b⟩::l,⟨k',v',b'⟩::m=>match FX k k',Ah v v',Nat.beq b b' with | true,true,true=>yX l m | _,_,_=>false
 | _,_=>false
theorem Aj:∀ {l m:List kj},yX l m=true→l=m
 | [],[],_=>rfl
 | ⟨k,v,b⟩::l,⟨k',v',b'⟩::m,h=>by
  unfold yX at h
  split at h
  ·rename_i h1 h2 h3; rw [HH h1,xU h2,Nat.eq_of_beq_eq_true h3,Aj h]
  ·cases h
 | [],_::_,h=>by cases h
 | _::_,[],h=>by cases h
def CU:List Nat→List Nat→Bool
 | [],[]=>true
 | a::l,b::m=>match Nat.beq a b with | true=>CU l m | false=>false
 | _,_=>false
theorem BQ:∀ {l m:List Nat},CU l m=true→l=m
 | [],[],_=>rfl
 | a::l,b::m,h=>by
  unfold CU at h
  split at h
  ·rename_i hab; rw [Nat.eq_of_beq_eq_true hab,BQ h]
  ·cases h
 | [],_::_,h=>by cases h
 | _::_,[],h=>by cases h
def IZ:Bool→Bool→Bool
 | true,true=>true
 | false,false=>true
 | _,_=>false
theorem HI {a b:Bool} (h:IZ a b=true):a=b:=by cases a <;> cases b <;> first | rfl | cases h
def FY:AO→AO→Bool
 | .cells e z g cs,.cells e' z' g' cs' => match Nat.beq e e',Nat.beq z z',IZ g g' with | true,true,true=>wE cs cs' | _,_,_=>false
 | .map es c,.map es' c' => match Nat.beq c c' with | true=>yX es es' | false=>false
 | .mit m a l b,.mit m' a' l' b' => match onE m m',Nat.beq a a',Nat.beq b b' with | true,true,true=>CU l l' | _,_,_=>false
 | .dead,.dead=>true
 | _,_=>false
theorem HJ {a b:AO} (h:FY a b=true):a=b:=by
 unfold FY at h
 split at h
 ·split at h
  ·rename_i h1 h2 h3; rw [Nat.eq_of_beq_eq_true h1,Nat.eq_of_beq_eq_true h2,HI h3,vl h]
  ·cases h
 ·split at h
  ·rename_i h1; rw [Nat.eq_of_beq_eq_true h1,Aj h]
  ·cases h
 ·split at h
  ·rename_i h1 h2 h3; rw [td h1,Nat.eq_of_beq_eq_true h2,Nat.eq_of_beq_eq_true h3,BQ h]
  ·cases h
 ·rfl
 ·cases h
end Go.Proofs.YtgpfkmdknlcemaaGreatDoor
namespace Go.Proofs.YtgpfkmdknlcemaaGreatDoor
set_option maxRecDepth 100000
open Go.RowKit Go.ChangeMaps
def qL {α β:Type} (g:α→Option (List β)):List α→Option (List β)
 | []=>some []
 | a::l=>match g a with
  | some x=>match qL g l with | some y=>some (x++y) | none=>none
  | none=>none
theorem mj {α β:Type} {g:α→Option (List β)}:∀ {l:List α} {r:List β},qL g l=some r→∀ a ∈ l, ∃ x,g a=some x∧∀ b ∈ x,b ∈ r
 | [],_,_,a,ha=>by cases ha
 | a0::l,r,h,a,ha=>by
  unfold qL at h
  split at h
  ·rename_i x hx
   split at h
   ·rename_i y hy
    cases h
    cases ha with
    | head=>exact ⟨x,hx,fun b hb=>List.mem_append_left _ hb⟩
    | tail _ ha =>
     obtain ⟨x',h1,h2⟩:=mj hy a ha
     exact ⟨x',h1,fun b hb=>List.mem_append_right _ (h2 b hb)⟩
   ·cases h
  ·cases h
def FZ (H:AH) (it:GV):Option (List (GV × AH)) :=
 match it with
 | .val (.one (.it b))=>match H.get b with
  | some (.mit (some m) since seen c0)=>match H.get m with
   | some (.map es clock)=>match es.all (fun e=>Nat.blt e.born since),Nat.ble since c0 with
    | true,true=>match es.filter (fun e => !seen.contains e.born) with
     | []=>some [(overG,H)]
     | l=>qL (fun e=>match ofV e.key with
      | .val k=>some [(.tup [.one (.k (.bool true)),k,e.val],H.put b (.mit (some m) since (seen++[e.born]) clock))]
      | _=>none) l
    | _,_=>none
   | _=>none
  | _=>none
 | _=>none
def iNs (cl:Cl) (P:Program) (G:Glo) (n:Nat):List Oper→Tr GV→AH→Option (List (Tr GV × AH))
 | [],E,H=>some [(E,H)]
 | o::r,E,H=>match o.guard with
  | some _=>none
  | none=>match ndO o with
   | false=>none
   | true=>match (match o.op with | .next it false=>some it | _=>none) with
    | some it=>match evG E n it with
     | some x=>match FZ H x with
      | some qs=>qL (fun q=>iNs cl P G n r (ptE E n o.dst q.1) q.2) qs
      | none=>none
     | none=>none
    | none=>match iOp cl P G H E n o with
     | some (g,H1)=>iNs cl P G n r (ptE E n o.dst g) H1
     | none=>none
def K1 (ops:List Oper):Bool:=ops.any fun o=>match o.op with | .next _ false=>true | _=>false
def unb (id:Nat):Out→Out
 | .ext i E H=>match Nat.beq i id with | true => .nrm E H | false => .ext i E H
 | o=>o
def iN (ht:Ht) (cl:Cl) (cp:Cp) (P:Program) (G:Glo) (n:Nat):Nat→Code→Tr GV→AH→Option (List Out)
 | 0,_,_,_=>none
 | f+1,c,E,H =>
  match c with
  | .seq a b=>match iN ht cl cp P G n f a E H with
   | some os=>qL (fun o=>match o with | .nrm E1 H1=>iN ht cl cp P G n f b E1 H1 | o=>some [o]) os
   | none=>none
  | .cond c x z=>match isT E n c with
   | some true=>iN ht cl cp P G n f x E H
   | some false=>iN ht cl cp P G n f z E H
   | none=>none
  | .block id c=>match iN ht cl cp P G n f c E H with
   | some os=>some (os.map (unb id))
   | none=>none
  | .loop c=>match iN ht cl cp P G n f c E H with
   | some os=>qL (fun o=>match o with | .nrm E1 H1=>iN ht cl cp P G n f (.loop c) E1 H1 | o=>some [o]) os
   | none=>none
  | .region id ops false=>match K1 ops.toList with
   | true=>match iNs cl P G n ops.toList E H with | some l=>some (l.map fun q => .nrm q.1 q.2) | none=>none
   | false=>match fJ ht cl cp P G n f (.region id ops false) E H with | some o=>some [o] | none=>none
  | c=>match fJ ht cl cp P G n f c E H with | some o=>some [o] | none=>none
/-! ## What all ways have in common. -/
def ml:Tr GV→Tr GV→Option (Tr GV)
 | .e,.e=>some .e
 | .l a,.l b=>match FW a b with | true=>some (.l a) | false=>some (.l .bad)
 | .n x y,.n p q=>match ml x p with
  | some u=>match ml y q with | some v=>some (.n u v) | none=>none
  | none=>none
 | _,_=>none
def mn:Tr AO→Tr AO→Tr AO
 | .l a,.l b=>match FY a b with | true => .l a | false => .e
 | .n x y,.n p q => .n (mn x p) (mn y q)
 | _,_ => .e
def wF:List Out→Option (Tr GV × AH)
 | []=>none
 | [.nrm E H]=>some (E,H)
 | .nrm E H::l=>match wF l with
  | some (E1,H1)=>match ml E E1,Nat.beq H.n H1.n with
   | some E2,true=>some (E2,⟨mn H.t H1.t,H.n⟩)
   | _,_=>none
  | none=>none
 | _=>none
theorem CW:∀ (d:Nat) {a b c:Tr GV} {i:Nat},ml a b=some c→(Tr.get d c i=Tr.get d a i∨Tr.get d c i=some .bad)∧(Tr.get d c i=Tr.get d b i∨Tr.get d c i=some .bad):=by
 intro d
 induction d with
 | zero =>
  intro a b c i h
  cases a with
  | e=>cases b <;> cases h; exact ⟨.inl rfl,.inl rfl⟩
  | l x =>
   cases b with
   | l y =>
    unfold ml at h
    split at h
    ·rename_i hb; cases h; have:=HG hb; subst this; exact ⟨.inl rfl,.inl rfl⟩
    ·cases h; exact ⟨.inr rfl,.inr rfl⟩
   | _=>cases h
  | n x y =>
   cases b with
   | n p q =>
    unfold ml at h
    split at h
    ·split at h
     ·cases h; exact ⟨.inl rfl,.inl rfl⟩
     ·cases h
    ·cases h
   | _=>cases h
 | succ d ih =>
  intro a b c i h
  cases a with
  | e=>cases b <;> cases h; exact ⟨.inl rfl,.inl rfl⟩
  | l x =>
   cases b with
   | l y =>
    unfold ml at h
    split at h
    ·cases h; exact ⟨.inl rfl,.inl rfl⟩
    ·cases h; exact ⟨.inl rfl,.inl rfl⟩
   | _=>cases h
  | n x y =>
   cases b with
   | n p q =>
    unfold ml at h
    split at h
    ·rename_i u hu
     split at h
     ·rename_i v hv
      cases h
      unfold Tr.get
      split
      ·exact ih hu
      ·exact ih hv
     ·cases h
    ·cases h
   | _=>cases h
theorem CX:∀ (d:Nat) {a b:Tr AO} {i:Nat} {o:AO},Tr.get d (mn a b) i=some o→Tr.get d a i=some o∧Tr.get d b i=some o:=by
 intro d
 induction d with
 | zero =>
  intro a b i o h
  cases a <;> cases b <;> try (cases h; done)
  ·rename_i x y
   unfold mn at h
   split at h
   ·rename_i hb; have:=HJ hb; subst this; exact ⟨h,h⟩
   ·cases h
 | succ d ih =>
  intro a b i o h
  cases a <;> cases b <;> try (cases h; done)
  ·rename_i x y
   unfold mn at h
   split at h <;> cases h
  ·rename_i x y p q
   unfold mn at h
   unfold Tr.get at h ⊢
   split at h
   ·exact ih h
   ·exact ih h
section
variable {P:Program} {G:Glo} {B0:Nat} {R:Lay} {H H' H1:AH} {w w':World} {n:Nat} {E E' E1:Tr GV} {e:Env} {cl:Cl} {cp:Cp} {K:KE} {ht:Ht}
theorem Sim.fewer (hs:Sim G B0 R H w) (hn:H1.n=H.n) (h:∀ i o,H1.get i=some o→H.get i=some o):Sim G B0 R H1 w where
 obj i o hi hl:=hs.obj i o (h _ _ hi) hl
 inj i j oi oj Li Lj hi hj:=hs.inj i j oi oj Li Lj (h _ _ hi) (h _ _ hj)
 dom i L hi:=by rw [hn]; exact hs.dom i L hi
 big:=by rw [hn]; exact hs.big
 size:=hs.size
 glob:=hs.glob
theorem Fr.fewer {R0:Lay} {H0:AH} {w0:World} (hf:Fr B0 R0 H0 w0 R H w) (h:∀ i o,H1.get i=some o→H.get i=some o):Fr B0 R0 H0 w0 R H1 w where
 below:=hf.below
 keep:=hf.keep
 fresh i o L hi hl hL:=hf.fresh i o L (h _ _ hi) hl hL
def Less1 (E:Tr GV) (H:AH) (E1:Tr GV) (H1:AH):Prop:=(∀ i,gK E1 i=gK E i∨gK E1 i=.bad)∧H1.n=H.n∧∀ i o,H1.get i=some o→H.get i=some o
theorem Less1.env (h:Less1 E H E1 H1) (he:EnvR R n E e):EnvR R n E1 e :=
 ⟨he.len,he.big,fun i hi=>by
  rcases h.1 i with h1 | h1
  ·rw [h1]; exact he.rel i hi
  ·rw [h1]; trivial⟩
theorem Ak:∀ {l:List Out} {E:Tr GV} {H:AH},wF l=some (E,H)→∀ o ∈ l,o.x=.normal∧Less1 o.E o.H E H
 | [],_,_,h,_,_=>by cases h
 | [.nrm E0 H0],_,_,h,o,ho=>by
  cases h
  cases ho with
  | head=>exact ⟨rfl,fun i => .inl rfl,rfl,fun i o h=>h⟩
  | tail _ ho=>cases ho
 | .nrm E0 H0::a::l,E,H,h,o,ho=>by
  unfold wF at h
  split at h
  ·rename_i E1 H1 hj
   split at h
   ·rename_i E2 hE hn
    cases h
    have hn:=Nat.eq_of_beq_eq_true hn
    have hE':=fun i=>CW 8 (i:=i) hE
    have hgE:∀ i,(gK E i=gK E0 i∨gK E i=.bad)∧(gK E i=gK E1 i∨gK E i=.bad):=by
     intro i
     unfold gK
     rw [Tr.get8_eq]
     obtain ⟨h1,h2⟩:=hE' i
     refine ⟨?_, ?_⟩
     ·rcases h1 with h1 | h1
      ·rw [h1]; exact .inl rfl
      ·rw [h1]; exact .inr rfl
     ·rcases h2 with h2 | h2
      ·rw [h2]; exact .inl rfl
      ·rw [h2]; exact .inr rfl
    have hgT:∀ i o,(AH.mk (mn H0.t H1.t) H0.n).get i=some o→H0.get i=some o∧H1.get i=some o:=by
     intro i o hi
     unfold AH.get at *
     rw [← hn]
     simp only at hi
     split at hi
     ·rw [Tr.get13_eq] at hi ⊢; exact CX 13 hi
     ·cases hi
    cases ho with
    | head=>exact ⟨rfl,fun i=>(hgE i).1,rfl,fun i o h=>(hgT i o h).1⟩
    | tail _ ho =>
     obtain ⟨k1,k2,k3,k4⟩:=Ak hj o ho
     refine ⟨k1,fun i => ?_,by rw [← k3]; exact hn,fun i o h=>k4 i o (hgT i o h).2⟩
     rcases (hgE i).2 with h2 | h2
     ·rw [h2]; exact k2 i
     ·exact .inr h2
   ·cases h
  ·cases h
 | .ext .. :: l,_,_,h,_,_=>by cases l <;> cases h
 | .ret .. :: l,_,_,h,_,_=>by cases l <;> cases h
theorem HK {it:GV} {iv:Value} {ty:TypeId} {outs:List (GV × AH)} {K:KV} (h:FZ H it=some outs) (hs:Sim G B0 R H w) (hi:it.rel R iv)
  (hK:∀ q ∈ outs, ∀ R' v w',Lay.le R R'→q.1.rel R' v→Sim G B0 R' q.2 w'→Fr B0 R H w R' q.2 w'→K v w'):nxt P iv false ty K w:=by
 unfold FZ at h
 unfold nxt
 split at h
 ·rename_i b
  obtain ⟨L,hL,rfl⟩:=hi
  split at h
  ·rename_i m since seen c0 hg
   obtain ⟨⟨M,hM,hget⟩,hB⟩:=hs.obj' hg rfl hL
   split at h
   ·rename_i es clock hgm
    obtain ⟨⟨vs,hvs,hgetm⟩,hBm⟩:=hs.obj' hgm rfl hM
    split at h
    ·rename_i hall hsc
     have hfil:All2 (EntR R) (es.filter (fun e => !seen.contains e.born)) (vs.filter (fun e => !seen.toArray.contains e.born)):=hvs.filter (fun a b hab=>by rw [hab.2.2]; simp)
     have hold:∀ x ∈ vs.toArray.toList,x.born < since:=by
      have:vs.all (fun e=>Nat.blt e.born since)=true:=by rw [← hvs.allEq (p:=fun e=>Nat.blt e.born since) (fun a b hab=>by rw [hab.2.2])]; exact hall
      intro x hx
      exact ba.1 (List.all_eq_true.1 this x (by simpa using hx))
     rcases run_next_at (P:=P) w ty L.B M.B since c0 seen.toArray vs.toArray clock hget hgetm hold (Nat.le_of_ble_eq_true hsc) with ⟨hz,hrun⟩ | ⟨e1,he1,w1,hw1,hrun⟩
     ·have hemp:vs.filter (fun e => !seen.toArray.contains e.born)=[]:=by
       have:leftOf vs.toArray seen.toArray=#[]:=Array.eq_empty_of_size_eq_zero hz
       unfold leftOf at this
       rw [List.filter_toArray] at this
       simpa using this
      rw [hemp] at hfil
      have hl:es.filter (fun e => !seen.contains e.born)=[]:=by cases hq:es.filter (fun e => !seen.contains e.born) with
       | nil=>rfl
       | cons a l=>rw [hq] at hfil; cases hfil
      rw [hl] at h
      cases h
      exact bF hrun (hK (overG,H) (.head _) R _ w (Lay.le.refl R) sY hs (Fr.refl ..))
     ·have hm1:e1 ∈ vs.filter (fun e => !seen.toArray.contains e.born):=by
       unfold leftOf at he1
       rw [List.filter_toArray] at he1
       simpa using he1
      obtain ⟨i,hi,rfl⟩:=List.getElem_of_mem hm1
      have hli:i < (es.filter (fun e => !seen.contains e.born)).length:=by rw [← hfil.len]; exact hi
      obtain ⟨b1,hb1,hab⟩:=hfil.get (List.getElem?_eq_getElem hli)
      rw [List.getElem?_eq_getElem hi] at hb1
      cases hb1
      generalize hea:(es.filter (fun e => !seen.contains e.born))[i]=ea at hab
      have hmem:ea ∈ es.filter (fun e => !seen.contains e.born):=by rw [← hea]; exact List.getElem_mem hli
      have hne:es.filter (fun e => !seen.contains e.born)≠[]:=fun hh=>by rw [hh] at hmem; cases hmem
      split at h
      ·rename_i hl; exact absurd hl hne
      ·rename_i hl
       obtain ⟨x,hx,hxm⟩:=mj h ea hmem
       split at hx
       ·rename_i k hk
        cases hx
        have hq:=hxm _ (.head _)
        have hkr:GV.rel R (.val k) ea.key:=by have:=kP (R:=R) (v:=ea.key); rw [hk] at this; exact this
        have hsz:(setBlock w1 L.B (.mapIter (some M.B) since (seen.toArray.push ea.born) clock)).heap.size=w.heap.size:=by
         rcases hw1 with rfl | rfl <;> simp [setBlock]
        have hoth:Oth L.B w (setBlock w1 L.B (.mapIter (some M.B) since (seen.toArray.push ea.born) clock)):=by
         rcases hw1 with rfl | rfl <;> exact ⟨rfl,rfl,rfl,by simp [setBlock],fun j hj=>by simp only [setBlock]; rw [Array.getElem?_setIfInBounds_ne (fun h=>hj h.symm)]; first | done | rfl⟩
        have hnew:(setBlock w1 L.B (.mapIter (some M.B) since (seen.toArray.push ea.born) clock)).heap[L.B]? = some (.mapIter (some M.B) since (seen.toArray.push ea.born) clock):=by
         have h1:w1.heap[L.B]? = some (.mapIter (some M.B) since seen.toArray c0):=by rcases hw1 with rfl | rfl <;> exact hget
         simp only [setBlock]
         rw [Array.getElem?_setIfInBounds_self_of_lt (Array.getElem?_eq_some_iff.1 h1).1]
        rw [hab.1,hab.2.2] at hrun
        refine bF hrun (hK _ hq R _ _ (Lay.le.refl R) ⟨_,.cons rfl (.cons hkr (.cons hab.2.1 .nil)),rfl⟩ (hs.put hg rfl hL hoth.size hoth.other ⟨M,hM, ?_⟩) (Fr.put hs hg rfl hL hoth))
        rw [hnew]; simp
       ·cases hx
    ·cases h
   ·cases h
  ·cases h
 ·cases h
theorem Al (hcl:gR P G B0 cl) {ops:Array Oper} {Q:Exit→Act→World→Prop} {ds:List Deferred}:∀ {L:List Oper} {R:Lay} {E:Tr GV} {H:AH} {e:Env} {w:World} {outs:List (Tr GV × AH)},
  iNs cl P G n L E H=some outs→EnvR R n E e→Sim G B0 R H w →
  (∀ q ∈ outs, ∀ R' e' w',Lay.le R R'→EnvR R' n q.1 e'→Sim G B0 R' q.2 w'→Fr B0 R H w R' q.2 w'→Q .normal ⟨e'.toArray,ds⟩ w')→wpList P ops Q L ⟨e.toArray,ds⟩ w
 | [],R,E,H,e,w,outs,h,he,hs,hK=>by
  cases h
  exact hK (E,H) (.head _) R e w (Lay.le.refl R) he hs (Fr.refl ..)
 | o::L,R,E,H,e,w,outs,h,he,hs,hK=>by
  unfold iNs at h
  split at h
  ·cases h
  ·rename_i hg
   split at h
   ·cases h
   ·refine wpList_step fun KK hKK => ?_
    rw [if_pos (by simp [Region.wanted,hg])]
    split at h
    ·rename_i it hit
     split at h
     ·rename_i x hx
      split at h
      ·rename_i qs hq
       refine jt (K:=fun v w' => KK ⟨(pt e o.dst v).toArray,ds⟩ w') ?_ (fun v w' hv=>hv)
       have hop:o.op=.next it false:=by
        split at hit
        ·rename_i it' ho; cases hit; exact ho
        ·cases hit
       unfold cOp
       rw [hop]
       refine HK hq hs (aO he hx) fun q hqm R' v w' hle hv hs' hf' => ?_
       obtain ⟨x',hx',hsub⟩:=mj h q hqm
       exact hKK _ _ (Al hcl hx' ((he.mono hle).put hv) hs' fun q2 hq2 R2 e2 w2 hle2 he2 hs2 hf2=>hK q2 (hsub q2 hq2) R2 e2 w2 (hle.trans hle2) he2 hs2 (hf'.trans hf2))
      ·cases h
     ·cases h
    ·split at h
     ·rename_i g H1 h1
      have:=pH hcl h1 he hs (fun v w' => KK ⟨(pt e o.dst v).toArray,ds⟩ w') (fun R' v w' hle hv hs' hf' => hKK _ _ (Al hcl h ((he.mono hle).put hv) hs' fun q2 hq2 R2 e2 w2 hle2 he2 hs2 hf2=>hK q2 hq2 R2 e2 w2 (hle.trans hle2) he2 hs2 (hf'.trans hf2)))
      exact jt this fun v w' hv=>hv
     ·cases h
theorem JJ (hcl:gR P G B0 cl) (hcp:gV P G B0 cp):∀ (f:Nat) {c:Code} {E:Tr GV} {H:AH} {os:List Out},d9 P ht c=true→iN ht cl cp P G n f c E H=some os →
  ∀ {R:Lay} {e:Env} {w:World} {Q:Exit→Act→World→Prop} {ds:List Deferred},EnvR R n E e→Sim G B0 R H w →
  (∀ o ∈ os, ∀ R' e' w',Lay.le R R'→EnvR R' n o.E e'→Sim G B0 R' o.H w'→Fr B0 R H w R' o.H w'→Q o.x ⟨e'.toArray,ds⟩ w')→GdW P f c Q ⟨e.toArray,ds⟩ w:=by
 intro f
 induction f with
 | zero=>intro c E H os _ h; cases h
 | succ f ih =>
  intro c E H os hh h R e w Q ds he hs hK
  have leaf:∀ {c:Code},d9 P ht c=true→(match fJ ht cl cp P G n f c E H with | some o=>some [o] | none=>none)=some os→c.wp P Q ⟨e.toArray,ds⟩ w:=by
   intro c hh h
   split at h
   ·rename_i o' ho
    cases h
    exact tF hcl hcp hh ho he hs fun R' e' w' a b c d=>hK o' (.head _) R' e' w' a b c d
   ·cases h
  unfold iN at h
  cases c with
  | seq a b =>
   have hh:=qI hh
   simp only at h
   refine wp_seq ?_
   split at h
   ·rename_i os1 h1
    refine (ih hh.1 h1 he hs fun o ho R1 e1 w1 hle he1 hs1 hf1 => ?_).code
    obtain ⟨x,hx,hsub⟩:=mj h o ho
    cases o with
    | nrm E1 H1=>exact (ih hh.2 hx he1 hs1 fun o2 ho2 R2 e2 w2 hle2 he2 hs2 hf2=>hK o2 (hsub o2 ho2) R2 e2 w2 (hle.trans hle2) he2 hs2 (hf1.trans hf2)).code
    | ext i E1 H1=>cases hx; exact hK _ (hsub _ (.head _)) R1 e1 w1 hle he1 hs1 hf1
    | ret E1 H1=>cases hx; exact hK _ (hsub _ (.head _)) R1 e1 w1 hle he1 hs1 hf1
   ·cases h
  | cond c x z =>
   have hh:=qI hh
   simp only at h
   split at h
   ·rename_i hc
    exact wp_cond (t:=true) (by rw [gD]; exact mi hc he) (ih hh.1 h he hs hK).code
   ·rename_i hc
    exact wp_cond (t:=false) (by rw [gD]; exact mi hc he) (ih hh.2 h he hs hK).code
   ·cases h
  | block id c =>
   have hh:d9 P ht c=true:=hh
   simp only at h
   refine wp_block ?_
   split at h
   ·rename_i os1 h1
    cases h
    refine (ih hh h1 he hs fun o ho R1 e1 w1 hle he1 hs1 hf1 => ?_).code
    have hm:=List.mem_map_of_mem (f:=unb id) ho
    cases o with
    | nrm E1 H1=>exact hK _ hm R1 e1 w1 hle he1 hs1 hf1
    | ret E1 H1=>exact hK _ hm R1 e1 w1 hle he1 hs1 hf1
    | ext i E1 H1 =>
     unfold unb at hm
     simp only at hm
     split at hm
     ·rename_i hbb
      have hi:=Nat.eq_of_beq_eq_true hbb
      subst hi
      simp only [Out.x,Exit.inBlock,if_true]
      exact hK _ hm R1 e1 w1 hle he1 hs1 hf1
     ·rename_i hbb
      have hi : ¬ i=id:=fun hh=>by subst hh; simp at hbb
      simp only [Out.x,Exit.inBlock,if_neg hi]
      exact hK _ hm R1 e1 w1 hle he1 hs1 hf1
   ·cases h
  | loop c =>
   have hh:d9 P ht c=true:=hh
   simp only at h
   show c.wp P (Exit.then (lu P c Q f) Q) ⟨e.toArray,ds⟩ w
   split at h
   ·rename_i os1 h1
    refine (ih hh h1 he hs fun o ho R1 e1 w1 hle he1 hs1 hf1 => ?_).code
    obtain ⟨x,hx,hsub⟩:=mj h o ho
    cases o with
    | nrm E1 H1 =>
     have:=ih (c:=.loop c) (Q:=Q) (ds:=ds) hh hx he1 hs1 fun o2 ho2 R2 e2 w2 hle2 he2 hs2 hf2=>hK o2 (hsub o2 ho2) R2 e2 w2 (hle.trans hle2) he2 hs2 (hf1.trans hf2)
     exact this
    | ext i E1 H1=>cases hx; exact hK _ (hsub _ (.head _)) R1 e1 w1 hle he1 hs1 hf1
    | ret E1 H1=>cases hx; exact hK _ (hsub _ (.head _)) R1 e1 w1 hle he1 hs1 hf1
   ·cases h
  | region id ops draw =>
   cases draw with
   | true=>exact leaf hh h
   | false =>
    simp only at h
    split at h
    ·split at h
     ·rename_i l hl
      cases h
      refine wp_region_list (Al hcl hl he hs fun q hq R' e' w' a b c d => ?_)
      exact hK (Out.nrm q.1 q.2) (List.mem_map_of_mem (f:=fun q=>Out.nrm q.1 q.2) hq) R' e' w' a b c d
     ·cases h
    ·exact leaf hh h
  | _=>exact leaf hh h
theorem JK {f id:Nat} {b:Code} {os:List Out} {Q:Exit→Act→World→Prop} {ds:List Deferred} (hcl:gR P G B0 cl) (hcp:gV P G B0 cp) (hh:d9 P ht (.block id b)=true) (h:iN ht cl cp P G n f (.block id b) E H=some os) (hj:wF os=some (E1,H1)) (he:EnvR R n E e) (hs:Sim G B0 R H w)
  (hK:∀ R' e' w',Lay.le R R'→EnvR R' n E1 e'→Sim G B0 R' H1 w'→Fr B0 R H w R' H1 w'→Q .normal ⟨e'.toArray,ds⟩ w'):(Code.block id b).wp P Q ⟨e.toArray,ds⟩ w:=by
 refine (JJ hcl hcp f hh h he hs fun o ho R' e' w' hle he' hs' hf' => ?_).code
 obtain ⟨k1,k2⟩:=Ak hj o ho
 rw [k1]
 exact hK R' e' w' hle (k2.env he') (hs'.fewer k2.2.1 k2.2.2) (hf'.fewer k2.2.2)
end
end Go.Proofs.YtgpfkmdknlcemaaGreatDoor
namespace Go.Proofs.YtgpfkmdknlcemaaGreatDoor
set_option maxRecDepth 100000
open Go.RowKit
def iM (hts:FuncId→Ht) (ht:Ht) (cl:Cl) (cp:Cp) (P:Program) (G:Glo) (n:Nat):Nat→Code→Tr GV→AH→Bool→Option (Out × Bool)
 | 0,_,_,_,_=>none
 | f+1,c,E,H,mk =>
  match c with
  | .seq a b=>match iM hts ht cl cp P G n f a E H mk with
   | some (.nrm E1 H1,mk1)=>iM hts ht cl cp P G n f b E1 H1 mk1
   | r=>r
  | .block id b=>match b with
   | .rangeFunc g ps a bd=>match mk with
    | false=>match GJ E (iRf hts ht cl cp P G n f g ps.toList a bd E H) with
     | some (.ext i E1 H1,mk1)=>match Nat.beq i id with | true=>some (.nrm E1 H1,mk1) | false=>some (.ext i E1 H1,mk1)
     | r=>r
    | true=>none
   | b=>match fJ ht cl cp P G n f (.block id b) E H with
    | some o=>some (o,mk)
    | none=>match iN ht cl cp P G n f (.block id b) E H with
     | some os=>match wF os with
      | some (E1,H1)=>some (.nrm E1 H1,mk)
      | none=>none
     | none=>none
  | c=>match fJ ht cl cp P G n f c E H with | some o=>some (o,mk) | none=>none
def wG (P:Program) (hts:FuncId→Ht):Prop := ∀ (f:FuncId) (fn:Func) (c:Code),P.funcs[f]? = some fn→fn.body=some c→d9 P (hts f) c=true
def Ja (P:Program) (Q:Exit→Act→World→Prop) (a:Act) (w:World):Option Code→Prop
 | none=>Q .normal a w
 | some c=>c.wpIn Fence.wide 0 P Q a w
section
variable {P:Program} {G:Glo} {B0:Nat} {R:Lay} {H H':AH} {w w':World} {n:Nat} {E E':Tr GV} {e:Env} {cl:Cl} {cp:Cp} {K:KE} {ht:Ht} {hts:FuncId→Ht}
theorem Jb {Bm f:Nat} {Q:Exit→Act→World→Prop} {g:Operand} {ps:Array Tmp} {a bd:Code} {y:Option Code} (hgo:ns P) (hht:wG P hts) (hcl:gR P G B0 cl) (hcp:gV P G B0 cp) (hh:d9 P ht (.rangeFunc g ps a bd)=true)
  (h:iRf hts ht cl cp P G n f g ps.toList a bd E H=some (H',y)) (he:EnvR R n E e) (hs:Sim G B0 R H w) (hBm:Bm≤w.heap.size)
  (hK:∀ R' w' D,Lay.le R R'→Sim G B0 R' H' w'→Fr B0 R H w R' H' w'→BkAt Bm R' H' w' D (.deferred (some []))→Ja P Q ⟨e.toArray,[{ target:=.collected D,args:=#[] }]⟩ w' y) :
  (Code.rangeFunc g ps a bd).wp P Q ⟨e.toArray,[]⟩ w:=by
 unfold iRf at h
 split at h
 ·rename_i x hx
  split at h
  ·rename_i gf cap hfn
   split at h
   ·rename_i fn hf
    split at h
    ·rename_i c hb hn hl hn2 hres
     have hn:=ba.1 hn
     obtain ⟨xa,xb,hv,hxa,hxb⟩:=tK hfn (aO he hx)
     cases hxa
     have hv:ev e g=.func (.func gf) #[] (List.toArray xb):=hv
     have hxb:All2 (GV.rel R) cap xb:=hxb
     -- the end,whatever way it comes
     have key:∀ {o:Out},iY (Af ht cl cp P G n f E ps.toList a bd) H.n (hts gf) cl cp P G fn.ntmps f c (oX fn.ntmps 0 (fH (.yd H.n)::cap) .e) (H.new .dead) none=some (o,y)→o.H=H'→(o.x=.normal∨o.x=.ret)→(Code.rangeFunc g ps a bd).wp P Q ⟨e.toArray,[]⟩ w:=by
      intro o hy ho hox
      refine (wpIn_wide (n:=0)).1 (wpIn_rangeFunc ?_)
      intro fnc _
      obtain ⟨W1,hW1⟩:∃ W1,(w.alloc (.deferred (some []))).alloc (.loop (gE fnc e ps a bd w.heap.size .ready none))=W1:=⟨_,rfl⟩
      have hL1:W1.heap[w.heap.size+1]? = some (.loop (gE fnc e ps a bd w.heap.size .ready none)):=by
       rw [← hW1]; have:=World.alloc_heap_new (w.alloc (.deferred (some []))) (.loop (gE fnc e ps a bd w.heap.size .ready none)); rwa [World.size_alloc] at this
      have hD1:W1.heap[w.heap.size]? = some (.deferred (some [])):=by
       rw [← hW1]; exact (Below.heap_alloc _ _ _ (by simp)).trans (World.alloc_heap_new w _)
      have hbel:Below w.heap.size w W1:=by
       rw [← hW1]; exact ((Below.refl _ w).alloc (Nat.le_refl _) _).alloc (by simp) _
      have hs1:Sim G B0 (upd R H.n ⟨w.heap.size+1,0⟩) (H.new .dead) W1:=hs.new hbel (Nat.le_succ _) trivial hn
      have hf1:Fr B0 R H w (upd R H.n ⟨w.heap.size+1,0⟩) (H.new .dead) W1:=Fr.new hs hbel (Nat.le_succ _) hn
      have hle1:Lay.le R (upd R H.n ⟨w.heap.size+1,0⟩):=hs.upd_le _
      have nob:∀ {l},w.heap.size≤l→∀ i o L,(H.new .dead).get i=some o→o.live=true→upd R H.n ⟨w.heap.size+1,0⟩ i=some L→L.B≠l:=by
       intro l hl i o L hi hlv hL hE
       rw [AH.get_new hn] at hi
       split at hi
       ·cases hi; cases hlv
       ·rename_i hne
        unfold upd at hL
        rw [if_neg hne] at hL
        obtain ⟨M,x1,_,x3⟩:=hs.obj i o hi hlv
        rw [hL] at x1; cases x1
        have:=x3.lt hlv
        omega
      have hLp:LpAt w.heap.size (upd R H.n ⟨w.heap.size+1,0⟩) (H.new .dead) W1 (w.heap.size+1) w.heap.size (gE fnc e ps a bd w.heap.size .ready none) :=
       ⟨⟨hL1,Nat.le_succ _,nob (Nat.le_succ _)⟩,⟨hD1,Nat.le_refl _,nob (Nat.le_refl _)⟩,by omega⟩
      have hr:CQ P G B0 (upd R H.n ⟨w.heap.size+1,0⟩) R H w w.heap.size (w.heap.size+1) w.heap.size fnc e ps a bd (Af ht cl cp P G n f E ps.toList a bd):=by
       intro aS Ha Hb j hj Ra wa vs Kr hxr hsr hfr hLr har hKr
       exact IW hcl hcp hh hj (he.mono (hle1.trans hxr)) hsr hLr hs.size har hfr hs (Nat.le_succ _) hKr
      have hargs:All2 (GV.rel (upd R H.n ⟨w.heap.size+1,0⟩)) (fH (.yd H.n)::cap) (Value.func (.yield (w.heap.size+1)) #[] #[]::xb) :=
       .cons ⟨_,eZ,rfl⟩ (hxb.mono fun _ _=>GV.rel.mono hle1)
      have hE:=FV hargs (by simpa using hl) hn2
      have hwp:Calls P gf (Value.func (.yield (w.heap.size+1)) #[] #[]::xb).toArray W1 (rangePost Fence.wide 0 P (w.heap.size+1) Q { tmps:=e.toArray,defers:=[{ target:=.collected w.heap.size,args:=#[] }] }):=by
       refine calls_of_wp hf hb ?_
       have e1:(Value.func (.yield (w.heap.size+1)) #[] #[]::xb).toArray++Array.replicate (fn.ntmps - (Value.func (.yield (w.heap.size+1)) #[] #[]::xb).toArray.size) undef=((Value.func (.yield (w.heap.size+1)) #[] #[]::xb)++List.replicate (fn.ntmps - (Value.func (.yield (w.heap.size+1)) #[] #[]::xb).length) undef).toArray:=by simp
       rw [e1]
       refine (JI hcl hcp hr f (hht gf fn c hf hb) hy hE hs1 hf1 hLp eZ (Lay.le.refl _) fun R' e' w' hle he' hs' hf' hL' => ?_).code
       subst ho
       have hend:rangePost Fence.wide 0 P (w.heap.size+1) Q { tmps:=e.toArray,defers:=[{ target:=.collected w.heap.size,args:=#[] }] } (.returned (.tuple #[])) w':=by
        refine ⟨_,_,run_endLoop hL'.lp.dl (by unfold gE stL; cases y <;> simp), ?_⟩
        have hs2:=hL'.sim (o:=.loop { (gE fnc e ps a bd w.heap.size (stL y) y) with state:=.exhausted }) hs.size hs'
        have hf2:=hf'.oth (l:=w.heap.size+1) (o2:=.loop { (gE fnc e ps a bd w.heap.size (stL y) y) with state:=.exhausted }) hs (Nat.le_succ _) rfl
        have hD2:=hL'.df.oth (o':=.loop { (gE fnc e ps a bd w.heap.size (stL y) y) with state:=.exhausted }) hL'.ne
        have:=hK R' _ w.heap.size (hle1.trans hle) hs2 hf2 ⟨hD2.dl,hBm,hD2.no⟩
        clear hL' hs2 hf2 hD2 hy
        revert this
        unfold gE Ja
        cases y <;> exact id
       have hrk:oP P fn.results.toList (fun v w2=>rangePost Fence.wide 0 P (w.heap.size+1) Q { tmps:=e.toArray,defers:=[{ target:=.collected w.heap.size,args:=#[] }] } (.returned v) w2) e' w':=by
        rw [hres]; exact hend
       obtain ⟨v,h1,h2⟩:=ni hrk
       rcases hox with hox | hox <;> rw [hox] <;> exact ⟨rfl,v,h1,h2⟩
      refine ⟨w.heap.size+1,[{ target:=.collected w.heap.size,args:=#[] }],W1, { target:=.fn (.func gf) xb.toArray,args:=#[.func (.yield (w.heap.size+1)) #[] #[]] },W1,gf,
       #[.func (.yield (w.heap.size+1)) #[] #[]]++xb.toArray,W1, ?_, ?_,fun _ _=>trivial, ?_,(fun h=>by cases h), ?_⟩
      ·rw [← hW1]; exact run_enterLoop_outer _ _ _ _ _
      ·have hev:Act.eval ⟨e.toArray,[]⟩ g=.func (.func gf) #[] xb.toArray:=by rw [gD]; exact hv
       simp only [resolve,hev]
       simp [go_sem]
      ·have hgo':bD P gf:=⟨fn,hf,hgo gf fn hf,by rw [hb]; rfl⟩
       simp [invoke,go_sem,s9 hgo']
      ·refine callsIn_wide.2 ?_
       have e1 : #[Value.func (.yield (w.heap.size+1)) #[] #[]]++xb.toArray=(Value.func (.yield (w.heap.size+1)) #[] #[]::xb).toArray:=by simp
       rw [e1]
       exact hwp
     split at h
     ·rename_i E1 H1 y1 h1; cases h; exact key h1 rfl (.inl rfl)
     ·rename_i E1 H1 y1 h1; cases h; exact key h1 rfl (.inr rfl)
     ·cases h
    ·cases h
   ·cases h
  ·cases h
 ·cases h
theorem JL (hgo:ns P) (hht:wG P hts) (hcl:gR P G B0 cl) (hcp:gV P G B0 cp):∀ (f:Nat) {c:Code} {E:Tr GV} {H:AH} {o:Out} {mk mk':Bool},d9 P ht c=true→iM hts ht cl cp P G n f c E H mk=some (o,mk')→∀ {Bm:Nat} {R:Lay} {e:Env} {w:World} {ds:List Deferred} {Q:Exit→Act→World→Prop},EnvR R n E e→Sim G B0 R H w→Bm≤w.heap.size→Mk Bm R H w mk ds →
  (∀ R' e' w' ds',Lay.le R R'→EnvR R' n o.E e'→Sim G B0 R' o.H w'→Fr B0 R H w R' o.H w'→Mk Bm R' o.H w' mk' ds'→Q o.x ⟨e'.toArray,ds'⟩ w')→c.wp P Q ⟨e.toArray,ds⟩ w:=by
 intro f
 induction f with
 | zero=>intro c E H o mk mk' _ h; cases h
 | succ f ih =>
  intro c E H o mk mk' hh h Bm R e w ds Q he hs hBm hm hK
  have leaf:∀ {c:Code},d9 P ht c=true→(match fJ ht cl cp P G n f c E H with | some o=>some (o,mk) | none=>none)=some (o,mk')→c.wp P Q ⟨e.toArray,ds⟩ w:=by
   intro c hh h
   split at h
   ·rename_i o' ho
    cases h
    exact tF hcl hcp hh ho he hs fun R' e' w' a b c d=>hK R' e' w' ds a b c d (hm.step d)
   ·cases h
  unfold iM at h
  cases c with
  | seq a b =>
   have hh:=qI hh
   simp only at h
   refine wp_seq ?_
   split at h
   ·rename_i E1 H1 mk1 h1
    refine ih hh.1 h1 he hs hBm hm fun R1 e1 w1 ds1 hle he1 hs1 hf1 hm1 => ?_
    exact ih hh.2 h he1 hs1 (Nat.le_trans hBm hf1.below.size) hm1 fun R2 e2 w2 ds2 hle2 he2 hs2 hf2 hm2=>hK R2 e2 w2 ds2 (hle.trans hle2) he2 hs2 (hf1.trans hf2) hm2
   ·rename_i hno
    refine ih hh.1 h he hs hBm hm fun R1 e1 w1 ds1 hle he1 hs1 hf1 hm1 => ?_
    have:=hK R1 e1 w1 ds1 hle he1 hs1 hf1 hm1
    cases o with
    | nrm E1 H1=>exact absurd h (hno E1 H1 mk')
    | ext i E1 H1=>exact this
    | ret E1 H1=>exact this
  | block id b =>
   cases b with
   | rangeFunc g ps a bd =>
    simp only at h
    split at h
    ·cases (show ds=[] from hm)
     refine wp_block ?_
     have hh:d9 P ht (.rangeFunc g ps a bd)=true:=hh
     cases hr:iRf hts ht cl cp P G n f g ps.toList a bd E H with
     | none=>rw [hr] at h; cases h
     | some q =>
      obtain ⟨H1,y⟩:=q
      rw [hr] at h
      refine Jb hgo hht hcl hcp hh hr he hs hBm fun R' w' D hle hs' hf' hD => ?_
      have hmk:Mk Bm R' H1 w' true [{ target:=.collected D,args:=#[] }]:=⟨D,rfl,hD⟩
      have hK':=fun (ho:o.E=E) (ho2:o.H=H1) (hm2:mk'=true)=>hK R' e w' [{ target:=.collected D,args:=#[] }] hle (by rw [ho]; exact he.mono hle) (by rw [ho2]; exact hs') (by rw [ho2]; exact hf') (by rw [ho2,hm2]; exact hmk)
      cases y with
      | none=>cases h; exact hK' rfl rfl rfl
      | some c =>
       cases c with
       | ret=>cases h; exact wpIn_ret (hK' rfl rfl rfl)
       | exit i =>
        simp only [GJ] at h
        refine wpIn_exit ?_
        split at h
        ·rename_i hbb
         cases h
         have hi:=Nat.eq_of_beq_eq_true hbb
         subst hi
         simp only [Exit.inBlock,if_true]
         exact hK' rfl rfl rfl
        ·rename_i hbb
         cases h
         have hi : ¬ i=id:=fun hh=>by subst hh; simp at hbb
         simp only [Exit.inBlock,if_neg hi]
         exact hK' rfl rfl rfl
       | _=>cases h
    ·cases h
   | _ =>
    simp only at h
    split at h
    ·rename_i o' ho
     cases h
     exact tF hcl hcp hh ho he hs fun R' e' w' a b c d=>hK R' e' w' ds a b c d (hm.step d)
    ·split at h
     ·rename_i os hos
      split at h
      ·rename_i E1 H1 hj
       cases h
       exact JK hcl hcp hh hos hj he hs fun R' e' w' a b c d=>hK R' e' w' ds a b c d (hm.step d)
      ·cases h
     ·cases h
  | _=>exact leaf hh h
end
end Go.Proofs.YtgpfkmdknlcemaaGreatDoor
namespace Go.Proofs.YtgpfkmdknlcemaaGreatDoor
set_option maxRecDepth 100000
open Go.RowKit
def iFn (hts:FuncId→Ht) (ic:Cl) (jc:Cp) (P:Program) (G:Glo) (F:Nat):Nat→Cl
 | 0=>ic
 | k+1=>fun f args H=>match ic f args H with
  | some r=>some r
  | none=>match P.funcs[f]? with
   | some fn=>match fn.body,Nat.ble args.length fn.ntmps,Nat.ble fn.ntmps 256 with
    | some c,true,true=>match iM hts (hts f) (iFn hts ic jc P G F k) (iPf jc P G F k) P G fn.ntmps F c (oX fn.ntmps 0 args .e) H false with
     | some (.nrm E H,_)=>match qK P G H E fn.ntmps fn.results.toList with | some r=>some (r,H) | none=>none
     | some (.ret E H,_)=>match qK P G H E fn.ntmps fn.results.toList with | some r=>some (r,H) | none=>none
     | _=>none
    | _,_,_=>none
   | none=>none
section
variable {P:Program} {G:Glo} {B0:Nat} {R:Lay} {H H':AH} {w w':World} {n:Nat} {E E':Tr GV} {e:Env} {cl:Cl} {cp:Cp} {K:KV}
theorem Ga {fn:Func} {mk:Bool} {ds:List Deferred} {R0:Lay} {H0:AH} {w0:World} {r:GV} (hm:Mk w0.heap.size R H w mk ds) (he:EnvR R n E e) (hs:Sim G B0 R H w) (hf:Fr B0 R0 H0 w0 R H w) (hs0:Sim G B0 R0 H0 w0)
  (h:qK P G H E n fn.results.toList=some r) (hK:∀ v w',r.rel R v→Sim G B0 R H w'→Fr B0 R0 H0 w0 R H w'→K v w') :
  LeavesInM Fence.wide 0 P fn e.toArray (fun x w' => ∃ v,x=.returned v∧K v w') ds .returning w:=by
 have fin:∀ w',Sim G B0 R H w'→Fr B0 R0 H0 w0 R H w'→∃ v,(results fn e.toArray).run P w'=.ok v w'∧∃ v',Ending.returned v=.returned v'∧K v' w':=by
  intro w' hs' hf'
  obtain ⟨v,hv,hret⟩:=BJ h he hs'
  obtain ⟨v',h1,h2⟩:=ni (P:=P) (fn:=fn) (hret K (hK v w' hv hs' hf'))
  exact ⟨v',h1,v',rfl,h2⟩
 cases mk with
 | false =>
  cases (show ds=[] from hm)
  exact fin w hs hf
 | true =>
  obtain ⟨D,rfl,hD⟩:=hm
  refine ⟨by simp,.inl ⟨D,_,rfl,run_takeDeferred hD.dl, ?_⟩⟩
  refine fin _ (hs.oth (l:=D) (Nat.le_trans hs0.size hD.b0) World.putObj_size (fun k hk=>World.putObj_heap_other hk) hD.no) (hf.oth (l:=D) hs0 hD.b0 rfl)
theorem Jc {hts:FuncId→Ht} {ic:Cl} {jc:Cp} {F:Nat} (hgo:ns P) (hht:wG P hts) (hic:gR P G B0 ic) (hjc:gV P G B0 jc):∀ k,gR P G B0 (iFn hts ic jc P G F k):=by
 intro k
 induction k with
 | zero=>exact hic
 | succ k ih =>
  intro f args H r H' R w vs h hs ha
  unfold iFn at h
  split at h
  ·rename_i r' hr; cases h; exact hic hr hs ha
  ·split at h
   ·rename_i fn hf
    split at h
    ·rename_i c hb hl hn
     have he:=FV ha hl hn
     have fin:∀ {o:Out} {mk:Bool},iM hts (hts f) (iFn hts ic jc P G F k) (iPf jc P G F k) P G fn.ntmps F c (oX fn.ntmps 0 args .e) H false=some (o,mk)→qK P G o.H o.E fn.ntmps fn.results.toList=some r→o.H=H'→(o.x=.normal∨o.x=.ret)→Yls G B0 (fun K w=>call P f vs.toArray K w) R H r H' w:=by
      intro o mk h1 h2 h4 h3 K hK
      refine ⟨⟨fn,hf,hgo f fn hf,by rw [hb]; rfl⟩, ?_⟩
      refine callsIn_wide.1 (callsIn_of_wp_marks (n:=0) hf hb trivial ?_)
      have e1:vs.toArray++Array.replicate (fn.ntmps - vs.toArray.size) undef=(vs++List.replicate (fn.ntmps - vs.length) undef).toArray:=by simp
      rw [e1]
      refine wpIn_wide.2 (JL hgo hht ih (IV hgo hjc k) F (hht f fn c hf hb) h1 he hs (Nat.le_refl _) (ds:=[]) rfl fun R' e' w' ds' hle he' hs' hf' hm' => ?_)
      subst h4
      have key:=Ga (K:=K) (fn:=fn) hm' he' hs' hf' hs h2 fun v w2 hv hs2 hf2=>hK R' v w2 hle hv hs2 hf2
      rcases h3 with h3 | h3 <;> rw [h3] <;> exact key
     split at h
     ·rename_i E H1 mk h1
      split at h
      ·rename_i r1 h2; cases h; exact fin h1 h2 rfl (.inl rfl)
      ·cases h
     ·rename_i E H1 mk h1
      split at h
      ·rename_i r1 h2; cases h; exact fin h1 h2 rfl (.inr rfl)
      ·cases h
     ·cases h
    ·cases h
   ·cases h
end
end Go.Proofs.YtgpfkmdknlcemaaGreatDoor
namespace Go.Proofs.YtgpfkmdknlcemaaGreatDoor
set_option maxRecDepth 100000
open Go.RowKit
def jc0:Cp:=fun _ _ _=>none
def wH:Option (GV × AH)→Bool
 | some (.val (.one (.k (.bool true))),_)=>true
 | _=>false
def icW (f:FuncId):Cl:=fun g args H=>match Nat.beq g f,args with | true,[]=>some (kG (.bool true),H) | _,_=>none
section
variable {P:Program} {G:Glo} {B0:Nat} {R:Lay} {H H':AH} {w w':World} {n:Nat} {E E':Tr GV} {e:Env} {cl:Cl} {cp:Cp} {K:KV}
theorem Jd:gV P G B0 jc0:=by intro f args H r R w vs h; cases h
theorem Je (hg:∀ g e cs,G g=some (e,cs)→gbk w g cs):Sim G w.heap.size (fun _=>none) ⟨.e,0⟩ w where
 obj i o hi hl:=by have:=AH.get_lt hi; cases this
 inj i j oi oj Li Lj hi:=by have:=AH.get_lt hi; cases this
 dom i L hi:=by cases hi
 big:=by show 0≤8192; omega
 size:=Nat.le_refl _
 glob g e cs h:=⟨(hg g e cs h).lt,hg g e cs h⟩
theorem Ea {x:Option (GV × AH)} (h:wH x=true):∃ H,x=some (kG (.bool true),H):=by
 unfold wH at h
 split at h
 ·exact ⟨_,rfl⟩
 ·cases h
theorem Jf {hts:FuncId→Ht} {ic:Cl} {jc:Cp} {f:FuncId} {F k:Nat} (hgo:ns P) (hht:wG P hts) (hic:∀ B0,gR P G B0 ic) (hjc:∀ B0,gV P G B0 jc) (hw:wH (iFn hts ic jc P G F k f [] ⟨.e,0⟩)=true):gR P G B0 (icW f):=by
 intro g args H r H' R w vs h hs ha K hK
 unfold icW at h
 split at h
 ·rename_i hb
  have hb:=Nat.eq_of_beq_eq_true hb
  subst hb
  cases h
  cases ha
  obtain ⟨H1,h1⟩:=Ea hw
  have hs0:Sim G w.heap.size (fun _=>none) ⟨.e,0⟩ w:=Je fun g e cs hg=>(hs.glob g e cs hg).2
  refine Jc (B0:=w.heap.size) hgo hht (hic _) (hjc _) k h1 hs0 .nil K fun R' v w' _ hv hs' hf' => ?_
  have hb:Below w.heap.size w w':=hf'.below
  exact hK R v w' (Lay.le.refl R) hv (hs.below hb) (oh hs hb)
 ·cases h
end
end Go.Proofs.YtgpfkmdknlcemaaGreatDoor
namespace Go.Proofs.YtgpfkmdknlcemaaGreatDoor
set_option maxRecDepth 100000
open Go.RowKit
theorem gbk.kept {w w':World} {g:Nat} {cs:List Value} (h:gbk w g cs) (hb:Below w.heap.size w w'):gbk w' g cs:=by
 obtain ⟨E,fr,he⟩:=h
 exact ⟨E,fr,by rw [hb.block _ (Array.getElem?_eq_some_iff.1 he).1]; exact he⟩
theorem JM {P:Program} {G:Glo} {f:FuncId} (hcl:∀ B0,gR P G B0 (icW f)) {W:World} (hg:∀ g e cs,G g=some (e,cs)→gbk W g cs):WkOK P f W:=by
 intro w K hb h
 have hg':∀ g e cs,G g=some (e,cs)→gbk w g cs:=fun g e cs hh=>(hg g e cs hh).kept hb
 have hi:icW f f [] (⟨.e,0⟩:AH)=some (kG (.bool true),⟨.e,0⟩):=by unfold icW; rw [show Nat.beq f f=true from Nat.beq_refl f]
 have hq:=hcl w.heap.size (f:=f) (args:=[]) (H:=⟨.e,0⟩) (R:=fun _=>none) (w:=w) (vs:=[]) hi (Je hg') .nil
 refine hq K fun R' v w' _ hv hs' hf' => ?_
 have hv:v=.bool true:=hv
 subst hv
 exact h w' hf'.below
end Go.Proofs.YtgpfkmdknlcemaaGreatDoor
namespace Go.Proofs.YtgpfkmdknlcemaaGreatDoor
set_option maxRecDepth 100000
open Go.RowKit
def Jg:CV→Option Int
 | .k (.int .i64 a)=>some a
 | _=>none
def tG:List CV→Option (List Int)
 | []=>some []
 | c::r=>match Jg c with
  | some b=>match tG r with | some l=>some (b::l) | none=>none
  | none=>none
def Am:Cl:=fun f args H =>
 match Nat.beq f 49 with
 | true=>match args with
  | [.val (.one (.p b o)),.val (.one (.k (.int .i64 k)))]=>match H.get b with
   | some (.cells _ _ _ cs)=>match tG ((cs.drop o).take 54),k with
    | some A,.ofNat k=>match Nat.beq A.length 54,Nat.blt k 6 with
     | true,true=>some (.tup [.one (.k (iv (gH A k).1)),.one (.k (.bool (gH A k).2))],H)
     | _,_=>none
    | _,_=>none
   | _=>none
  | _=>none
 | false=>none
section
variable {G:Glo} {B0:Nat} {R:Lay} {H:AH} {w:World}
theorem Ao:∀ {cs:List CV} {l:List Int} {vs:List Value},tG cs=some l→All2 (CR R) cs vs→vs=l.map iv
 | [],l,vs,h,hr=>by cases h; cases hr; rfl
 | c::r,l,vs,h,hr=>by
  unfold tG at h
  split at h
  ·rename_i b hb
   split at h
   ·rename_i l' hl
    cases h
    cases hr with
    | cons h1 h2 =>
     unfold Jg at hb
     split at hb
     ·cases hb
      have h1:=h1.1
      have h1:_=Value.int .i64 _:=h1
      rw [h1,Ao hl h2]; rfl
     ·cases hb
   ·cases h
  ·cases h
theorem yr:∀ {cs:List CV} {l:List Int},tG cs=some l→l.length=cs.length
 | [],l,h=>by cases h; rfl
 | c::r,l,h=>by
  unfold tG at h
  split at h
  ·split at h
   ·rename_i l' hl; cases h; simp [yr hl]
   ·cases h
  ·cases h
theorem Eb:gR Tryz.prog G B0 Am:=by
 intro f args H r H' R w vs h hs ha
 unfold Am at h
 split at h
 ·rename_i hb
  have hb:=Nat.eq_of_beq_eq_true hb
  subst hb
  split at h
  ·rename_i b o k
   split at h
   ·rename_i e z g cs hg
    split at h
    ·rename_i A k' hA
     split at h
     ·rename_i hlen hk
      have hlen:=Nat.eq_of_beq_eq_true hlen
      have hk:=ba.1 hk
      cases h
      cases ha with
      | cons h0 ha =>
      cases ha with
      | cons h1 ha =>
      cases ha
      obtain ⟨L,hL,rfl⟩:=h0
      cases h1
      obtain ⟨c0,hbk,hc,_⟩:=hs.cells hg hL
      have hl:=yr hA
      have hcut:=Ao hA (ks hc.rel (by rw [← hl,hlen]))
      intro K hK
      refine wX (A:=A) ⟨hbk,hcut,hlen⟩ hk fun w' hb => ?_
      exact hK R _ w' (Lay.le.refl R) ⟨_,.cons rfl (.cons rfl .nil),rfl⟩ (hs.below hb) (oh hs hb)
     ·cases h
    ·cases h
   ·cases h
  ·cases h
 ·cases h
end
end Go.Proofs.YtgpfkmdknlcemaaGreatDoor
