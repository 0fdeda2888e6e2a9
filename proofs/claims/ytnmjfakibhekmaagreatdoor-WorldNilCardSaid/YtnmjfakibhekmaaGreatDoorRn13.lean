/- Runs in which all is known but where blocks stand: regions that draw, shown. Nothing of the program is named here. -/
import Derived.Test.YtnmjfakibhekmaaGreatDoorRn12
namespace Go.Proofs.YtnmjfakibhekmaaGreatDoor
set_option maxRecDepth 100000
open Go.RowKit

section
variable {P : Program} {G : Glo} {B0 : Nat} {R : Lay} {H H' : AH} {w w' : World} {n : Nat} {E E' : Tr GV} {e : Env} {cl : Cl} {cp : Cp} {ops : Array Oper} {K : KE}
/-- What a region that draws comes to, from some point on. -/
def HrOK (cp : Cp) (P : Program) (G : Glo) (B0 n : Nat) (ops : Array Oper) (K : KE) (fc : Nat) (Lc : Array Bool) (pc : List Nat) (R : Lay) (qs : List Rec) (e : Env) (w : World) : Prop :=
  ∀ Qs, LnkAll cp P G B0 n R qs Qs → ∃ S' : World → Prop, (∀ x, S' x → ∀ Q ∈ Qs, Q x) ∧ S' w ∧ hRun P ops K fc Lc pc S' e w
theorem below_fr {w1 : World} (hs : Sim G B0 R H w) (hb : Below w.heap.size w w1) : Fr B0 R H w R H w1 :=
  ⟨hb.mono hs.size, fun k hk _ => hb.block k hk, fun i o L a b c => .inl ⟨i, o, L, a, b, c, rfl⟩⟩
def ala (al : Nat → Nat) (i α : Nat) : Nat → Nat := fun x => match Nat.beq x i with | true => α | false => al x
theorem ala_self (al : Nat → Nat) (i α : Nat) : ala al i α i = α := by unfold ala; simp
theorem ala_ne (al : Nat → Nat) {i x : Nat} (α : Nat) (h : x ≠ i) : ala al i α x = al x := by
  unfold ala
  cases hb : Nat.beq x i with
  | true => exact absurd (Nat.eq_of_beq_eq_true hb) h
  | false => rfl
/-- One more variable is made early. -/
theorem Erl.more {w0 w1 : World} {la : La} {m : Msk} {al : Nat → Nat} {i d : Nat} {oa : Oper} {t : TypeId} {z : Value} (h : Erl P ops B0 R H w w0 e la m al) (hs : Sim G B0 R H w) (hb : Below w.heap.size w w1)
    (nd1 : (la.map (·.1)).Nodup) (nd2 : (la.map (·.2)).Nodup) (hi : (i, d) ∈ la) (hw0 : w0.heap.size ≤ w.heap.size) (ho : ops[i]? = some oa) (hop : oa.op = .alloc t) (hz : (P.info? t).bind (·.zero) = some z) (hbk : blk w1 w.heap.size t z.cells.toList) (hdl : d < e.length) :
    Erl P ops B0 R H w1 w0 (pt e (some d) (.pointer (some ⟨w.heap.size, 0, none⟩))) la (ups m i) (ala al i w.heap.size) where
  at_ q hq hm := by
    by_cases hqi : q.1 = i
    · have : q = (i, d) := nd_inj nd1 hq hi hqi
      subst this
      simp only
      rw [ala_self]
      refine ⟨?_, ⟨oa, t, z, ho, hop, hz, hbk⟩, ?_, hs.size, hw0, hbk.lt⟩
      · unfold pt gd
        simp [List.getD_eq_getElem?_getD, hdl]
      · intro k ok L hk lk hL
        obtain ⟨M, x1, _, x3⟩ := hs.obj k ok hk lk
        rw [hL] at x1; cases x1
        have := x3.lt lk
        omega
    · rw [ups_ne m hqi] at hm
      rw [ala_ne al _ hqi]
      refine (h.at_ q hq hm).step (below_fr hs hb) ?_
      have : d ≠ q.2 := fun he => hqi (by have := nd_inj nd2 hq hi he.symm; rw [this])
      unfold pt gd
      simp [List.getD_eq_getElem?_getD, List.getElem?_set_ne this]
  ne q hq q' hq' hm hm' hne := by
    by_cases hqi : q.1 = i
    · have hqi' : q'.1 ≠ i := fun he => hne (hqi.trans he.symm)
      rw [ups_ne m hqi'] at hm'
      rw [hqi, ala_self, ala_ne al _ hqi']
      have := (h.at_ q' hq' hm').lt
      omega
    · rw [ups_ne m hqi] at hm
      rw [ala_ne al _ hqi]
      by_cases hqi' : q'.1 = i
      · rw [hqi', ala_self]
        have := (h.at_ q hq hm).lt
        omega
      · rw [ups_ne m hqi'] at hm'
        rw [ala_ne al _ hqi']
        exact h.ne q hq q' hq' hm hm' hne
theorem iHR_ok (hcl : ClOK P G B0 cl) (hcp : CpOK P G B0 cp) {R0 : Lay} {H0 : AH} {w0 : World}
    (hK : ∀ R' e' w', Lay.le R0 R' → EnvR R' n E' e' → Sim G B0 R' H' w' → Fr B0 R0 H0 w0 R' H' w' → K e' w') :
    ∀ (k : Nat) {f : Nat} {listed : Array Bool} {pend : List Nat} {E : Tr GV} {H : AH} {qs : List Rec} {la : La},
      iHR cl cp P G n ops k f listed pend E H qs la = some (E', H') →
      ∀ {m : Msk} {al : Nat → Nat} {fc : Nat} {pc : List Nat} {R : Lay} {e : Env} {w : World}, EnvR R n E e → Sim G B0 R H w → f = fc + delta la m → (∀ x, m x = true → ∃ d, (x, d) ∈ la) → Erl P ops B0 R H w w0 e la m al →
      (∀ x ∈ pc, x ∈ pend) → RecOK cp P G H n qs → Lay.le R0 R → Fr B0 R0 H0 w0 R H w → HrOK cp P G B0 n ops K fc (withs la m listed) pc R qs e w := by
  intro k
  induction k with
  | zero => intro f listed pend E H qs la h; cases h
  | succ k ih =>
    intro f listed pend E H qs la h m al fc pc R e w he hs hf hms hE hpc hr hR hFr Qs hQs
    unfold iHR at h
    split at h
    · cases h
    · rename_i f1 L1 pd E1 q1 hrd
      obtain ⟨g1, g2, g3, g4, Qs1, e1, g5, g6, g7, g8⟩ := iRd_ok (K := K) (m := m) hcp hs hrd he hr
      obtain ⟨fc1, pc1, k1, k2, k3⟩ := g8 fc pc hf hpc
      have hQA : LnkAll cp P G B0 n R q1 (Qs ++ Qs1) := by
        intro Q hQ
        rcases List.mem_append.1 hQ with hQ | hQ
        · exact hQs.mono (Lay.le.refl R) g2 Q hQ
        · exact g6 Q hQ
      have hE1 : Erl P ops B0 R H w w0 e1 la m al := hE.step (Fr.refl ..) (fun q hq hm => ⟨hq, hm⟩) fun q hq _ => g7 q hq
      suffices hgoal : ∃ S' : World → Prop, (∀ x, S' x → ∀ Q ∈ Qs ++ Qs1, Q x) ∧ S' w ∧ hRun P ops K fc1 (withs la m L1) pc1 S' e1 w by
        obtain ⟨S', a, b, c⟩ := hgoal
        exact ⟨S', fun x hx Q hQ => a x hx Q (List.mem_append_left _ hQ), b, k3 S' (fun x hx Q hQ => a x hx Q (List.mem_append_right _ hQ)) c⟩
      clear k3 g8 hrd he hf hpc hr hE hQs g6 g7
      split at h
      · rename_i hrdy
        split at h
        · cases h
          exact ⟨fun x => ∀ Q ∈ Qs ++ Qs1, Q x, fun x hx => hx, hQA.now g1 hs, hRun_done hrdy (hK R e1 w hR g5 hs hFr)⟩
        · cases h
      · rename_i j0 js hrdy
        split at h
        · rename_i j new mg f2 hw
          generalize hla' : new ++ la = la' at h
          -- what goes for both
          have core : okW P n ops la' j mg L1 = true → (∀ (u : Nat) {m : Msk} {al : Nat → Nat} {fcx : Nat} {pcx : List Nat} {ex : Env} {wx : World}, (unM la' m).length = u → f2 + 1 = fcx + delta la' m → (∀ x, m x = true → ∃ d, (x, d) ∈ la') → Erl P ops B0 R H wx w0 ex la' m al →
              EnvR R n (badE la' n E1) ex → Sim G B0 R H wx → Fr B0 R0 H0 w0 R H wx → (∀ x ∈ pcx, x ∈ pd) → ∃ S' : World → Prop, (∀ x, S' x → ∀ Q ∈ Qs ++ Qs1, Q x) ∧ S' wx ∧ hRun P ops K fcx (withs la' m L1) pcx S' ex wx) →
              ∃ S' : World → Prop, (∀ x, S' x → ∀ Q ∈ Qs ++ Qs1, Q x) ∧ S' w ∧ hRun P ops K fc1 (withs la m L1) pc1 S' e1 w := by
            intro hok inner
            obtain ⟨nd1, _, _, _, _, _⟩ := okW_ok hok
            have hnew : ∀ q ∈ new, m q.1 = false := by
              intro q hq
              cases hm : m q.1 with
              | false => rfl
              | true =>
                obtain ⟨d, hd⟩ := hms _ hm
                rw [← hla', List.map_append, List.nodup_append] at nd1
                exact absurd rfl (nd1.2.2 q.1 (List.mem_map.2 ⟨q, hq, rfl⟩) q.1 (List.mem_map.2 ⟨(q.1, d), hd, rfl⟩))
            obtain ⟨w1, w2⟩ := withs_new (la := la) (l := L1) hnew
            rw [hla'] at w1 w2
            have hms' : ∀ x, m x = true → ∃ d, (x, d) ∈ la' := fun x hx => by
              obtain ⟨d, hd⟩ := hms x hx
              exact ⟨d, by rw [← hla']; exact List.mem_append_right _ hd⟩
            have hE' : Erl P ops B0 R H w w0 e1 la' m al := by
              refine hE1.step (Fr.refl ..) (fun q hq hm => ?_) fun q hq _ => rfl
              rw [← hla'] at hq
              rcases List.mem_append.1 hq with hq | hq
              · rw [hnew q hq] at hm; cases hm
              · exact ⟨hq, hm⟩
            rw [← w1]
            exact inner _ rfl (by rw [w2]; exact k1) hms' hE' (badE_same g5) hs hFr k2
          -- one comes ahead
          have early : okW P n ops la' j mg L1 = true → ∀ (u : Nat) {m : Msk} {al : Nat → Nat} {fcy : Nat} {pcx : List Nat} {ex : Env} {wx : World} {i : Nat},
              (∀ {m : Msk} {al : Nat → Nat} {fcx : Nat} {pcx : List Nat} {ex : Env} {wx : World}, (unM la' m).length = u → f2 + 1 = fcx + delta la' m → (∀ x, m x = true → ∃ d, (x, d) ∈ la') → Erl P ops B0 R H wx w0 ex la' m al →
              EnvR R n (badE la' n E1) ex → Sim G B0 R H wx → Fr B0 R0 H0 w0 R H wx → (∀ x ∈ pcx, x ∈ pd) → ∃ S' : World → Prop, (∀ x, S' x → ∀ Q ∈ Qs ++ Qs1, Q x) ∧ S' wx ∧ hRun P ops K fcx (withs la' m L1) pcx S' ex wx) →
              (unM la' m).length = u + 1 → f2 + 1 = fcy + 1 + delta la' m → (∀ x, m x = true → ∃ d, (x, d) ∈ la') → Erl P ops B0 R H wx w0 ex la' m al → EnvR R n (badE la' n E1) ex → Sim G B0 R H wx → Fr B0 R0 H0 w0 R H wx → (∀ x ∈ pcx, x ∈ pd) → i ∈ unM la' m →
              ∃ o, ops[i]? = some o ∧ cOpG P ops ex o (contW P ops K fcy (withs la' m L1) pcx (fun x => ∀ Q ∈ Qs ++ Qs1, Q x) i ex o.dst) wx := by
            intro hok u m al fcy pcx ex wx i hin hu hfy hmsx hEx hex hsx hfrx hpx hi
            obtain ⟨nd1, nd2, hals, _, _, _⟩ := okW_ok hok
            obtain ⟨hmi, d, hid⟩ := unM_mem hi
            obtain ⟨oa, t, cs, ho', hop', hgd', hds', hcs, hdn⟩ := isAl_ok (hals _ hid)
            refine ⟨oa, ho', ?_⟩
            unfold cOpG
            rw [hgd']
            show cOp P (ev ex) oa _ wx
            have : cOp P (ev ex) oa = alc P t := by unfold cOp; rw [hop']
            rw [this]
            obtain ⟨z, hz1, hz2⟩ := zeroCs_ok (R := R) hcs
            refine alc_of hz1 fun w1 hb1 hbl _ => ?_
            have hs1 : Sim G B0 R H w1 := hsx.below hbl
            have hf1 := hfrx.trans (below_fr hsx hbl)
            rw [hds']
            have hE2 := hEx.more hsx hbl nd1 nd2 hid hfrx.below.size ho' hop' hz1 hb1 (by rw [hex.len]; exact hdn)
            obtain ⟨u1, u2, u3⟩ := withs_ups (l := L1) nd1 hid hmi
            have hms2 : ∀ x, ups m i x = true → ∃ d, (x, d) ∈ la' := by
              intro x hx
              by_cases hxi : x = i
              · subst hxi; exact ⟨d, hid⟩
              · rw [ups_ne m hxi] at hx; exact hmsx x hx
            have fin := fun (pcz : List Nat) (hz : ∀ x ∈ pcz, x ∈ pd) => hin (m := ups m i) (fcx := fcy) (pcx := pcz) (by omega) (by omega) hms2 hE2 (badE_pt hdn ⟨i, hid⟩ hex) hs1 hf1 hz
            rw [u1] at fin
            exact contW_of (fun hl => by obtain ⟨S', _, b, c⟩ := fin [] (fun x hx => by cases hx); exact ⟨S', b, c⟩) (fun p ps hl => fin (p :: ps) (fun x hx => hpx x (hLeft_mem (by rw [hl]; exact hx))))
          split at h
          · rename_i o ho hok
            refine core hok fun u => ?_
            obtain ⟨nd1, nd2, hals, hmt, _, hsch⟩ := okW_ok hok
            obtain ⟨d, hjd⟩ := hmt rfl
            obtain ⟨o', t', cs, ho', hop', hgd', hds', hcs, hdn⟩ := isAl_ok (hals _ hjd)
            rw [ho] at ho'; cases ho'
            split at h
            · rename_i t hop
              rw [hop'] at hop; cases hop
              split at h
              · rename_i r H1 hal
                split at h
                · rename_i hrk
                  rw [Bool.and_eq_true] at hrk
                  obtain ⟨hrk, hfu⟩ := hrk
                  have hrk := reck_ok hrk
                  have hfu := Nat.le_of_ble_eq_true hfu
                  have hms3 : ∀ {m : Msk}, (∀ x, m x = true → ∃ d, (x, d) ∈ la') → ∀ x, dns m j x = true → ∃ d, (x, d) ∈ rem j la' := by
                    intro m hmsx x hx
                    by_cases hxj : x = j
                    · subst hxj; rw [dns_self] at hx; cases hx
                    · rw [dns_ne m hxj] at hx
                      obtain ⟨d, hd⟩ := hmsx x hx
                      exact ⟨d, rem_of hxj hd⟩
                  have hdns : ∀ (m : Msk) (l : Array Bool), withs (rem j la') m l = withs (rem j la') (dns m j) l ∧ delta (rem j la') m = delta (rem j la') (dns m j) := by
                    intro m l
                    obtain ⟨x1, x2, _⟩ := withs_eq (la := rem j la') (m := m) (m' := dns m j) (fun q hq => (dns_ne m (rem_ne nd1 hq)).symm) l
                    exact ⟨x1, x2⟩
                  have main : ∀ {m : Msk} {al : Nat → Nat} {fcx : Nat} {pcx : List Nat} {ex : Env} {wx : World}, f2 + 1 = fcx + delta la' m → (∀ x, m x = true → ∃ d, (x, d) ∈ la') → Erl P ops B0 R H wx w0 ex la' m al →
                      EnvR R n (badE la' n E1) ex → Sim G B0 R H wx → Fr B0 R0 H0 w0 R H wx → (∀ x ∈ pcx, x ∈ pd) →
                      (∀ fcy i, fcx = fcy + 1 → i ∈ unM la' m → ∃ o, ops[i]? = some o ∧ cOpG P ops ex o (contW P ops K fcy (withs la' m L1) pcx (fun x => ∀ Q ∈ Qs ++ Qs1, Q x) i ex o.dst) wx) →
                      ∃ S' : World → Prop, (∀ x, S' x → ∀ Q ∈ Qs ++ Qs1, Q x) ∧ S' wx ∧ hRun P ops K fcx (withs la' m L1) pcx S' ex wx := by
                    intro m al fcx pcx ex wx hfx hmsx hEx hex hsx hfrx hpx hearly
                    obtain ⟨hrt, hrf⟩ := withs_rem (m := m) (l := L1) nd1 hjd
                    obtain ⟨hd1, hd2⟩ := hdns m L1
                    cases hmj : m j with
                    | true =>
                      obtain ⟨rt1, rt2⟩ := hrt hmj
                      have hat := hEx.at_ _ hjd hmj
                      obtain ⟨o', t'', z, x1, x2, x3, x4⟩ := hat.ex
                      rw [ho] at x1; cases x1
                      rw [hop'] at x2; cases x2
                      unfold alcG at hal
                      rw [hcs] at hal
                      simp only at hal
                      obtain ⟨z', hz1, hz2⟩ := zeroCs_ok (R := R) hcs
                      rw [x3] at hz1; cases hz1
                      unfold newG at hal
                      split at hal
                      · rename_i hlt
                        cases hal
                        have hlt := blt_iff.1 hlt
                        have hle := hsx.upd_le ⟨al j, 0⟩
                        have hs' := hsx.adopt x4 hz2 hat.no hat.b0 hlt
                        have hrv : GV.rel (upd R H.n ⟨al j, 0⟩) (oneG (.p H.n 0)) (gd ex d) := by
                          have := hat.ptr
                          simp only at this
                          rw [this]; exact ⟨_, upd_self, rfl⟩
                        have he' : EnvR (upd R H.n ⟨al j, 0⟩) n (ptE (badE la' n E1) n o.dst (oneG (.p H.n 0))) ex := by
                          rw [hds']; exact (hex.mono hle).same hrv
                        have hE' : Erl P ops B0 (upd R H.n ⟨al j, 0⟩) (H.new (.cells t' 1 false cs)) wx w0 ex (rem j la') (dns m j) al := by
                          have key : ∀ q ∈ rem j la', dns m j q.1 = true → q ∈ la' ∧ m q.1 = true ∧ q.1 ≠ j := fun q hq hm => ⟨rem_mem hq, by rwa [dns_ne m (rem_ne nd1 hq)] at hm, rem_ne nd1 hq⟩
                          refine ⟨fun q hq hm => ?_, fun q hq q' hq' hm hm' => ?_⟩
                          · obtain ⟨y1, y2, y3⟩ := key q hq hm
                            have ha := hEx.at_ q y1 y2
                            refine ⟨ha.ptr, ha.ex, fun i oi L hi hl hL => ?_, ha.b0, ha.w0, ha.lt⟩
                            rw [AH.get_new hlt] at hi
                            unfold upd at hL
                            split at hi
                            · rename_i he; rw [if_pos he] at hL; cases hL
                              exact hEx.ne (j, d) hjd q y1 hmj y2 y3.symm
                            · rename_i he; rw [if_neg he] at hL; exact ha.no i oi L hi hl hL
                          · obtain ⟨y1, y2, y3⟩ := key q hq hm
                            obtain ⟨z1, z2, z3⟩ := key q' hq' hm'
                            exact hEx.ne q y1 q' z1 y2 z2
                        have := ih h (m := dns m j) (al := al) (fc := fcx) (pc := pcx) he' hs' (by omega) (hms3 hmsx) hE' hpx hrk (hR.trans hle) (hfrx.adopt hat.w0 hlt) (Qs ++ Qs1) (hQA.mono hle fun _ h => h)
                        rw [rt1, hd1, ← withs_set]
                        exact this
                      · cases hal
                    | false =>
                      obtain ⟨rf1, rf2⟩ := hrf hmj
                      obtain ⟨s1, s2, s3⟩ := hsch m fun _ => hmj
                      have hdl := delta_le m (rem j la')
                      obtain ⟨fcy, rfl⟩ : ∃ fcy, fcx = fcy + 1 := ⟨fcx - 1, by omega⟩
                      refine ⟨_, fun x hx => hx, hQA.now g1 hsx, hRun_wr rfl s2 s1 ?_⟩
                      intro i hi
                      by_cases hij : i = j
                      · subst hij
                        refine ⟨o, ho, ?_⟩
                        unfold cOpG
                        rw [hgd']
                        show cOp P (ev ex) o _ wx
                        have : cOp P (ev ex) o = alc P t' := by unfold cOp; rw [hop']
                        rw [this]
                        refine alc_yls hal hsx _ fun R' v w2 hle hrv hs2 hfr2 => ?_
                        have he2 : EnvR R' n (ptE (badE la' n E1) n o.dst r) (pt ex o.dst v) := (hex.mono hle).put hrv
                        have hE2 : Erl P ops B0 R' H1 w2 w0 (pt ex o.dst v) (rem i la') (dns m i) al := by
                          refine hEx.step hfr2 (fun q hq hm => ⟨rem_mem hq, by rwa [dns_ne m (rem_ne nd1 hq)] at hm⟩) fun q hq _ => ?_
                          rw [hds']
                          have : d ≠ q.2 := fun he => rem_ne nd1 hq (by have := nd_inj nd2 (rem_mem hq) hjd he.symm; rw [this])
                          unfold pt gd
                          simp [List.getD_eq_getElem?_getD, List.getElem?_set_ne this]
                        have IH := fun (pc2 : List Nat) (hp : ∀ x ∈ pc2, x ∈ pd) => ih h (m := dns m i) (al := al) (fc := fcy) (pc := pc2) he2 hs2 (by omega) (hms3 hmsx) hE2 hp hrk (hR.trans hle) (hfrx.trans hfr2)
                        rw [withs_set] at IH
                        rw [rf1, hd1]
                        refine contW_of (fun hl => ?_) (fun p ps hl => ?_)
                        · obtain ⟨S', _, b, c⟩ := IH [] (fun x hx => by cases hx) [] (fun Q hQ => by cases hQ)
                          exact ⟨S', b, c⟩
                        · exact IH (p :: ps) (fun x hx => hpx x (hLeft_mem (by rw [hl]; exact hx))) (Qs ++ Qs1) (hQA.mono hle fun _ h => h)
                      · rcases s3 i hi with hij' | hiu
                        · exact absurd hij' hij
                        · exact hearly fcy i rfl hiu
                  induction u with
                  | zero =>
                    intro m al fcx pcx ex wx hu hfx hmsx hEx hex hsx hfrx hpx
                    refine main hfx hmsx hEx hex hsx hfrx hpx fun fcy i _ hi => ?_
                    have : unM la' m = [] := List.eq_nil_of_length_eq_zero hu
                    rw [this] at hi; cases hi
                  | succ u ihu =>
                    intro m al fcx pcx ex wx hu hfx hmsx hEx hex hsx hfrx hpx
                    refine main hfx hmsx hEx hex hsx hfrx hpx fun fcy i hfy hi => ?_
                    subst hfy
                    exact early hok u ihu hu hfx hmsx hEx hex hsx hfrx hpx hi
                · cases h
              · cases h
            · cases h
          · rename_i o ho hok
            refine core hok fun u => ?_
            obtain ⟨nd1, nd2, hals, _, hmf, hsch⟩ := okW_ok hok
            split at h
            · rename_i r H1 hd hfu hop
              have hfu := Nat.le_of_ble_eq_true hfu
              have main : ∀ {m : Msk} {al : Nat → Nat} {fcx : Nat} {pcx : List Nat} {ex : Env} {wx : World}, f2 + 1 = fcx + delta la' m → (∀ x, m x = true → ∃ d, (x, d) ∈ la') → Erl P ops B0 R H wx w0 ex la' m al →
                  EnvR R n (badE la' n E1) ex → Sim G B0 R H wx → Fr B0 R0 H0 w0 R H wx → (∀ x ∈ pcx, x ∈ pd) →
                  (∀ fcy i, fcx = fcy + 1 → i ∈ unM la' m → ∃ o, ops[i]? = some o ∧ cOpG P ops ex o (contW P ops K fcy (withs la' m L1) pcx (fun x => ∀ Q ∈ Qs ++ Qs1, Q x) i ex o.dst) wx) →
                  ∃ S' : World → Prop, (∀ x, S' x → ∀ Q ∈ Qs ++ Qs1, Q x) ∧ S' wx ∧ hRun P ops K fcx (withs la' m L1) pcx S' ex wx := by
                intro m al fcx pcx ex wx hfx hmsx hEx hex hsx hfrx hpx hearly
                obtain ⟨s1, s2, s3⟩ := hsch m fun hh => by cases hh
                have hdl := delta_le m la'
                obtain ⟨fcy, rfl⟩ : ∃ fcy, fcx = fcy + 1 := ⟨fcx - 1, by omega⟩
                refine ⟨_, fun x hx => hx, hQA.now g1 hsx, hRun_wr rfl s2 s1 ?_⟩
                intro i hi
                rcases s3 i hi with hij | hiu
                · subst hij
                  refine ⟨o, ho, ?_⟩
                  refine iOpG_ok hcl hop hex hsx fun R' v w2 hle hrv hs2 hfr2 => ?_
                  have he2 : EnvR R' n (ptE (badE la' n E1) n o.dst r) (pt ex o.dst v) := (hex.mono hle).put hrv
                  have hE2 : Erl P ops B0 R' H1 w2 w0 (pt ex o.dst v) la' m al := hEx.step hfr2 (fun q hq hm => ⟨hq, hm⟩) fun q hq _ => gd_pt_ne hd hq
                  split at h
                  · rename_i hl0
                    refine contW_of (fun hl => ?_) (fun p ps hl => ?_)
                    · obtain ⟨S', _, b, c⟩ := ih h (m := m) (fc := fcy) (pc := []) he2 hs2 (by omega) hmsx hE2 (fun x hx => by cases hx) (fun q hq => by cases hq) (hR.trans hle) (hfrx.trans hfr2) [] (fun Q hQ => by cases hQ)
                      rw [withs_set] at c; exact ⟨S', b, c⟩
                    · have : p ∈ hLeft ops pd i := hLeft_sub' hpx p (by rw [hl]; exact .head _)
                      rw [hl0] at this; cases this
                  · rename_i p0 ps0 hl0
                    split at h
                    · rename_i hrk
                      have hrk := reck_ok hrk
                      have IH := fun (pc2 : List Nat) (hp : ∀ x ∈ pc2, x ∈ p0 :: ps0) => ih h (m := m) (fc := fcy) (pc := pc2) he2 hs2 (by omega) hmsx hE2 hp hrk (hR.trans hle) (hfrx.trans hfr2)
                      rw [withs_set] at IH
                      refine contW_of (fun hl => ?_) (fun p ps hl => ?_)
                      · obtain ⟨S', _, b, c⟩ := IH [] (fun x hx => by cases hx) [] (fun Q hQ => by cases hQ)
                        exact ⟨S', b, c⟩
                      · exact IH (p :: ps) (fun x hx => by rw [← hl0]; exact hLeft_sub' hpx x (by rw [hl]; exact hx)) (Qs ++ Qs1) (hQA.mono hle fun _ h => h)
                    · cases h
                · exact hearly fcy i rfl hiu
              induction u with
              | zero =>
                intro m al fcx pcx ex wx hu hfx hmsx hEx hex hsx hfrx hpx
                refine main hfx hmsx hEx hex hsx hfrx hpx fun fcy i _ hi => ?_
                have : unM la' m = [] := List.eq_nil_of_length_eq_zero hu
                rw [this] at hi; cases hi
              | succ u ihu =>
                intro m al fcx pcx ex wx hu hfx hmsx hEx hex hsx hfrx hpx
                refine main hfx hmsx hEx hex hsx hfrx hpx fun fcy i hfy hi => ?_
                subst hfy
                exact early hok u ihu hu hfx hmsx hEx hex hsx hfrx hpx hi
            · cases h
          · cases h
        · cases h
end
end Go.Proofs.YtnmjfakibhekmaaGreatDoor
