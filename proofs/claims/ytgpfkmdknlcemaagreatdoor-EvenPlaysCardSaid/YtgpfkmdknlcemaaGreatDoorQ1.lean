/- Laid together: PD EvPl. -/

namespace Go.Proofs.YtgpfkmdknlcemaaGreatDoor
set_option maxRecDepth 100000
abbrev MXA:Int:=1125899906842624
def okA (x:Int):Bool:=decide (0≤x) && decide (x≤MXA)
def fw (l:List Int):Int × Bool:=match l.all okA with | true=>(l.sum,true) | false=>(0,false)
def nA (A:List Int) (i:Nat):Int:=A.getD i 0
def iQ (A:List Int) (k j:Nat):List Int:=nA A (6+k)::(List.range j).map fun j=>nA A (18+6 * k+j)
def inL (A:List Int) (k j:Nat):List Int:=nA A k::nA A (12+k)::(List.range j).map fun j=>nA A (18+6 * j+k)
def gH (A:List Int) (k:Nat):Int × Bool:=((fw (inL A k 6)).1 - (fw (iQ A k 6)).1,(fw (iQ A k 6)).2 && (fw (inL A k 6)).2)
theorem jd {x:Int}:okA x=true↔0≤x∧x≤MXA:=by simp [okA]
theorem qe:∀ {l:List Int},l.all okA=true→0≤l.sum∧l.sum≤MXA * l.length
 | [],_=>by simp
 | x::l,h=>by
  rw [List.all_cons,Bool.and_eq_true] at h
  have h1:=jd.1 h.1
  have h2:=qe h.2
  simp only [List.sum_cons,List.length_cons]
  simp only [MXA] at *
  omega
def gL (A:List Int):List Int:=(List.range 6).map fun k=>nA A k
def jx (A:List Int):Bool :=
 (List.range 6).all (fun k=>(gH A k).2 && decide (0≤(gH A k).1) && decide (nA A (12+k)≤nA A (6+k)) && decide (nA A (18+6 * k+k)=0)) && ((fw (gL A)).2 && decide ((fw (gL A)).1≤MXA))
def jP (A:List Int) (k:Nat):Int:=nA A k - nA A (6+k)+nA A (12+k)+((List.range 6).map fun j=>nA A (18+6 * j+k) - nA A (18+6 * k+j)).sum
def mL (A:List Int) (i:Nat):Bool:=okA (nA A i) && okA (nA A (6+i)) && okA (nA A (12+i)) && decide (nA A (12+i)≤nA A (6+i)) && decide (nA A (18+6 * i+i)=0) && (List.range 6).all fun j=>okA (nA A (18+6 * i+j))
def iB (A:List Int):Bool:=(List.range 6).all (mL A) && (List.range 6).all (fun k=>decide (0≤jP A k)) && decide ((gL A).sum≤MXA)
def f6 (i:Int):Bool:=decide (1≤i) && decide (i≤6)
structure ND where
 id:Int
 par:Int
 A:List Int
 deriving DecidableEq
def jQ (A:List Int) (i x:Int):Int:=if iB A=false∨x < 1∨MXA < x then 1 else if f6 i=false then 10 else 0
def z54:List Int:=List.replicate 54 0
def tx (A:List Int) (q:Nat) (x:Int):List Int × Int:=if MXA < nA A q+x then (z54,6) else (A.set q (nA A q+x),0)
def lA (A:List Int) (i x:Int):List Int × Int:=if jQ A i x≠0 then (z54,jQ A i x) else if jP A (i - 1).toNat < x then (z54,11) else tx A (6+(i - 1).toNat) x
def lB (A:List Int) (i x:Int):List Int × Int:=if jQ A i x≠0 then (z54,jQ A i x) else if nA A (6+(i - 1).toNat) - nA A (12+(i - 1).toNat) < x then (z54,12) else (A.set (12+(i - 1).toNat) (nA A (12+(i - 1).toNat)+x),0)
def lC (A:List Int) (i j x:Int):List Int × Int :=
 if jQ A i x≠0 then (z54,jQ A i x) else if f6 j=false then (z54,10) else if i=j then (z54,1) else if jP A (i - 1).toNat < x then (z54,11) else tx A (18+6 * (i - 1).toNat+(j - 1).toNat) x
structure EV where
 o:Int
 s:Int
 d0:Int
 d1:Int
 d2:Int
 d3:Int
 d4:Int
 d5:Int
 k:Int
 n:Int
 t:Int
 a:Int
 r:Int
 f:Int
 deriving DecidableEq
def EV.V (e:EV):List Int:=[e.d0,e.d1,e.d2,e.d3,e.d4,e.d5]
def jy (e:EV):EV := { e with
 n:=if e.k=1∨e.k=2∨e.k=3∨e.k=5 then e.n else 0
 t:=if e.k=5∨e.k=6 then e.t else 0
 a:=if e.k=1∨e.k=2∨e.k=3∨e.k=5 then e.a else 0
 r:=if e.k=3∨e.k=4 then e.r else 0
 f:=if e.k=4 then e.f else 0 }
def smE (e:EV):Bool:=decide (1≤e.a) && decide (e.a≤1125899906842624)
def otE (e:EV):Bool:=f6 e.t && decide (e.t≠e.o)
def fdE (e:EV):Bool :=
 if e.k=1 then decide (0≤e.a) && decide (e.a≤1125899906842624)
 else if e.k=2 then smE e
 else if e.k=3 then smE e && decide (1≤e.r)
 else if e.k=4 then decide (1≤e.r) && (decide (1≤e.f) && decide (e.r≠e.f))
 else if e.k=5 then smE e && otE e
 else if e.k=6 then otE e
 else decide (e.k=7)
def io (e:EV):Bool:=f6 e.o && (decide (1≤e.s) && (decide (e.s < 1099511627776) && (decide (e.V.getD (e.o - 1).toNat 0=e.s - 1) && ((List.range 6).all (fun k=>decide (e.V.getD k 0 < 1099511627776)) && (decide (e=jy e) && fdE e)))))
def GB (V:List Int) (e:EV):Bool:=io e && decide (e.s≤V.getD (e.o - 1).toNat 0)
def nO (V:List Int) (e:EV):Bool:=io e && (decide (e.s=V.getD (e.o - 1).toNat 0+1) && (List.range 6).all (fun k=>decide (e.V.getD k 0≤V.getD k 0)))
theorem vW {e:EV} (h:io e=true):1≤e.o∧e.o≤6∧1≤e.s∧e.s < 1099511627776:=by
 unfold io at h
 simp only [Bool.and_eq_true,decide_eq_true_eq,f6] at h
 exact ⟨h.1.1,h.1.2,h.2.1,h.2.2.1⟩
structure GR where
 o:Int
 q:Int
 n:Int
 a:Int
 b:Int
 deriving DecidableEq
/-! ## A new one is put among others -/
section
variable {α:Type}
def ee (L:List α) (i:Nat) (z:α):List α:=L.take i++z::L.drop i
theorem fA {L:List α} {i:Nat} {z:α}:(ee L i z).length=L.length+1:=by
 unfold ee
 rw [List.length_append,List.length_cons,List.length_take,List.length_drop]
 omega
theorem qf {L:List α} {i:Nat} {z x:α} (h:i≤L.length):(ee L i z).set i x=ee L i x:=by
 unfold ee
 have hl:(L.take i).length=i:=by rw [List.length_take]; omega
 rw [List.set_append_right _ _ (by omega),hl,Nat.sub_self,List.set_cons_zero]
theorem zE {L:List α} {i:Nat} {z:α} (h0:0 < i) (h:i≤L.length):(ee L i z)[i - 1]? = L[i - 1]? := by
 unfold ee
 rw [List.getElem?_append_left (by rw [List.length_take]; omega),List.getElem?_take_of_lt (by omega)]
theorem vX {L:List α} {i:Nat} {x:α} (h0:0 < i) (h:L[i - 1]? = some x):ee L i x=ee L (i - 1) x:=by
 obtain ⟨hk,rfl⟩:=List.getElem?_eq_some_iff.1 h
 unfold ee
 obtain ⟨j,rfl⟩:∃ j,i=j+1:=⟨i - 1,by omega⟩
 have hj:j < L.length:=hk
 show List.take (j+1) L++L[j]::List.drop (j+1) L=List.take j L++L[j]::List.drop j L
 rw [← List.take_append_getElem hj,List.drop_eq_getElem_cons hj,List.append_assoc]
 rfl
theorem zF {L:List α} {z:α}:ee L L.length z=L++[z]:=by simp [ee]
theorem iR {L:List α} {i:Nat} {z x:α}:x ∈ ee L i z↔x=z∨x ∈ L:=by
 unfold ee
 rw [List.mem_append,List.mem_cons]
 constructor
 ·rintro (h | h | h)
  ·exact .inr (List.mem_of_mem_take h)
  ·exact .inl h
  ·exact .inr (List.mem_of_mem_drop h)
 ·rintro (h | h)
  ·exact .inr (.inl h)
  ·have:x ∈ L.take i++L.drop i:=by rw [List.take_append_drop]; exact h
   rcases List.mem_append.1 this with h | h
   ·exact .inl h
   ·exact .inr (.inr h)
end
/-! ## A tree: nodes (what it is, what it is below) -/
structure TK (L:List (Int × Int)) (rk:Int→Nat):Prop where
 low:∀ x ∈ L,rk x.1 < L.length
 nz:∀ x ∈ L,x.1≠0
 up:∀ x ∈ L,x.2=0∨∃ y ∈ L,y.1=x.2∧rk y.1 < rk x.1
def ef (L:List (Int × Int)) (id:Int):Bool:=L.any fun x=>x.1 == id
theorem l9 {L:List (Int × Int)} {id:Int}:ef L id=true↔∃ x ∈ L,x.1=id:=by simp [ef]
def upT (L:List (Int × Int)) (rk:Int→Nat) (id:Int):Nat:=match ef L id with | true=>rk id+1 | false=>0
theorem TK.nil:TK [] fun _=>0:=⟨by simp,by simp,by simp⟩
theorem IB {L:List (Int × Int)} {rk:Int→Nat} (h:TK L rk) (id:Int):upT L rk id≤L.length:=by
 unfold upT
 cases hq:ef L id with
 | false=>exact Nat.zero_le _
 | true =>
  obtain ⟨x,hx,rfl⟩:=l9.1 hq
  exact h.low x hx
theorem uT {L:List (Int × Int)} {rk:Int→Nat} (h:TK L rk) {x:Int × Int} (hx:x ∈ L):upT L rk x.2 < upT L rk x.1:=by
 have h1:ef L x.1=true:=l9.2 ⟨x,hx,rfl⟩
 unfold upT
 rw [h1]
 cases hq:ef L x.2 with
 | false=>exact Nat.succ_pos _
 | true =>
  rcases h.up x hx with e | ⟨y,hy,e,hr⟩
  ·obtain ⟨z,hz,e2⟩:=l9.1 hq
   exact absurd (e2.trans e) (h.nz z hz)
  ·show rk x.2+1 < rk x.1+1
   rw [← e]; omega
theorem TK.add {L:List (Int × Int)} {rk:Int→Nat} (h:TK L rk) {id par:Int} (h0:id≠0) (hn:ef L id=false) (hp:par=0∨ef L par=true) (i:Nat) :
  TK (ee L i (id,par)) (fun k=>if k=id then L.length else rk k):=by
 have hne:∀ x ∈ L,x.1≠id:=fun x hx e=>by
  have:=l9.2 ⟨x,hx,e⟩
  rw [hn] at this; cases this
 refine ⟨fun x hx => ?_,fun x hx => ?_,fun x hx => ?_⟩
 ·rw [fA]
  rcases iR.1 hx with e | e
  ·subst e; simp
  ·rw [if_neg (hne x e)]; have:=h.low x e; omega
 ·rcases iR.1 hx with e | e
  ·subst e; exact h0
  ·exact h.nz x e
 ·rcases iR.1 hx with e | e
  ·subst e
   rcases hp with hp | hp
   ·exact .inl hp
   ·obtain ⟨y,hy,e2⟩:=l9.1 hp
    refine .inr ⟨y,iR.2 (.inr hy),e2, ?_⟩
    rw [if_neg (hne y hy)]
    simp only [if_true]
    exact h.low y hy
  ·rcases h.up x e with h1 | ⟨y,hy,h1,h2⟩
   ·exact .inl h1
   ·refine .inr ⟨y,iR.2 (.inr hy),h1, ?_⟩
    rw [if_neg (hne y hy),if_neg (hne x e)]
    exact h2
def posT (T:List (Int × Int)) (id:Int):Nat:=T.findIdx fun x=>x.1 == id
def fdT (T:List (Int × Int)) (id:Int):Int:=if posT T id < T.length then (posT T id:Nat) else -1
def qg (T:List (Int × Int)) (id:Int):Int:=(T.getD (posT T id) (0,0)).2
def jN (T:List (Int × Int)):Nat→Int→List Int
 | 0,_=>[]
 | f+1,id=>if ef T id=true then id::jN T f (qg T id) else []
def fq (T:List (Int × Int)) (id:Int):List Int:=jN T (T.length+1) id
def nP {α:Type} (f:α→Bool) (L:List α):Nat→Nat
 | 0=>0
 | k+1=>match L[k]? with
  | some x=>if f x=true then nP f L k else k+1
  | none=>k+1
def qh (T:List (Int × Int)) (id par:Int):List (Int × Int) × Int :=
 if id=0 then (T,1) else if ef T id=true then (T,14) else if par≠0∧ef T par=false then (T,9) else if 32≤T.length∨4≤(fq T par).length then (T,6)
 else (ee T (nP (fun x=>decide (id < x.1)) T T.length) (id,par),0)
def bS (I L:List Bool) (k:Nat):List Int:=((List.range k).filter fun k=>I.getD k false && !L.getD k false).map fun k=>((k:Nat):Int)+1
def posN (L:List ND) (id:Int):Nat:=L.findIdx fun x=>x.id == id
def fdN (L:List ND) (id:Int):Int:=if posN L id < L.length then (posN L id:Nat) else -1
end Go.Proofs.YtgpfkmdknlcemaaGreatDoor
namespace Go.Proofs.YtgpfkmdknlcemaaGreatDoor
set_option maxRecDepth 100000
/-! ## May rights be, and what a region may still take -/
theorem xp {l:List Int} (h:(fw l).2=true):l.all okA=true∧fw l=(l.sum,true):=by
 unfold fw at *
 cases hq:l.all okA with
 | true=>exact ⟨rfl,rfl⟩
 | false=>rw [hq] at h; cases h
theorem xq {l:List Int} (h:l.all okA=true):fw l=(l.sum,true):=by unfold fw; rw [h]
theorem zG {l:List Int}:(fw l).2=true↔l.all okA=true:=⟨fun h=>(xp h).1,fun h=>by rw [xq h]⟩
theorem r6 {p:Nat→Prop}:(∀ k ∈ List.range 6,p k)↔p 0∧p 1∧p 2∧p 3∧p 4∧p 5:=by
 constructor
 ·intro h; exact ⟨h 0 (by simp),h 1 (by simp),h 2 (by simp),h 3 (by simp),h 4 (by simp),h 5 (by simp)⟩
 ·rintro ⟨h0,h1,h2,h3,h4,h5⟩ k hk
  have:k < 6:=by simpa using hk
  match k,this with
  | 0,_=>exact h0
  | 1,_=>exact h1
  | 2,_=>exact h2
  | 3,_=>exact h3
  | 4,_=>exact h4
  | 5,_=>exact h5
theorem xr {A:List Int} {k:Nat}:(gH A k).2=true↔okA (nA A k)=true∧okA (nA A (6+k))=true∧okA (nA A (12+k))=true∧(∀ j ∈ List.range 6,okA (nA A (18+6 * k+j))=true)∧∀ j ∈ List.range 6,okA (nA A (18+6 * j+k))=true:=by
 unfold gH
 simp only [Bool.and_eq_true,zG,iQ,inL,List.all_cons,List.all_map,List.all_eq_true,Function.comp]
 constructor
 ·rintro ⟨⟨h1,h2⟩,h3,h4,h5⟩; exact ⟨h3,h1,h4,h2,h5⟩
 ·rintro ⟨h3,h1,h4,h2,h5⟩; exact ⟨⟨h1,h2⟩,h3,h4,h5⟩
theorem uU {A:List Int} {k:Nat} (h:(gH A k).2=true):(gH A k).1=jP A k:=by
 have h':=h
 unfold gH at h'
 simp only [Bool.and_eq_true] at h'
 obtain ⟨h1,h2⟩:=h'
 unfold gH
 simp only
 rw [(xp h1).2,(xp h2).2]
 simp only [iQ,inL,jP,List.range,List.range.loop,List.map_cons,List.map_nil,List.sum_cons,List.sum_nil]
 omega
theorem zH (A:List Int):jx A=iB A:=by
 have key:jx A=true↔iB A=true:=by
  unfold jx iB
  simp only [Bool.and_eq_true,List.all_eq_true,decide_eq_true_eq,mL,zG]
  constructor
  ·rintro ⟨h,hg,hs⟩
   have hL:∀ k ∈ List.range 6,jP A k=(gH A k).1:=fun k hk=>(uU (h k hk).1.1.1).symm
   refine ⟨⟨fun k hk => ?_,fun k hk => ?_⟩, ?_⟩
   ·obtain ⟨⟨⟨a1,a2⟩,a3⟩,a4⟩:=h k hk
    obtain ⟨b1,b2,b3,b4,b5⟩:=xr.1 a1
    exact ⟨⟨⟨⟨⟨b1,b2⟩,b3⟩,a3⟩,a4⟩,b4⟩
   ·rw [hL k hk]; exact (h k hk).1.1.2
   ·rw [xq (by simpa only [List.all_eq_true] using hg)] at hs; exact hs
  ·rintro ⟨⟨h,hl⟩,hs⟩
   have hok:∀ k ∈ List.range 6,(gH A k).2=true:=fun k hk=>xr.2 ⟨(h k hk).1.1.1.1.1,(h k hk).1.1.1.1.2,(h k hk).1.1.1.2,(h k hk).2,fun j hj=>(h j hj).2 k hk⟩
   have hg:(gL A).all okA=true:=by
    simp only [gL,List.all_map,List.all_eq_true,Function.comp]
    exact fun k hk=>(h k hk).1.1.1.1.1
   refine ⟨fun k hk=>⟨⟨⟨hok k hk, ?_⟩,(h k hk).1.1.2⟩,(h k hk).1.2⟩,List.all_eq_true.1 hg, ?_⟩
   ·rw [uU (hok k hk)]; exact hl k hk
   ·rw [xq hg]; exact hs
 cases h1:jx A with
 | true=>rw [key.1 h1]
 | false =>
  cases h2:iB A with
  | false=>rfl
  | true=>rw [key.2 h2] at h1; cases h1
def jR (A:List Int) (k:Nat):Int:=match jx A with | true=>(gH A k).1 | false=>0
theorem Fz (A:List Int) {k:Nat} (hk:k < 6):jR A k=match iB A with | true=>jP A k | false=>0:=by
 unfold jR
 rw [← zH]
 cases h:jx A with
 | false=>rfl
 | true =>
  unfold jx at h
  simp only [Bool.and_eq_true,List.all_eq_true,decide_eq_true_eq] at h
  exact uU (h.1 k (by simpa using hk)).1.1.1
/-! ## Live regions, what they have, their shares -/
def lf:List Int→Int→Option Int
 | [],all=>some all
 | x::l,all=>if x < 0∨x > MXA - all then none else lf l (all+x)
def shr (all:Int) (c k:Nat):Int:=all / (c:Int)+if (k:Int) < all % (c:Int) then 1 else 0
def shL (all:Int) (c:Nat):List Int:=(List.range c).map (shr all c)
/-! ## Moves -/
def IC (p:Nat→Bool) (n:Nat):Nat→Nat
 | 0=>n
 | f+1=>if p (n - (f+1)) then n - (f+1) else IC p n f
def nB (l:List Int) (i:Nat):Int:=l.getD i 0
def fs (p:Nat→Bool) (n i:Nat):Nat:=IC p n (n - i)
theorem lg {p:Nat→Bool} {n i:Nat} (hi:i < n):fs p n i=if p i then i else fs p n (i+1):=by
 unfold fs
 rw [show n - i=(n - (i+1))+1 by omega]
 show (if p (n - ((n - (i+1))+1)) then _ else _)=_
 rw [show n - ((n - (i+1))+1)=i by omega]
theorem vY {p:Nat→Bool} {n i:Nat} (hi:n≤i):fs p n i=n:=by
 unfold fs
 rw [show n - i=0 by omega]
 rfl
theorem fQ {p:Nat→Bool} {n:Nat}:∀ (f i:Nat),n - i=f→i≤n→i≤fs p n i∧fs p n i≤n∧(∀ k,i≤k→k < fs p n i→p k=false)∧(fs p n i < n→p (fs p n i)=true)
 | 0,i,hf,hi=>by
  rw [vY (by omega)]
  exact ⟨hi,Nat.le_refl _,fun k h1 h2=>by omega,fun h=>by omega⟩
 | f+1,i,hf,hi=>by
  rw [lg (by omega)]
  by_cases hp:p i=true
  ·rw [if_pos hp]
   exact ⟨Nat.le_refl _,hi,fun k h1 h2=>by omega,fun _=>hp⟩
  ·rw [if_neg hp]
   obtain ⟨h1,h2,h3,h4⟩:=fQ (p:=p) (n:=n) f (i+1) (by omega) (by omega)
   exact ⟨by omega,h2,fun k g1 g2=>by
    by_cases hk:k=i
    ·subst hk; simpa using hp
    ·exact h3 k (by omega) g2,h4⟩
theorem Bq {p:Nat→Bool} {n:Nat}:∀ (d i:Nat),(∀ k,k < i+d→i≤k→p k=false)→i+d≤n→fs p n i=fs p n (i+d)
 | 0,i,_,_=>rfl
 | d+1,i,h,hn=>by
  rw [lg (by omega),if_neg (by rw [h i (by omega) (Nat.le_refl _)]; simp),Bq d (i+1) (fun k h1 h2=>h k (by omega) (by omega)) (by omega)]
  congr 1; omega
def dq (h s:List Int) (k:Nat):Bool:=decide (nB s k < nB h k)
def di (h s:List Int) (k:Nat):Bool:=decide (nB h k < nB s k)
def mvX (h s:List Int) (i j:Nat):Int:=min (nB h i - nB s i) (nB s j - nB h j)
def mvH (h:List Int) (i j:Nat) (x:Int):List Int:=(h.set i (nB h i - x)).set j (nB h j+x)
def mvs (s:List Int):Nat→List Int→List (Nat × Nat × Int)
 | 0,_=>[]
 | f+1,h =>
  let i:=fs (dq h s) s.length 0
  let j:=fs (di h s) s.length 0
  if i=s.length∨j=s.length then [] else (i,j,mvX h s i j)::mvs s f (mvH h i j (mvX h s i j))
def odd (h s:List Int):Nat:=((List.range s.length).filter fun k=>nB h k != nB s k).length
theorem pj {l:List Int} {i k:Nat} {x:Int} (hi:i < l.length):nB (l.set i x) k=if k=i then x else nB l k:=by
 unfold nB
 by_cases h:k=i
 ·subst h; rw [if_pos rfl]; simp [List.getD,hi]
 ·rw [if_neg h]; simp [List.getD,List.getElem?_set,Ne.symm h]
theorem yS {h:List Int} {i j k:Nat} {x:Int} (hi:i < h.length) (hj:j < h.length) (hij:i≠j):nB (mvH h i j x) k=if k=j then nB h j+x else if k=i then nB h i - x else nB h k:=by
 unfold mvH
 rw [pj (by simpa using hj),pj hi]
theorem yj {p q:Nat→Bool}:∀ {l:List Nat},(∀ k ∈ l,q k=true→p k=true)→(∃ k ∈ l,p k=true∧q k=false)→(l.filter q).length < (l.filter p).length
 | [],_,h=>by obtain ⟨k,hk,_⟩:=h; cases hk
 | a::l,hs,h=>by
  have hle:(l.filter q).length≤(l.filter p).length:=by
   have hs':∀ k ∈ l,q k=true→p k=true:=fun k hk=>hs k (List.mem_cons_of_mem _ hk)
   clear h hs
   induction l with
   | nil=>simp
   | cons b l ih =>
    have:=ih (fun k hk=>hs' k (List.mem_cons_of_mem _ hk))
    have hb:=hs' b (by simp)
    cases h1:q b <;> cases h2:p b <;> simp [h1,h2] at * <;> omega
  by_cases hx:p a=true∧q a=false
  ·rw [List.filter_cons_of_pos hx.1,List.filter_cons_of_neg (by rw [hx.2]; simp)]
   simp; omega
  ·obtain ⟨k,hk,h1,h2⟩:=h
   have hkl:k ∈ l:=by
    rcases List.mem_cons.1 hk with e | e
    ·subst e; exact absurd ⟨h1,h2⟩ hx
    ·exact e
   have ih:=yj (p:=p) (q:=q) (l:=l) (fun k hk=>hs k (List.mem_cons_of_mem _ hk)) ⟨k,hkl,h1,h2⟩
   have ha:=hs a (by simp)
   cases g1:q a <;> cases g2:p a <;> simp [g1,g2] at * <;> omega
theorem sc {h s:List Int} {i j:Nat} (hl:h.length=s.length) (hi:i < s.length) (hj:j < s.length) (hr:dq h s i=true) (hp:di h s j=true):odd (mvH h i j (mvX h s i j)) s < odd h s:=by
 simp only [dq,di,decide_eq_true_eq] at hr hp
 have hij:i≠j:=by rintro rfl; omega
 have e:=fun k=>yS (h:=h) (i:=i) (j:=j) (k:=k) (x:=mvX h s i j) (by omega) (by omega) hij
 unfold odd
 refine yj (fun k hk hq => ?_) ?_
 ·simp only [bne_iff_ne,ne_eq,e] at hq ⊢
  by_cases hkj:k=j
  ·subst hkj; omega
  ·rw [if_neg hkj] at hq
   by_cases hki:k=i
   ·subst hki; omega
   ·rwa [if_neg hki] at hq
 ·by_cases hm:nB h i - nB s i≤nB s j - nB h j
  ·refine ⟨i,by simpa using hi,by simp; omega, ?_⟩
   have hx:mvX h s i j=nB h i - nB s i:=Int.min_eq_left hm
   have h1:=e i
   rw [if_neg hij,if_pos rfl] at h1
   rw [h1,hx,bne_eq_false_iff_eq]
   omega
  ·refine ⟨j,by simpa using hj,by simp; omega, ?_⟩
   have hx:mvX h s i j=nB s j - nB h j:=Int.min_eq_right (by omega)
   have h1:=e j
   rw [if_pos rfl] at h1
   rw [h1,hx,bne_eq_false_iff_eq]
   omega
theorem FA {s:List Int}:∀ (f g:Nat) (h:List Int),h.length=s.length→odd h s≤f→odd h s≤g→mvs s f h=mvs s g h:=by
 have step:∀ (f:Nat) (h:List Int),h.length=s.length→odd h s≤f→mvs s f h=mvs s (f+1) h:=by
  intro f
  induction f with
  | zero =>
   intro h hl ho
   show []=_
   unfold mvs
   simp only
   rw [if_pos]
   apply Classical.byContradiction
   intro hn
   obtain ⟨n1,n2⟩:=not_or.1 hn
   have s1:=fQ (p:=dq h s) (n:=s.length) _ 0 rfl (Nat.zero_le _)
   have s2:=fQ (p:=di h s) (n:=s.length) _ 0 rfl (Nat.zero_le _)
   have:=sc hl (by omega) (by omega) (s1.2.2.2 (by omega)) (s2.2.2.2 (by omega))
   omega
  | succ f ih =>
   intro h hl ho
   show mvs s (f+1) h=mvs s (f+1+1) h
   unfold mvs
   simp only
   by_cases hc:fs (dq h s) s.length 0=s.length∨fs (di h s) s.length 0=s.length
   ·rw [if_pos hc,if_pos hc]
   ·rw [if_neg hc,if_neg hc]
    obtain ⟨n1,n2⟩:=not_or.1 hc
    have s1:=fQ (p:=dq h s) (n:=s.length) _ 0 rfl (Nat.zero_le _)
    have s2:=fQ (p:=di h s) (n:=s.length) _ 0 rfl (Nat.zero_le _)
    have:=sc hl (by omega) (by omega) (s1.2.2.2 (by omega)) (s2.2.2.2 (by omega))
    congr 1
    exact ih _ (by simpa [mvH] using hl) (by omega)
 have up:∀ (d f:Nat) (h:List Int),h.length=s.length→odd h s≤f→mvs s f h=mvs s (f+d) h:=by
  intro d
  induction d with
  | zero=>intro f h _ _; rfl
  | succ d ih=>intro f h hl ho; rw [ih f h hl ho,step (f+d) h hl (by omega)]; rfl
 intro f g h hl h1 h2
 rcases Nat.le_total f g with hh | hh
 ·obtain ⟨d,rfl⟩:=Nat.le.dest hh; exact up d f h hl h1
 ·obtain ⟨d,rfl⟩:=Nat.le.dest hh; exact (up d g h hl h2).symm
def fI (h s:List Int):List (Nat × Nat × Int):=mvs s (odd h s) h
theorem qi {h s:List Int} (hc:fs (dq h s) s.length 0=s.length∨fs (di h s) s.length 0=s.length):fI h s=[]:=by
 unfold fI
 cases odd h s with
 | zero=>rfl
 | succ f=>unfold mvs; simp only; rw [if_pos hc]
theorem yk {h s:List Int} {i j:Nat} (hl:h.length=s.length) (hi:fs (dq h s) s.length 0=i) (hj:fs (di h s) s.length 0=j) (h1:i < s.length) (h2:j < s.length) :
  fI h s=(i,j,mvX h s i j)::fI (mvH h i j (mvX h s i j)) s:=by
 have s1:=fQ (p:=dq h s) (n:=s.length) _ 0 rfl (Nat.zero_le _)
 have s2:=fQ (p:=di h s) (n:=s.length) _ 0 rfl (Nat.zero_le _)
 rw [hi] at s1
 rw [hj] at s2
 have ho:=sc hl h1 h2 (s1.2.2.2 h1) (s2.2.2.2 h2)
 unfold fI
 obtain ⟨f,hf⟩:∃ f,odd h s=f+1:=⟨odd h s - 1,by omega⟩
 rw [hf]
 conv=>lhs; unfold mvs
 simp only [hi,hj]
 rw [if_neg (by omega)]
 congr 1
 exact FA _ _ _ (by simpa [mvH] using hl) (by omega) (Nat.le_refl _)
theorem Hs {h s:List Int} {i j:Nat} (hl:h.length=s.length) (hi:i < s.length) (hj:j < s.length) (hr:dq h s i=true) (hp:di h s j=true) {k:Nat} (hk:dq h s k=false):dq (mvH h i j (mvX h s i j)) s k=false:=by
 simp only [dq,di,decide_eq_true_eq,decide_eq_false_iff_not] at *
 have hij:i≠j:=by rintro rfl; omega
 rw [yS (by omega) (by omega) hij]
 have hx:mvX h s i j≤nB s j - nB h j:=Int.min_le_right _ _
 by_cases hkj:k=j
 ·subst hkj; rw [if_pos rfl]; omega
 ·rw [if_neg hkj]
  by_cases hki:k=i
  ·subst hki; exact absurd hr hk
  ·rw [if_neg hki]; exact hk
theorem Hu {h s:List Int} {i j:Nat} (hl:h.length=s.length) (hi:i < s.length) (hj:j < s.length) (hr:dq h s i=true) (hp:di h s j=true) {k:Nat} (hk:di h s k=false):di (mvH h i j (mvX h s i j)) s k=false:=by
 simp only [dq,di,decide_eq_true_eq,decide_eq_false_iff_not] at *
 have hij:i≠j:=by rintro rfl; omega
 rw [yS (by omega) (by omega) hij]
 have hx:mvX h s i j≤nB h i - nB s i:=Int.min_le_left _ _
 by_cases hkj:k=j
 ·subst hkj; exact absurd hp hk
 ·rw [if_neg hkj]
  by_cases hki:k=i
  ·subst hki; rw [if_pos rfl]; omega
  ·rw [if_neg hki]; exact hk
theorem Hv {p:Nat→Bool} {n i:Nat} (h:∀ k,k < i→p k=false) (hi:i≤n):fs p n 0=fs p n i:=by
 have:=Bq (p:=p) (n:=n) i 0 (fun k h1 _=>h k (by omega)) (by omega)
 rwa [Nat.zero_add] at this
theorem Br {h:List Int} {i j:Nat} {x:Int}:(mvH h i j x).length=h.length:=by simp [mvH]
theorem xt {h s:List Int} {i j:Nat} (hr:dq h s i=true) (hp:di h s j=true):0 < mvX h s i j:=by
 simp only [dq,di,decide_eq_true_eq,mvX] at *
 exact Int.lt_min.2 ⟨by omega,by omega⟩
theorem Bs:∀ {l:List Int} {a r:Int},0≤a→a≤MXA→lf l a=some r→a≤r∧r≤MXA∧∀ x ∈ l,0≤x∧x≤MXA
 | [],a,r,h0,h1,h=>by cases h; exact ⟨Int.le_refl _,h1,by simp⟩
 | x::l,a,r,h0,h1,h=>by
  unfold lf at h
  split at h
  ·cases h
  ·rename_i hn
   have hx:0≤x:=by omega
   have hx2:x≤MXA - a:=by omega
   obtain ⟨h2,h3,h4⟩:=Bs (by omega) (by omega) h
   refine ⟨by omega,h3,fun y hy => ?_⟩
   rcases List.mem_cons.1 hy with e | e
   ·subst e; exact ⟨hx,by omega⟩
   ·exact h4 y e
def sd:List Int→Int→Option Int
 | [],all=>some all
 | x::l,all=>if x < 0∨x > MXA∨all+x > MXA then none else sd l (all+x)
theorem Bt:∀ (l:List Int) (a:Int),0≤a→sd l a=lf l a
 | [],_,_=>rfl
 | x::l,a,h=>by
  unfold sd lf
  by_cases hc:x < 0∨x > MXA - a
  ·rw [if_pos hc,if_pos (by omega)]
  ·rw [if_neg hc,if_neg (by omega)]
   exact Bt l _ (by omega)
def iS (A live:List Int):List Int:=live.map fun i=>jR A (i - 1).toNat
end Go.Proofs.YtgpfkmdknlcemaaGreatDoor
