import Derived.Test.YtkojimdacnohpaaGreatDoorLFr
import Derived.Test.YtkojimdacnohpaaGreatDoorLDj
import Derived.Test.YtkojimdacnohpaaGreatDoorLHa
import Derived.Test.YtkojimdacnohpaaGreatDoorLUj
import Derived.Test.YtkojimdacnohpaaGreatDoorLUb
set_option linter.unusedSimpArgs false
set_option linter.unusedVariables false
set_option maxRecDepth 20000
namespace Go.Esc.M
open Go Go.Esc
def zO (b:Bool) (p:ba):ba:={ p with ours:=b }
theorem yI (b:Bool):∀ (l:List ba) (p:ba),(gX l p).map (zO b) = gX (l.map (zO b)) (zO b p)
 | [],p=>rfl
 | q :: l,p=>by
  have ih:=yI b l p
  unfold gX
  simp only [List.map_cons]
  show _ = if p.id < q.id then _ else _
  split
  ·rfl
  ·rw [List.map_cons,ih]
theorem CJ (b:Bool) (l:List ba):(jO l).map (zO b) = jO (l.map (zO b)):=by
 have:∀ (l acc:List ba),(l.foldl gX acc).map (zO b) = (l.map (zO b)).foldl gX (acc.map (zO b)):=by
  intro l
  induction l with
  | nil=>intro acc; rfl
  | cons p l ih=>intro acc; rw [List.foldl_cons,ih,yI]; rfl
 exact this l []
theorem Al (b m:Bool) (f:aK -> Bool) (l:List aK):(hJ m f l).map (zO b) = hJ b f l:=by
 unfold hJ
 rw [List.map_map]
 rfl
theorem qZ {m:Bool} {f:aK -> Bool} {l:List aK}:∀ p ∈ jO (hJ m f l),p.ours = m:=by
 intro p hp
 have:=(uA (hJ m f l)).1.mem.1 hp
 obtain ⟨u,_,rfl⟩:=List.mem_map.1 this
 rfl
theorem Ab {b:Bool} {l:List ba} (h:∀ p ∈ l,p.ours = !b):jT b l = l.map (zO b):=by
 unfold jT
 rw [List.filter_eq_self.2 fun p hp=>by rw [h p hp]; cases b <;> rfl]
 rfl
theorem yn {b:Bool} {l:List ba} (h:∀ p ∈ l,p.ours = b):jT b l = []:=by
 unfold jT
 rw [List.filter_eq_nil_iff.2 fun p hp=>by rw [h p hp]; cases b <;> decide]
 rfl
theorem D0 (a b:List aK):oN (nJ a b) = nJ b a:=by
 have e1:=yn (b:=true) (l:=jO (hJ true (opens b) a)) qZ
 have e2:=Ab (b:=true) (l:=jO (hJ false (opens a) b)) qZ
 have e3:=Ab (b:=false) (l:=jO (hJ true (opens b) a)) qZ
 have e4:=yn (b:=false) (l:=jO (hJ false (opens a) b)) qZ
 unfold oN nJ
 rw [uw,uw,e1,e2,e3,e4,CJ,CJ,Al,Al,List.nil_append,List.append_nil]
theorem Ex (bo:Int) (a b:List aK):ml bo b a = mT bo a b:=by
 unfold ml mT
 omega
structure LQ (left:Int) (l:List ba):Prop where
 one:∀ p ∈ l,1 ≤ p.amount
 sum:(l.map (·.amount)).sum = left
 ord:∀ j p q,l[j]? = some p -> l[j + 1]? = some q -> ¬ (q.ours = true /\ p.ours = false) /\ (q.ours = p.ours -> p.id ≤ q.id)
theorem GO {bo bp:Int} {a b:List aK} (h:(foldM bo bp a b).e = 0):(∀ u ∈ a,dC u = true) /\ (∀ u ∈ b,dC u = true) /\ 0 ≤ ml bo a b /\ 0 ≤ mT bp a b /\ foldM bo bp a b = ⟨ml bo a b,mT bp a b,nJ a b,0⟩:=by
 unfold foldM at h ⊢
 split at h
 ·cases h
 ·rename_i h1
  rw [if_neg h1]
  split at h
  ·cases h
  ·rename_i h2
   rw [if_neg h2]
   refine ⟨pb ?_,pb ?_,by omega,by omega,rfl⟩
   ·cases hh:lL a with
    | true=>rfl
    | false=>exact absurd (.inl hh) h1
   ·cases hh:lL b with
    | true=>rfl
    | false=>exact absurd (.inr hh) h1
end Go.Esc.M
set_option linter.unusedSimpArgs false
set_option linter.unusedVariables false
set_option maxRecDepth 20000
namespace Go.Esc.M
open Go Go.Esc
theorem qS {α:Type} {l:List α} {n m:Nat} (h:n ≤ m):l.take n ++ (l.take m).drop n = l.take m:=by
 have:l.take n = (l.take m).take n:=by rw [List.take_take,Nat.min_eq_left h]
 rw [this,List.take_append_drop]
theorem nq (f:aK -> Bool) (a b:List aK):gm f (a ++ b) = gm f a + gm f b:=by
 unfold gm
 rw [List.filter_append,List.map_append,List.sum_append]
theorem Fj {f:aK -> Bool} {l:List aK} (h:∀ u ∈ l,0 ≤ u.amount):0 ≤ gm f l:=by
 unfold gm
 induction l with
 | nil=>simp
 | cons u l ih=>
  have ih:=ih fun x hx=>h x (by simp [hx])
  have:=h u (by simp)
  simp only [List.filter_cons]
  split
  ·simp only [List.map_cons,List.sum_cons]; omega
  ·exact ih
theorem sD {f g:aK -> Bool} {l:List aK} (h:∀ u ∈ l,0 ≤ u.amount) (hfg:∀ u ∈ l,f u = true -> g u = true):gm f l ≤ gm g l:=by
 unfold gm
 induction l with
 | nil=>simp
 | cons u l ih=>
  have ih:=ih (fun x hx=>h x (by simp [hx])) fun x hx=>hfg x (by simp [hx])
  have h1:=h u (by simp)
  have h2:=hfg u (by simp)
  simp only [List.filter_cons]
  cases hf:f u with
  | true=>rw [h2 hf]; simp; omega
  | false=>cases hg:g u <;> simp <;> omega
theorem vK {f:aK -> Bool} {l:List aK} (h:∀ u ∈ l,f u = false):gm f l = 0:=by
 unfold gm
 rw [List.filter_eq_nil_iff.2 fun u hu=>by rw [h u hu]; decide]
 rfl
theorem Bn {f:aK -> Bool} {l:List aK} (h:∀ u ∈ l,0 ≤ u.amount) (n:Nat):gm f (l.take n) ≤ gm f l:=by
 have e:gm f l = gm f (l.take n) + gm f (l.drop n):=by rw [<- nq,List.take_append_drop]
 have:=Fj (f:=f) (l:=l.drop n) fun u hu=>h u (List.mem_of_mem_drop hu)
 omega
theorem oZ {id:Int} {l:List aK} {n m:Nat} (h:n ≤ m) (h0:je id (l.take n) ≠ 0):je id (l.take m) = je id (l.take n):=by
 have e:l.take m = l.take n ++ (l.take m).drop n:=(qS h).symm
 rw [e,pQ,if_neg h0]
theorem Eh {id:Int} {l:List aK} (h:je id l ≠ 0):∃ u ∈ l,u.kind ≠ 1 /\ u.id = id:=by
 induction l with
 | nil=>exact absurd rfl h
 | cons u l ih=>
  unfold je at h
  split at h
  ·rename_i hr
   simp only [lr,Bool.and_eq_true,decide_eq_true_eq] at hr
   exact ⟨u,by simp,hr.1,hr.2.1⟩
  ·obtain ⟨w,h1,h2⟩:=ih h
   exact ⟨w,by simp [h1],h2⟩
theorem qh {u:aK} (h:dC u = true):0 ≤ u.amount:=by
 have:=(kO h).2.2
 omega
def jR (l:List aK):Nat:=(l.filter fun u=>decide (u.kind = 1)).length
theorem zB (l:List aK):jR l ≤ l.length:=List.length_filter_le _ _
theorem oU (a b:List aK):jR (a ++ b) = jR a + jR b:=by unfold jR; rw [List.filter_append,List.length_append]
def SB (base:Int) (mine others:List aK) (fm fo:Nat):Int:=base - gm (stays (others.take fo)) mine + gm (jF (mine.take fm)) others
def qy (l:List aK):Prop:=∀ j u,l[j]? = some u -> u.kind = 1 -> u.id = ((jR (l.take j):Nat):Int)
def rU (mine others:List aK) (fo:Nat):Prop:=∀ u ∈ mine,u.kind ≠ 1 -> ∃ w ∈ others.take fo,w.kind = 1 /\ w.id = u.id
structure nQ (b0 b1:Int) (l0 l1:List aK) (f0 f1:Nat):Prop where
 ok0:∀ u ∈ l0,u.ok
 ok1:∀ u ∈ l1,u.ok
 v0:∀ u ∈ l0,dC u = true
 v1:∀ u ∈ l1,dC u = true
 le0:f0 ≤ l0.length
 le1:f1 ≤ l1.length
 m0:l0.length ≤ 2048
 m1:l1.length ≤ 2048
 i0:qy l0
 i1:qy l1
 r0:rU l0 l1 f1
 r1:rU l1 l0 f0
 s0:0 ≤ SB b0 l0 l1 f0 f1
 s1:0 ≤ SB b1 l1 l0 f1 f0
 b0n:0 ≤ b0
 b1n:0 ≤ b1
 bs:b0 + b1 ≤ 1152921504606846976
theorem nQ.swap {b0 b1:Int} {l0 l1:List aK} {f0 f1:Nat} (h:nQ b0 b1 l0 l1 f0 f1):nQ b1 b0 l1 l0 f1 f0 :=
 ⟨h.ok1,h.ok0,h.v1,h.v0,h.le1,h.le0,h.m1,h.m0,h.i1,h.i0,h.r1,h.r0,h.s1,h.s0,h.b1n,h.b0n,by have:=h.bs; omega⟩
theorem Er {l:List aK} (h:qy l) {i j:Nat} {u w:aK} (hi:l[i]? = some u) (hj:l[j]? = some w) (hu:u.kind = 1) (hw:w.kind = 1) (he:u.id = w.id):i = j:=by
 have key:∀ {i j:Nat} {u w:aK},l[i]? = some u -> l[j]? = some w -> u.kind = 1 -> w.kind = 1 -> u.id = w.id -> i < j -> False:=by
  intro i j u w hi hj hu hw he hlt
  have h1:=h i u hi hu
  have h2:=h j w hj hw
  have e:l.take j = l.take (i + 1) ++ (l.take j).drop (i + 1):=(qS hlt).symm
  have h3:jR (l.take (i + 1)) = jR (l.take i) + 1:=by
   rw [List.take_add_one,hi,oU]
   simp [jR,hu]
  rw [e,oU,h3] at h2
  omega
 rcases Nat.lt_trichotomy i j with h1 | h1 | h1
 ·exact (key hi hj hu hw he h1).elim
 ·exact h1
 ·exact (key hj hi hw hu he.symm h1).elim
theorem Gr {mine others:List aK} {fm fo m:Nat} (hi:qy others) (hr:rU mine others fo) (hm:fo ≤ m):∀ u ∈ others.drop m,jF (mine.take fm) u = false:=by
 intro u hu
 cases hp:jF (mine.take fm) u with
 | false=>rfl
 | true=>
  exfalso
  simp only [jF,Bool.and_eq_true,decide_eq_true_eq] at hp
  obtain ⟨x,hx,hx1,hx2⟩:=Eh (by rw [hp.2]; decide:je u.id (mine.take fm) ≠ 0)
  obtain ⟨w,hw,hw1,hw2⟩:=hr x (List.mem_of_mem_take hx) hx1
  obtain ⟨i,hi1⟩:=List.getElem?_of_mem hw
  obtain ⟨j,hj1⟩:=List.getElem?_of_mem hu
  have hil:i < fo:=by
   have:=(List.getElem?_eq_some_iff.1 hi1).1
   rw [List.length_take] at this
   omega
  rw [List.getElem?_take_of_lt hil] at hi1
  rw [List.getElem?_drop] at hj1
  have:=Er hi hi1 hj1 hw1 hp.1 (by rw [hw2,hx2])
  omega
theorem FJ {base:Int} {mine others:List aK} {fm fo n m:Nat} (v0:∀ u ∈ mine,dC u = true) (v1:∀ u ∈ others,dC u = true) (hi:qy others) (hr:rU mine others fo) (hn:fm ≤ n) (hm:fo ≤ m) :
  SB base mine others fm fo ≤ ml base (mine.take n) (others.take m):=by
 unfold SB ml
 have h1:gm (stays (others.take m)) (mine.take n) ≤ gm (stays (others.take fo)) mine:=by
  refine Int.le_trans (sD (fun u hu=>qh (v0 u (List.mem_of_mem_take hu))) fun u hu hs=>?_) (Bn (fun u hu=>qh (v0 u hu)) n)
  simp only [stays,Bool.and_eq_true,decide_eq_true_eq,Bool.not_eq_true',decide_eq_false_iff_not] at hs ⊢
  refine ⟨hs.1,fun h3=>hs.2 ?_⟩
  rw [oZ hm (by rw [h3]; decide),h3]
 have h2:gm (jF (mine.take fm)) others ≤ gm (jF (mine.take n)) (others.take m):=by
  have e:gm (jF (mine.take fm)) others = gm (jF (mine.take fm)) (others.take m) + gm (jF (mine.take fm)) (others.drop m):=by rw [<- nq,List.take_append_drop]
  rw [e,vK (Gr hi hr hm),Int.add_zero]
  refine sD (fun u hu=>qh (v1 u (List.mem_of_mem_take hu))) fun u hu hs=>?_
  simp only [jF,Bool.and_eq_true,decide_eq_true_eq] at hs ⊢
  refine ⟨hs.1,?_⟩
  rw [oZ hn (by rw [hs.2]; decide),hs.2]
 omega
theorem nQ.taken {b0 b1:Int} {l0 l1:List aK} {f0 f1:Nat} (h:nQ b0 b1 l0 l1 f0 f1) {n m:Nat} (hn:f0 ≤ n) (hn2:n ≤ l0.length) (hm:f1 ≤ m) (hm2:m ≤ l1.length):(k8 b0 b1 l0 l1 n m).e = 0 /\ k8 b0 b1 l0 l1 n m = foldM b0 b1 (l0.take n) (l1.take m):=by
 have e:k8 b0 b1 l0 l1 n m = foldM b0 b1 (l0.take n) (l1.take m):=by
  unfold k8
  rw [if_pos ⟨⟨by omega,by omega,by omega,by omega⟩,⟨h.b0n,by have:=h.bs; have:=h.b1n; omega⟩,⟨h.b1n,by have:=h.bs; have:=h.b0n; omega⟩,by have:=h.b0n; have:=h.b1n; omega,h.bs⟩]
  rfl
 refine ⟨?_,e⟩
 rw [e]
 have h0:=FJ (base:=b0) h.v0 h.v1 h.i1 h.r0 hn hm
 have h1:=FJ (base:=b1) h.v1 h.v0 h.i0 h.r1 hm hn
 have g0:=h.s0
 have g1:=h.s1
 rw [Ex] at h1
 have a0:lL (l0.take n) = true:=List.all_eq_true.2 fun u hu=>h.v0 u (List.mem_of_mem_take hu)
 have a1:lL (l1.take m) = true:=List.all_eq_true.2 fun u hu=>h.v1 u (List.mem_of_mem_take hu)
 unfold foldM
 rw [if_neg (by rw [a0,a1]; simp),if_neg (by omega)]
theorem FX {b0 b1:Int} {l0 l1:List aK} {f0 f1:Nat} (h:nQ b0 b1 l0 l1 f0 f1):SB b0 l0 l1 f0 f1 ≤ b0 + b1:=by
 have h1:=pN (l1.take f1) l0
 have h2:=pN (l0.take f0) l1
 have h3:=q8 (r:=l1.take f1) h.v0
 have h4:=q8 (r:=l0.take f0) h.v1
 have h5:=h.s1
 unfold SB at h5 ⊢
 omega
theorem lO (l:List aK) (u:aK) {n:Nat} (h:n ≤ l.length):(l ++ [u]).take n = l.take n:=by
 rw [List.take_append_of_le_length h]
theorem De {l:List aK} {u:aK} (h:qy l) (hu:u.kind = 1 -> u.id = ((jR l:Nat):Int)):qy (l ++ [u]):=by
 intro j w hj hw
 by_cases hjl:j < l.length
 ·rw [List.getElem?_append_left hjl] at hj
  rw [lO l u (by omega)]
  exact h j w hj hw
 ·have hb:=(List.getElem?_eq_some_iff.1 hj).1
  rw [List.length_append,List.length_singleton] at hb
  have:j = l.length:=by omega
  subst this
  rw [List.getElem?_append_right (by omega)] at hj
  simp at hj
  subst hj
  rw [lO l u (Nat.le_refl _),List.take_length]
  exact hu hw
theorem Aj {mine others:List aK} {fo:Nat} {u:aK} (h:rU mine others fo) (hu:u.kind ≠ 1 -> ∃ w ∈ others.take fo,w.kind = 1 /\ w.id = u.id):rU (mine ++ [u]) others fo:=by
 intro x hx hk
 rcases List.mem_append.1 hx with hx | hx
 ·exact h x hx hk
 ·rw [List.mem_singleton.1 hx] at hk ⊢
  exact hu hk
theorem qt {α:Type} {Pr:α -> Prop} {l:List α} {u:α} (h:∀ x ∈ l,Pr x) (hu:Pr u):∀ x ∈ l ++ [u],Pr x:=by
 intro x hx
 rcases List.mem_append.1 hx with hx | hx
 ·exact h x hx
 ·rw [List.mem_singleton.1 hx]; exact hu
theorem nQ.add {b0 b1:Int} {l0 l1:List aK} {f0 f1:Nat} (h:nQ b0 b1 l0 l1 f0 f1) (hl:l0.length < 2048) {u:aK} (hk:u.kind = 1) (hid:u.id = ((jR l0:Nat):Int)) (ho:u.ok) (hv:dC u = true) (ha:u.amount ≤ SB b0 l0 l1 f0 f1):nQ b0 b1 (l0 ++ [u]) l1 f0 f1:=by
 have hnn:=qh hv
 refine ⟨qt h.ok0 ho,h.ok1,qt h.v0 hv,h.v1,by rw [List.length_append]; have:=h.le0; omega,h.le1,by rw [List.length_append,List.length_singleton]; omega,h.m1,De h.i0 fun _=>hid,h.i1,Aj h.r0 fun hh=>absurd hk hh,?_,?_,?_,h.b0n,h.b1n,h.bs⟩
 ·rw [rU,lO l0 u h.le0]; exact h.r1
 ·unfold SB at ha ⊢
  rw [lO l0 u h.le0,nq]
  have:gm (stays (l1.take f1)) [u] ≤ u.amount:=by
   unfold gm
   simp only [List.filter_cons,List.filter_nil]
   split
   ·simp
   ·simp; exact hnn
  omega
 ·have h1:=h.s1
  unfold SB at h1 ⊢
  rw [lO l0 u h.le0,nq]
  have:=Fj (f:=jF (l1.take f1)) (l:=[u]) fun x hx=>by rw [List.mem_singleton.1 hx]; exact hnn
  omega
theorem nQ.rem {b0 b1:Int} {l0 l1:List aK} {f0 f1:Nat} (h:nQ b0 b1 l0 l1 f0 f1) (hl:l0.length < 2048) {u:aK} (hk:u.kind ≠ 1) (hr:∃ w ∈ l1.take f1,w.kind = 1 /\ w.id = u.id) (ho:u.ok) (hv:dC u = true):nQ b0 b1 (l0 ++ [u]) l1 f0 f1:=by
 refine ⟨qt h.ok0 ho,h.ok1,qt h.v0 hv,h.v1,by rw [List.length_append]; have:=h.le0; omega,h.le1,by rw [List.length_append,List.length_singleton]; omega,h.m1,De h.i0 fun hh=>absurd hh hk,h.i1,Aj h.r0 fun _=>hr,?_,?_,?_,h.b0n,h.b1n,h.bs⟩
 ·rw [rU,lO l0 u h.le0]; exact h.r1
 ·have h1:=h.s0
  unfold SB at h1 ⊢
  rw [lO l0 u h.le0,nq,vK (l:=[u]) fun x hx=>by rw [List.mem_singleton.1 hx]; simp [stays,hk]]
  omega
 ·have h1:=h.s1
  unfold SB at h1 ⊢
  rw [lO l0 u h.le0,nq,vK (l:=[u]) fun x hx=>by rw [List.mem_singleton.1 hx]; simp [jF,hk]]
  omega
theorem nQ.fix {b0 b1:Int} {l0 l1:List aK} {f0 f1 g:Nat} (h:nQ b0 b1 l0 l1 f0 f1) (hg:f0 ≤ g) (hg2:g ≤ l0.length):nQ b0 b1 l0 l1 g f1:=by
 refine ⟨h.ok0,h.ok1,h.v0,h.v1,hg2,h.le1,h.m0,h.m1,h.i0,h.i1,h.r0,?_,?_,?_,h.b0n,h.b1n,h.bs⟩
 ·intro u hu hk
  obtain ⟨w,hw,h1⟩:=h.r1 u hu hk
  refine ⟨w,?_,h1⟩
  rw [<- qS hg]
  exact List.mem_append.2 (.inl hw)
 ·have h1:=h.s0
  unfold SB at h1 ⊢
  have:=sD (f:=jF (l0.take f0)) (g:=jF (l0.take g)) (l:=l1) (fun u hu=>qh (h.v1 u hu)) fun u hu hs=>by
   simp only [jF,Bool.and_eq_true,decide_eq_true_eq] at hs ⊢
   refine ⟨hs.1,?_⟩
   rw [oZ hg (by rw [hs.2]; decide),hs.2]
  omega
 ·have h1:=h.s1
  unfold SB at h1 ⊢
  have:=sD (f:=stays (l0.take g)) (g:=stays (l0.take f0)) (l:=l1) (fun u hu=>qh (h.v1 u hu)) fun u hu hs=>by
   simp only [stays,Bool.and_eq_true,decide_eq_true_eq,Bool.not_eq_true',decide_eq_false_iff_not] at hs ⊢
   refine ⟨hs.1,fun h3=>hs.2 ?_⟩
   rw [oZ hg (by rw [h3]; decide),h3]
  omega
theorem CI {base:Int} {mine others:List aK} {fm fo:Nat} (v0:∀ u ∈ mine,dC u = true) (v1:∀ u ∈ others,dC u = true) (hb:0 ≤ base) (hb2:base ≤ 1152921504606846976) :
  Bq base mine others fm fo = Dm (SB base mine others fm fo):=by
 unfold Bq
 rw [if_neg (by omega)]
 have h1:(qE (Bm others fo) mine).sum = gm (stays (others.take fo)) mine:=by
  unfold qE gm
  congr 2
  refine List.filter_congr fun u hu=>?_
  rw [v0 u hu]
  simp [stays,Bm,dP]
  rfl
 have h2:(qE (Bl mine fm) others).sum = gm (jF (mine.take fm)) others:=by
  unfold qE gm
  congr 2
  refine List.filter_congr fun u hu=>?_
  rw [v1 u hu]
  simp [jF,Bl,dP]
  rfl
 have h3:KR base = base:=by unfold KR; rw [if_neg (by omega)]
 rw [h1,h2,h3]
 rfl
end Go.Esc.M
set_option linter.unusedSimpArgs false
set_option linter.unusedVariables false
set_option maxRecDepth 20000
namespace Go.Esc.M
open Go Go.Esc
section
variable {F0:List AId} {G0 G:ah} {ps:List LP} {Q:ag -> ah -> Prop}
end
end Go.Esc.M
set_option linter.unusedSimpArgs false
set_option linter.unusedVariables false
set_option maxRecDepth 20000
namespace Go.Esc.M
open Go Go.Esc
theorem Fi (a b:Int):(sC 0 [a,b]).2 = 0 ↔ amt a /\ amt b /\ amt (a + b):=by
 have h0:right 0 = true:=by decide
 unfold amt
 simp only [sC,plus,h0,Bool.true_and,Int.zero_add]
 cases ha:right a with
 | false=>
  have:¬ (0 ≤ a /\ a ≤ 1152921504606846976):=by simpa [right] using ha
  simp
  omega
 | true=>
  have h1:=kR.1 ha
  cases hb:right b with
  | false=>
   have:¬ (0 ≤ b /\ b ≤ 1152921504606846976):=by simpa [right] using hb
   simp [ha,h1.1,h1.2]
   omega
  | true=>
   have h2:=kR.1 hb
   cases hc:right (a + b) with
   | false=>
    have:¬ (0 ≤ a + b /\ a + b ≤ 1152921504606846976):=by simpa [right] using hc
    simp [ha,hc,h1.1,h1.2,h2.1,h2.2]
    omega
   | true=>
    have h3:=kR.1 hc
    simp [ha,hc,h1.1,h1.2,h2.1,h2.2,h3.1,h3.2]
theorem AG {bo bp:Int} {a b:List aK} (h:lL a = false \/ lL b = false):foldM bo bp a b = .no 120:=if_pos h
theorem AF {bo bp:Int} {a b:List aK} (h:¬ (lL a = false \/ lL b = false)) (h2:ml bo a b < 0 \/ mT bp a b < 0):foldM bo bp a b = .no 130:=by
 unfold foldM
 rw [if_neg h,if_pos h2]
theorem zg {bo bp:Int} {a b:List aK} (h:¬ (lL a = false \/ lL b = false)) (h2:¬ (ml bo a b < 0 \/ mT bp a b < 0)):foldM bo bp a b = ⟨ml bo a b,mT bp a b,nJ a b,0⟩:=by
 unfold foldM
 rw [if_neg h,if_neg h2]
theorem Jr (a b c:ag):aW (.tuple [a,b,c]) 0 = some a:=rfl
theorem Jq (a b c:ag):aW (.tuple [a,b,c]) 1 = some b:=rfl
theorem Jp (a b c:ag):aW (.tuple [a,b,c]) 2 = some c:=rfl
section
variable {F0:List AId} {G0 G:ah} {ps:List LP} {Q:ag -> ah -> Prop}
theorem CQ {l:List ba} (h:∀ p ∈ l,p.ok):Esc.uni 35 (l.map ba.av) = true /\ kT (l.map ba.av) = true:=by
 refine ⟨by simp only [Esc.uni,List.all_map,List.all_eq_true]; intro p hp; simp [ba.sz (h p hp)],?_⟩
 clear h
 induction l with
 | nil=>rfl
 | cons p l ih=>simp [kT,ba.okv,ih]
theorem AD {i:Nat} {v x:ag} {l l':List ba} {K:ag -> ah -> Prop} (hs:Sp F0 G0 ps G) (hi:ps[i]? = some (bj 35 v (l.map ba.av))) (hx:fV 35 G x (l'.map ba.av)) (ho:∀ u ∈ l',u.ok) (hl:(l.length + l'.length) * 56 ≤ 140737488355328) (hK:∀ v' G',Sp F0 G0 (ps.set i (bj 35 v' ((l ++ l').map ba.av))) G' -> K v' G') :
  cc T G aq aq v x K:=by
 have hb:eB.bytes = 56:=rfl
 refine wZ (si:=bU) (ie:=eB) cq rfl fk rfl (by decide) cq (.inr ⟨_,rfl⟩) hs hi hx.elems (CQ ho).1 (CQ ho).2 (by rw [hb,List.length_map,List.length_map]; exact hl) fun s' G' h=>hK s' G' ?_
 rw [List.map_append]
 exact h
set_option maxHeartbeats 8000000 in
theorem gP.use {v w:ag} {bo bp co cp:Int} {ours jA:List aK} (hl:iu 36 G v (ours.map aK.av)) (hp:iu 36 G w (jA.map aK.av)) (hok:∀ u ∈ ours,u.ok) (hok2:∀ u ∈ jA,u.ok) (hlen:ours.length ≤ 1048576) (hlen2:jA.length ≤ 1048576)
  (hQ:∀ x G',Sp [] G [bj 35 x ((k8 bo bp ours jA co cp).l.map ba.av)] G' -> Q (.tuple [gn (k8 bo bp ours jA co cp).o (k8 bo bp ours jA co cp).q x,.int .i64 (k8 bo bp ours jA co cp).e]) G') :
  al P gP.n [.int .i64 bo,.int .i64 bp,v,w,bR co cp] G Q:=by
 refine gP.sound ?_
 unfold gP.S
 rw [Jh,E0]
 obtain ⟨F,hF⟩:∃ F,F = k8 bo bp ours jA co cp:=⟨_,rfl⟩
 rw [<- hF] at hQ
 intro i1 f1
 have s1:=(Sp.nil G).row f1 (bR co cp)
 intro i3 f3
 have s3:=s1.row f3 (gn 0 0 .nilSlice)
 revert s3
 generalize ah.upd _ i3 _ = G4
 intro s3 J99
 have no:∀ (e:Int) (G2:ah) (j:Nat) (ps:List LP),Sp [] G ps G2 -> ps[j]? = some (ar i3 (gn 0 0 .nilSlice)) -> F = .no e -> wv (bk T bc []) fun v17=>wg (ax T G2 bc (.ptr i3 [] 0) v17) fun G18=>wv (af T G18 bc (.ptr i3 [] 0)) fun v19=>Q (.tuple [v19,.int .i64 e]) G18:=by
  intro e G2 j ps s hj he
  refine ae (v:=gn 0 0 .nilSlice) rfl ?_
  refine my (i:=j) s hj rfl qp fun G18 s18=>?_
  refine ae (ig (i:=j) s18 (by rw [List.getElem?_set_self (List.getElem?_eq_some_iff.1 hj).1]) qp).2.2.2 ?_
  have:=hQ .nilSlice G18
  rw [he] at this
  exact this (((Sp.nil G).tmp s18.ch).nd 35)
 have bad:¬ inC co cp ours jA -> J99 (.bool true) G4:=by
  intro h
  simp -zeta only [J99,aX]
  exact no 1 G4 0 _ s3 rfl (by rw [hF]; unfold k8; rw [if_neg fun hh=>h hh.1])
 have kA:inC co cp ours jA -> J99 (.bool false) G4:=by
  intro hC
  simp -zeta only [J99,aM]
  refine FR (T:=T) (ts:=nW) (e:=ai) (si:=nj) (ie:=jy) (a:=.int .i64 bo) (b:=.int .i64 bp) uh rfl cA rfl s3 rfl rfl (by decide) fun v20 G21 s21=>?_
  refine iz.use (xs:=[bo,bp]) (bj.own (i:=0) s21 rfl).is (by simp) ?_
  refine ae (Kh _) ?_
  refine ae (Kg _) ?_
  rw [dy,aa,fg]
  refine ⟨fun h=>no 1 G21 1 _ s21 rfl (by rw [hF]; unfold k8; rw [if_neg fun hh=>h ((Fi bo bp).2 hh.2)]),fun h=>?_⟩
  have hA:=(Fi bo bp).1 h
  have hFM:F = foldM bo bp (ours.take co.toNat) (jA.take cp.toNat):=by rw [hF]; unfold k8; rw [if_pos ⟨hC,hA⟩]
  obtain ⟨c1,c2,c3,c4⟩:=hC
  obtain ⟨l1,l2,_⟩:=kU (ar.own (i:=2) s21 rfl)
  refine ae l1 ?_
  obtain ⟨va,ea,ca⟩:=iu.take (ie:=dA) (k:=.i64) (m:=co.toNat) (x:=co) cn rfl fC hl (by omega) (by rw [List.length_map]; omega)
  refine ae ea ?_
  refine ae l2 ?_
  obtain ⟨vb,eb,cb⟩:=iu.take (ie:=dA) (k:=.i64) (m:=cp.toNat) (x:=cp) cn rfl fC hp (by omega) (by rw [List.length_map]; omega)
  refine ae eb ?_
  rw [<- List.map_take] at ca cb
  obtain ⟨A,hAd⟩:∃ A,A = ours.take co.toNat:=⟨_,rfl⟩
  obtain ⟨B,hBd⟩:∃ A,A = jA.take cp.toNat:=⟨_,rfl⟩
  rw [<- hAd] at ca hFM
  rw [<- hBd] at cb hFM
  have okA:∀ u ∈ A,u.ok:=by rw [hAd]; exact fun u hu=>hok u (List.mem_of_mem_take hu)
  have okB:∀ u ∈ B,u.ok:=by rw [hBd]; exact fun u hu=>hok2 u (List.mem_of_mem_take hu)
  have lA:A.length ≤ 1048576:=by rw [hAd,List.length_take]; omega
  have lB:B.length ≤ 1048576:=by rw [hBd,List.length_take]; omega
  have iA:fV 36 G va (A.map aK.av):=ca.jf
  have iB:fV 36 G vb (B.map aK.av):=cb.jf
  intro J98
  have s21:Sp [] G [bj 1 v20 [.int .i64 bo,.int .i64 bp],ar i3 (gn 0 0 .nilSlice),ar i1 (bR co cp)] G21:=s21
  have bad2:∀ G2,Sp [] G [bj 1 v20 [.int .i64 bo,.int .i64 bp],ar i3 (gn 0 0 .nilSlice),ar i1 (bR co cp)] G2 -> (lL A = false \/ lL B = false) -> J98 (.bool true) G2:=by
   intro G2 s2 h
   simp -zeta only [J98,aX]
   exact no 120 G2 1 _ s2 rfl (by rw [hFM,AG h])
  have good2:∀ G2,Sp [] G [bj 1 v20 [.int .i64 bo,.int .i64 bp],ar i3 (gn 0 0 .nilSlice),ar i1 (bR co cp)] G2 -> ¬ (lL A = false \/ lL B = false) -> J98 (.bool false) G2:=by
   intro G2 s2 h
   have vA:lL A = true:=by
    cases hh:lL A with
    | true=>rfl
    | false=>exact absurd (.inl hh) h
   have vB:lL B = true:=by
    cases hh:lL B with
    | true=>rfl
    | false=>exact absurd (.inr hh) h
   have aA:=pb vA
   have aB:=pb vB
   simp -zeta only [J98,aM]
   refine eF.use (iB.ch' s2.ch) okB lB fun mid1 es1 G44 hes1 t44=>?_
   obtain ⟨F44,o44,k44⟩:=t44.out
   have s44:=s2.new o44 k44
   refine ae (v:=bR 0 0) rfl ?_
   refine cR.use (n:=0) ⟨by decide,by decide,by decide,by decide⟩ (by decide) hA.1 fun u0 l0 G47 c47 hw0 ht0=>?_
   have s47:=s44.tmp c47
   refine ae (v:=bR 0 0) rfl ?_
   refine cR.use (n:=0) ⟨by decide,by decide,by decide,by decide⟩ (by decide) hA.2.1 fun u1 l1 G50 c50 hw1 ht1=>?_
   have s50:=s47.tmp c50
   have ht0:om u0 l0 = bo:=by rw [ht0]; unfold om; omega
   have ht1:om u1 l1 = bp:=by rw [ht1]; unfold om; omega
   refine gD.use (n:=0 + 1) (iA.ch' s50.ch) okA aA lA (mX.own (i:=0) s50 rfl) hes1 hw0 hw1 (by decide) fun a b d e w1 G52 x1 x2 y1 y2 t52=>?_
   obtain ⟨F52,o52,k52⟩:=t52.out
   have s52:=s50.new o52 k52
   rw [ht0] at y1
   rw [ht1] at y2
   refine ae (Jr _ _ _) ?_
   refine ae (Jq _ _ _) ?_
   refine ae (Jp _ _ _) ?_
   intro i56 f56
   have s57:=s52.row f56 (bR 0 0)
   intro i58 f58
   have s59:=s57.row f58 (bR 0 0)
   refine kN (i:=1) s59 rfl fun G60 s60=>?_
   refine kN (i:=0) s60 rfl fun G61 s61=>?_
   have s61:Sp [] G [ar i58 (bR d e),ar i56 (bR a b),bj 35 w1 ((jO (hJ true (opens B) A)).map ba.av),mX mid1 (oR es1),bj 1 v20 [.int .i64 bo,.int .i64 bp],ar i3 (gn 0 0 .nilSlice),ar i1 (bR co cp)] G61:=s61
   refine ae (dD (ar.own (i:=0) s61 rfl) fG rfl).2.2 ?_
   refine ae (dD (ar.own (i:=1) s61 rfl) fG rfl).2.2 ?_
   refine eF.use (iA.ch' s61.ch) okA lA fun mid2 es2 G65 hes2 t65=>?_
   obtain ⟨F65,o65,k65⟩:=t65.out
   have s65:=s61.new o65 k65
   refine ⟨⟨(dD (ar.own (i:=2) s65 rfl) fG rfl).2.2,(dD (ar.own (i:=1) s65 rfl) fG rfl).2.2,trivial⟩,?_⟩
   refine gD.use (n:=0 + 1 + A.length) (iB.ch' s65.ch) okB aB lB (mX.own (i:=0) s65 rfl) hes2 x2 x1 (by omega) fun a2 b2 d2 e2 w2 G67 z1 z2 q1 q2 t67=>?_
   obtain ⟨F67,o67,k67⟩:=t67.out
   have s67:=s65.new o67 k67
   rw [y2] at q1
   rw [y1] at q2
   refine ae (Jr _ _ _) ?_
   refine ae (Jq _ _ _) ?_
   refine ae (Jp _ _ _) ?_
   refine kN (i:=2) s67 rfl fun G71 s71=>?_
   refine kN (i:=3) s71 rfl fun G72 s72=>?_
   have s72:Sp [] G [bj 35 w2 ((jO (hJ false (opens A) B)).map ba.av),mX mid2 (oR es2),ar i58 (bR a2 b2),ar i56 (bR d2 e2),bj 35 w1 ((jO (hJ true (opens B) A)).map ba.av),mX mid1 (oR es1),bj 1 v20 [.int .i64 bo,.int .i64 bp],ar i3 (gn 0 0 .nilSlice),ar i1 (bR co cp)] G72:=s72
   have qX:om d2 e2 = ml bo A B:=by rw [q2]; unfold ml; omega
   have qY:om a2 b2 = mT bp A B:=by rw [q1]; unfold mT; omega
   refine ae (dD (ar.own (i:=3) s72 rfl) fG rfl).2.2 ?_
   refine ae (dD (ar.own (i:=2) s72 rfl) fG rfl).2.2 ?_
   refine cZ.use z2 (by omega) fun G76 c76=>?_
   have s76:=s72.tmp c76
   refine ⟨⟨(dD (ar.own (i:=2) s76 rfl) fG rfl).2.2,trivial⟩,?_⟩
   refine cZ.use z1 (by omega) fun G78 c78=>?_
   have s78:=s76.tmp c78
   rw [qX,qY]
   have hlo:=vZ A B
   unfold nJ at hlo
   rw [List.length_append] at hlo
   refine AD (i:=4) s78 rfl (bj.own (i:=0) s78 rfl).is (rQ (qm okB)) (by omega) fun w3 G80 s80=>?_
   have s80:Sp [] G [bj 35 w2 ((jO (hJ false (opens A) B)).map ba.av),mX mid2 (oR es2),ar i58 (bR a2 b2),ar i56 (bR d2 e2),bj 35 w3 ((nJ A B).map ba.av),mX mid1 (oR es1),bj 1 v20 [.int .i64 bo,.int .i64 bp],ar i3 (gn 0 0 .nilSlice),ar i1 (bR co cp)] G80:=s80
   have lw3:=(bj.own (i:=4) s80 rfl).leaf
   refine ae (AQ lw3.1) ?_
   intro i82 f82
   have s83:=s80.row f82 (gn 0 0 .nilSlice)
   refine my (i:=0) s83 rfl rfl lw3 fun G84 s84=>?_
   have s84:Sp [] G [ar i82 (gn (pY (ml bo A B)) (pY (mT bp A B)) w3),bj 35 w2 ((jO (hJ false (opens A) B)).map ba.av),mX mid2 (oR es2),ar i58 (bR a2 b2),ar i56 (bR d2 e2),bj 35 w3 ((nJ A B).map ba.av),mX mid1 (oR es1),bj 1 v20 [.int .i64 bo,.int .i64 bp],ar i3 (gn 0 0 .nilSlice),ar i1 (bR co cp)] G84:=s84
   obtain ⟨X,hX⟩:∃ X,X = ml bo A B:=⟨_,rfl⟩
   obtain ⟨Y,hY⟩:∃ Y,Y = mT bp A B:=⟨_,rfl⟩
   have hfl:=BS (bo:=bo) (bp:=bp) aA aB hA.2.2.2
   have hlow:=AF (bo:=bo) (bp:=bp) h
   have hfine:=zg (bo:=bo) (bp:=bp) h
   rw [<- hX,<- hY] at s84 hfl hlow hfine
   intro J97
   have low:(X < 0 \/ Y < 0) -> J97 (.bool true) G84:=by
    intro hh
    simp -zeta only [J97,aX]
    exact no 130 G84 8 _ s84 rfl (by rw [hFM,hlow hh])
   have fine:¬ (X < 0 \/ Y < 0) -> J97 (.bool false) G84:=by
    intro hh
    simp -zeta only [J97,aM]
    have eX:=(qL (t:=X) (by omega) (hfl.1 (by omega))).1
    have eY:=(qL (t:=Y) (by omega) (hfl.2 (by omega))).1
    rw [eX,eY] at s84
    refine ae (ig (i:=0) s84 rfl lw3).2.2.2 ?_
    refine my (i:=8) s84 rfl rfl lw3 fun G95 s95=>?_
    refine ae (ig (i:=8) s95 rfl lw3).2.2.2 ?_
    have hF2:F = ⟨X,Y,nJ A B,0⟩:=by rw [hFM,hfine hh]
    rw [hF2] at hQ
    refine hQ w3 G95 ?_
    exact ((((((((s95.erase 0).erase 0).erase 0).erase 0).erase 0).erase 1).erase 1).erase 1).erase 1
   refine ae (ig (i:=0) s84 rfl lw3).1 ?_
   rw [aH,aa]
   by_cases h1:pY X < 0
   ·rw [decide_eq_true h1,aX]
    exact low (.inl ((sr X).1 h1))
   ·rw [decide_eq_false h1,aM]
    refine ae (ig (i:=0) s84 rfl lw3).2.1 ?_
    rw [aH,aa]
    by_cases h2:pY Y < 0
    ·rw [decide_eq_true h2]
     exact low (.inr ((sr Y).1 h2))
    ·rw [decide_eq_false h2]
     exact fine fun hh=>hh.elim (fun q=>h1 ((sr X).2 q)) (fun q=>h2 ((sr Y).2 q))
  refine contains.use (iA.ch' s21.ch) okA lA fun G35 c35=>?_
  have s35:=s21.tmp c35
  cases vA:lL A with
  | false=>exact bad2 _ s35 (.inl vA)
  | true=>
   rw [Bool.not_true,aM]
   refine contains.use (iB.ch' s35.ch) okB lB fun G37 c37=>?_
   have s37:=s35.tmp c37
   cases vB:lL B with
   | false=>exact bad2 _ s37 (.inr vB)
   | true=>exact good2 _ s37 (by rw [vA,vB]; simp)
 obtain ⟨l1,l2,_⟩:=kU (ar.own (i:=1) s3 rfl)
 refine ae l1 ?_
 rw [aH,aa,aE]
 refine ⟨fun h=>bad fun hh=>by have:=hh.1; omega,fun h1=>?_⟩
 refine ae l1 ?_
 refine ae (fy (hl.jf.ch' s3.ch)) ?_
 rw [de,aa,aE]
 refine ⟨fun h=>bad fun hh=>by have:=hh.2.1; omega,fun h2=>?_⟩
 refine ae l2 ?_
 rw [aH,aa,aE]
 refine ⟨fun h=>bad fun hh=>by have:=hh.2.2.1; omega,fun h3=>?_⟩
 refine ae l2 ?_
 refine ae (fy (hp.jf.ch' s3.ch)) ?_
 rw [de,aa]
 by_cases h4:(jA.length:Int) < cp
 ·rw [decide_eq_true h4]
  exact bad fun hh=>by have:=hh.2.2.2; omega
 ·rw [decide_eq_false h4]
  exact kA ⟨by omega,by omega,by omega,by omega⟩
end
end Go.Esc.M
set_option linter.unusedSimpArgs false
set_option linter.unusedVariables false
set_option maxRecDepth 20000
namespace Go.Esc.M
open Go Go.Esc
theorem ur (t:Int):t / 1152921504606846976 < 0 ↔ t < 0:=by omega
theorem uC {f:aK -> Bool} {l:List aK} (hv:∀ u ∈ l,dC u = true) (hf:∀ u,f u = true -> u.kind = 1) (hlen:l.length ≤ 1048576):0 ≤ gm f l /\ gm f l ≤ 1208925819614629174706176:=by
 have:=qU (f:=f) (l:=l) fun u hu h=>by
  have h1:=(kO (hv u hu)).2.2
  have h2:=hf u h
  constructor <;> omega
 omega
theorem Fl {r:List aK} (u:aK) (h:stays r u = true):u.kind = 1:=by simp [stays] at h; exact h.1
theorem H4 {r:List aK} (u:aK) (h:jF r u = true):u.kind = 1:=by simp [jF] at h; exact h.1
section
variable {F0:List AId} {G0 G:ah} {ps:List LP} {Q:ag -> ah -> Prop}
theorem cm.use {a:Int} (hQ:Q (.bool (decide (amt a))) G):al P cm.n [.int .i64 a] G Q:=by
 refine cm.sound ?_
 unfold cm.S
 rw [gq,aa,aE]
 refine ⟨fun h=>?_,fun h=>?_⟩
 ·rw [jl,aa]
  have e:decide (amt a) = decide (a ≤ 1152921504606846976):=decide_eq_decide.2 ⟨fun hh=>hh.2,fun hh=>⟨h,hh⟩⟩
  rw [e] at hQ
  exact hQ
 ·have e:decide (amt a) = false:=decide_eq_false fun hh=>h hh.1
  rw [e] at hQ
  exact hQ
set_option maxHeartbeats 8000000 in
theorem dI.use {v w:ag} {bo bp co cp:Int} {ours jA:List aK} (hl:iu 36 G v (ours.map aK.av)) (hp:iu 36 G w (jA.map aK.av)) (hok:∀ u ∈ ours,u.ok) (hok2:∀ u ∈ jA,u.ok) (hlen:ours.length ≤ 1048576) (hlen2:jA.length ≤ 1048576)
  (hQ:∀ x G',Sp [] G [bj 35 x ((k8 bo bp ours jA co cp).l.map ba.av)] G' -> Q (.tuple [gn (k8 bo bp ours jA co cp).o (k8 bo bp ours jA co cp).q x,.int .i64 (k8 bo bp ours jA co cp).e]) G') :
  al P dI.n [.int .i64 bo,.int .i64 bp,v,w,bR co cp] G Q:=by
 refine dI.sound ?_
 unfold dI.S
 rw [Jh,xK]
 obtain ⟨F,hF⟩:∃ F,F = k8 bo bp ours jA co cp:=⟨_,rfl⟩
 rw [<- hF] at hQ
 intro i1 f1
 have s1:=(Sp.nil G).row f1 (bR co cp)
 intro i3 f3
 have s3:=s1.row f3 (gn 0 0 .nilSlice)
 revert s3
 generalize ah.upd _ i3 _ = G4
 intro s3 J93
 have no:∀ (e:Int) (G2:ah) (j:Nat) (ps:List LP),Sp [] G ps G2 -> ps[j]? = some (ar i3 (gn 0 0 .nilSlice)) -> F = .no e -> wv (bk T bc []) fun v17=>wg (ax T G2 bc (.ptr i3 [] 0) v17) fun G18=>wv (af T G18 bc (.ptr i3 [] 0)) fun v19=>Q (.tuple [v19,.int .i64 e]) G18:=by
  intro e G2 j ps s hj he
  refine ae (v:=gn 0 0 .nilSlice) rfl ?_
  refine my (i:=j) s hj rfl qp fun G18 s18=>?_
  refine ae (ig (i:=j) s18 (by rw [List.getElem?_set_self (List.getElem?_eq_some_iff.1 hj).1]) qp).2.2.2 ?_
  have:=hQ .nilSlice G18
  rw [he] at this
  exact this (((Sp.nil G).tmp s18.ch).nd 35)
 have bad:¬ (inC co cp ours jA /\ amt bo /\ amt bp /\ amt (bo + bp)) -> J93 (.bool true) G4:=by
  intro h
  simp -zeta only [J93,aX]
  exact no 1 G4 0 _ s3 rfl (by rw [hF]; unfold k8; rw [if_neg h])
 have kA:inC co cp ours jA -> (amt bo /\ amt bp /\ amt (bo + bp)) -> J93 (.bool false) G4:=by
  intro hC hA
  simp -zeta only [J93,aM]
  have hFM:F = foldM bo bp (ours.take co.toNat) (jA.take cp.toNat):=by rw [hF]; unfold k8; rw [if_pos ⟨hC,hA⟩]
  obtain ⟨c1,c2,c3,c4⟩:=hC
  obtain ⟨l1,l2,_⟩:=kU (ar.own (i:=1) s3 rfl)
  refine ae l1 ?_
  obtain ⟨va,ea,ca⟩:=iu.take (ie:=dA) (k:=.i64) (m:=co.toNat) (x:=co) cn rfl fC hl (by omega) (by rw [List.length_map]; omega)
  refine ae ea ?_
  refine ae l2 ?_
  obtain ⟨vb,eb,cb⟩:=iu.take (ie:=dA) (k:=.i64) (m:=cp.toNat) (x:=cp) cn rfl fC hp (by omega) (by rw [List.length_map]; omega)
  refine ae eb ?_
  rw [<- List.map_take] at ca cb
  obtain ⟨A,hAd⟩:∃ A,A = ours.take co.toNat:=⟨_,rfl⟩
  obtain ⟨B,hBd⟩:∃ A,A = jA.take cp.toNat:=⟨_,rfl⟩
  rw [<- hAd] at ca hFM
  rw [<- hBd] at cb hFM
  have okA:∀ u ∈ A,u.ok:=by rw [hAd]; exact fun u hu=>hok u (List.mem_of_mem_take hu)
  have okB:∀ u ∈ B,u.ok:=by rw [hBd]; exact fun u hu=>hok2 u (List.mem_of_mem_take hu)
  have lA:A.length ≤ 1048576:=by rw [hAd,List.length_take]; omega
  have lB:B.length ≤ 1048576:=by rw [hBd,List.length_take]; omega
  have iA:fV 36 G va (A.map aK.av):=ca.jf
  have iB:fV 36 G vb (B.map aK.av):=cb.jf
  intro J92
  have s3:Sp [] G [ar i3 (gn 0 0 .nilSlice),ar i1 (bR co cp)] G4:=s3
  have bad2:∀ G2,Sp [] G [ar i3 (gn 0 0 .nilSlice),ar i1 (bR co cp)] G2 -> (lL A = false \/ lL B = false) -> J92 (.bool true) G2:=by
   intro G2 s2 h
   simp -zeta only [J92,aX]
   exact no 120 G2 0 _ s2 rfl (by rw [hFM,AG h])
  have good2:∀ G2,Sp [] G [ar i3 (gn 0 0 .nilSlice),ar i1 (bR co cp)] G2 -> ¬ (lL A = false \/ lL B = false) -> J92 (.bool false) G2:=by
   intro G2 s2 h
   have vA:lL A = true:=by
    cases hh:lL A with
    | true=>rfl
    | false=>exact absurd (.inl hh) h
   have vB:lL B = true:=by
    cases hh:lL B with
    | true=>rfl
    | false=>exact absurd (.inr hh) h
   have aA:=pb vA
   have aB:=pb vB
   have m1:=uC (f:=stays B) aA Fl lA
   have m2:=uC (f:=jF B) aA H4 lA
   have m3:=uC (f:=stays A) aB Fl lB
   have m4:=uC (f:=jF A) aB H4 lB
   obtain ⟨⟨ho1,ho2⟩,⟨hp1,hp2⟩,hs1,hs2⟩:=hA
   simp -zeta only [J92,aM]
   refine ae (v:=wdR 0) rfl ?_
   refine cU.use ⟨by decide,by decide⟩ ⟨ho1,ho2⟩ fun G47 c47=>?_
   have s47:=s2.tmp c47
   refine ae (v:=wdR 0) rfl ?_
   refine cU.use ⟨by decide,by decide⟩ ⟨hp1,hp2⟩ fun G50 c50=>?_
   have s50:=s47.tmp c50
   rw [Int.zero_add,Int.zero_add]
   refine dH.use (iA.ch' s50.ch) (iB.ch' s50.ch) okA okB aA lA lB ⟨by omega,by omega⟩ ⟨by omega,by omega⟩ fun w1 G52 t52=>?_
   obtain ⟨F52,o52,k52⟩:=t52.out
   have s52:=s50.new o52 k52
   refine ae (Jr _ _ _) ?_
   refine ae (Jq _ _ _) ?_
   refine ae (Jp _ _ _) ?_
   intro i56 f56
   have s57:=s52.row f56 (bR 0 0)
   intro i58 f58
   have s59:=s57.row f58 (bR 0 0)
   refine jk (i:=1) s59 rfl fun G60 s60=>?_
   refine jk (i:=0) s60 rfl fun G61 s61=>?_
   have s61:Sp [] G [ar i58 (wdR (bp + gm (jF B) A)),ar i56 (wdR (bo - gm (stays B) A)),bj 35 w1 ((jO (hJ true (opens B) A)).map ba.av),ar i3 (gn 0 0 .nilSlice),ar i1 (bR co cp)] G61:=s61
   refine ae (dD (ar.own (i:=0) s61 rfl) b8 rfl).2.2 ?_
   refine ae (dD (ar.own (i:=1) s61 rfl) b8 rfl).2.2 ?_
   refine dH.use (iB.ch' s61.ch) (iA.ch' s61.ch) okB okA aB lB lA ⟨by omega,by omega⟩ ⟨by omega,by omega⟩ fun w2 G65 t65=>?_
   obtain ⟨F65,o65,k65⟩:=t65.out
   have s65:=s61.new o65 k65
   refine ae (Jr _ _ _) ?_
   refine ae (Jq _ _ _) ?_
   refine ae (Jp _ _ _) ?_
   have eY:bp + gm (jF B) A - gm (stays A) B = mT bp A B:=rfl
   have eX:bo - gm (stays B) A + gm (jF A) B = ml bo A B:=rfl
   rw [eY,eX]
   obtain ⟨X,hX⟩:∃ X,X = ml bo A B:=⟨_,rfl⟩
   obtain ⟨Y,hY⟩:∃ Y,Y = mT bp A B:=⟨_,rfl⟩
   have hfl:=BS (bo:=bo) (bp:=bp) aA aB hs2
   have hlow:=AF (bo:=bo) (bp:=bp) h
   have hfine:=zg (bo:=bo) (bp:=bp) h
   have bX:small X:=by rw [hX]; unfold ml small; omega
   have bY:small Y:=by rw [hY]; unfold mT small; omega
   rw [<- hX,<- hY] at hfl hlow hfine ⊢
   refine jk (i:=1) s65 rfl fun G69 s69=>?_
   refine jk (i:=2) s69 rfl fun G70 s70=>?_
   have s70:Sp [] G [bj 35 w2 ((jO (hJ false (opens A) B)).map ba.av),ar i58 (wdR Y),ar i56 (wdR X),bj 35 w1 ((jO (hJ true (opens B) A)).map ba.av),ar i3 (gn 0 0 .nilSlice),ar i1 (bR co cp)] G70:=s70
   intro J91
   have low:(X < 0 \/ Y < 0) -> J91 (.bool true) G70:=by
    intro hh
    simp -zeta only [J91,aX]
    exact no 130 G70 4 _ s70 rfl (by rw [hFM,hlow hh])
   have fine:¬ (X < 0 \/ Y < 0) -> J91 (.bool false) G70:=by
    intro hh
    simp -zeta only [J91,aM]
    have cX:=(qL (t:=X) (by omega) (hfl.1 (by omega))).2
    have cY:=(qL (t:=Y) (by omega) (hfl.2 (by omega))).2
    refine ae (dD (ar.own (i:=2) s70 rfl) b8 rfl).2.2 ?_
    refine ae (dD (ar.own (i:=1) s70 rfl) b8 rfl).2.2 ?_
    refine eG.use bX fun G83 c83=>?_
    have s83:=s70.tmp c83
    refine ⟨⟨(dD (ar.own (i:=1) s83 rfl) b8 rfl).2.2,trivial⟩,?_⟩
    refine eG.use bY fun G85 c85=>?_
    have s85:=s83.tmp c85
    rw [cX,cY]
    have hlo:=vZ A B
    unfold nJ at hlo
    rw [List.length_append] at hlo
    refine AD (i:=3) s85 rfl (bj.own (i:=0) s85 rfl).is (rQ (qm okB)) (by omega) fun w3 G87 s87=>?_
    have s87:Sp [] G [bj 35 w2 ((jO (hJ false (opens A) B)).map ba.av),ar i58 (wdR Y),ar i56 (wdR X),bj 35 w3 ((nJ A B).map ba.av),ar i3 (gn 0 0 .nilSlice),ar i1 (bR co cp)] G87:=s87
    have lw3:=(bj.own (i:=3) s87 rfl).leaf
    refine ae (AQ lw3.1) ?_
    refine my (i:=4) s87 rfl rfl lw3 fun G89 s89=>?_
    refine ae (ig (i:=4) s89 rfl lw3).2.2.2 ?_
    have hF2:F = ⟨X,Y,nJ A B,0⟩:=by rw [hFM,hfine hh]
    rw [hF2] at hQ
    refine hQ w3 G89 ?_
    exact ((((s89.erase 0).erase 0).erase 0).erase 1).erase 1
   refine ae (dD (ar.own (i:=2) s70 rfl) b8 rfl).1 ?_
   rw [aH,aa]
   by_cases h1:X / 1152921504606846976 < 0
   ·rw [decide_eq_true h1,aX]
    exact low (.inl ((ur X).1 h1))
   ·rw [decide_eq_false h1,aM]
    refine ae (dD (ar.own (i:=1) s70 rfl) b8 rfl).1 ?_
    rw [aH,aa]
    by_cases h2:Y / 1152921504606846976 < 0
    ·rw [decide_eq_true h2]
     exact low (.inr ((ur Y).1 h2))
    ·rw [decide_eq_false h2]
     exact fine fun hh=>hh.elim (fun q=>h1 ((ur X).2 q)) (fun q=>h2 ((ur Y).2 q))
  refine db.use (iA.ch' s3.ch) okA lA fun G35 c35=>?_
  have s35:=s3.tmp c35
  rw [fN,aa]
  cases vA:lL A with
  | false=>exact bad2 _ s35 (.inl vA)
  | true=>
   rw [Bool.not_true,aM]
   refine db.use (iB.ch' s35.ch) okB lB fun G37 c37=>?_
   have s37:=s35.tmp c37
   rw [fN,aa]
   cases vB:lL B with
   | false=>exact bad2 _ s37 (.inr vB)
   | true=>exact good2 _ s37 (by rw [vA,vB]; simp)
 obtain ⟨l1,l2,_⟩:=kU (ar.own (i:=1) s3 rfl)
 refine ae l1 ?_
 rw [aH,aa,aE]
 refine ⟨fun h=>bad fun hh=>by have:=hh.1.1; omega,fun h1=>?_⟩
 refine ae l1 ?_
 refine ae (fy (hl.jf.ch' s3.ch)) ?_
 rw [de,aa,aE]
 refine ⟨fun h=>bad fun hh=>by have:=hh.1.2.1; omega,fun h2=>?_⟩
 refine ae l2 ?_
 rw [aH,aa,aE]
 refine ⟨fun h=>bad fun hh=>by have:=hh.1.2.2.1; omega,fun h3=>?_⟩
 refine ae l2 ?_
 refine ae (fy (hp.jf.ch' s3.ch)) ?_
 rw [de,aa,aE]
 refine ⟨fun h=>bad fun hh=>by have:=hh.1.2.2.2; omega,fun h4=>?_⟩
 have hC:inC co cp ours jA:=⟨by omega,by omega,by omega,by omega⟩
 refine cm.use ?_
 rw [fN,aa,fg]
 refine ⟨fun h=>bad fun hh=>h hh.2.1,fun h5=>?_⟩
 refine cm.use ?_
 rw [fN,aa,fg]
 refine ⟨fun h=>bad fun hh=>h hh.2.2.1,fun h6=>?_⟩
 obtain ⟨h51,h52⟩:=h5
 obtain ⟨h61,h62⟩:=h6
 rw [bf,i64_in (by omega) (by omega),aa]
 refine cm.use ?_
 rw [fN,aa]
 by_cases h7:amt (bo + bp)
 ·rw [decide_eq_true h7]
  exact kA hC ⟨⟨h51,h52⟩,⟨h61,h62⟩,h7⟩
 ·rw [decide_eq_false h7]
  exact bad fun hh=>h7 hh.2.2.2
end
end Go.Esc.M
set_option linter.unusedSimpArgs false
set_option linter.unusedVariables false
set_option maxRecDepth 20000
namespace Go.Esc.M
open Go Go.Esc
structure bA where
 kind:Int
 id:Int
 amount:Int
 index:Int
 next:Int
 hash:List UInt8
 secret:List UInt8
 note:List UInt8
 deriving DecidableEq
def bA.cs (u:bA):List ag:=[.int .i64 u.kind,.int .i64 u.id,.int .i64 u.amount,.int .i64 u.index,.int .i64 u.next,.agg (u.hash.map u8v),.agg (u.secret.map u8v),.str u.note]
def bA.av (u:bA):ag:=.agg u.cs
def bA.zero:bA:=⟨0,0,0,0,0,h0,h0,[]⟩
structure bA.ok (u:bA):Prop where
 kind:I64 u.kind
 id:I64 u.id
 amount:I64 u.amount
 index:I64 u.index
 next:I64 u.next
 hash:u.hash.length = 32
 secret:u.secret.length = 32
 note:u.note.length ≤ 9223372036854775807
theorem bA.bD:bA.zero.ok:=⟨cD,cD,cD,cD,cD,rfl,rfl,by decide⟩
theorem bA.sz {u:bA} (h:u.ok):Esc.sz u.av = 70:=by simp [bA.av,bA.cs,Esc.sz,szs,szh h.hash,szh h.secret]
theorem bA.fits {u:bA} (h:u.ok):fa fe u.av = true:=by
 have h1:=bA.sz h
 have h2:u.av.isAgg = true:=rfl
 simp [fa,h1,h2,fe,j4.isAgg]
theorem bA.okv (u:bA):Esc.okv u.av = true:=by simp [bA.av,bA.cs,Esc.okv,kT,jx]
theorem AZ:gE = bA.zero.av:=rfl
section
variable {F0:List AId} {G0 G:ah} {ps:List LP} {i:Nat} {id:AId} {u:bA} {Q:ag -> ah -> Prop}
theorem gL (hs:Sp F0 G0 ps G) (hi:ps[i]? = some (ar id u.av)) (h:u.ok) :
  af T G au (.ptr id [0] 0) = some (.int .i64 u.kind) /\ af T G ai (.ptr id [1] 1) = some (.int .i64 u.id) /\ af T G ai (.ptr id [2] 2) = some (.int .i64 u.amount) /\ af T G ai (.ptr id [3] 3) = some (.int .i64 u.index) ∧
  af T G ai (.ptr id [4] 4) = some (.int .i64 u.next) /\ af T G aj (.ptr id [5] 5) = some (.agg (u.hash.map u8v)) /\ af T G aj (.ptr id [6] 37) = some (.agg (u.secret.map u8v)) /\ af T G bH (.ptr id [7] 69) = some (.str u.note) /\ af T G aG (.ptr id [] 0) = some u.av:=by
 have hg:=ar.own hs hi
 refine ⟨dQ (c:=.int .i64 u.kind) hg rfl rfl rfl hO rfl,dQ (c:=.int .i64 u.id) hg rfl rfl rfl cA rfl,dQ (c:=.int .i64 u.amount) hg rfl rfl rfl cA rfl,dQ (c:=.int .i64 u.index) hg rfl rfl rfl cA rfl,dQ (c:=.int .i64 u.next) hg rfl rfl rfl cA rfl,
  dQ (c:=.agg (u.hash.map u8v)) hg rfl rfl rfl cd (gu h.hash),dQ (c:=.agg (u.secret.map u8v)) hg rfl ?_ rfl cd (gu h.secret),dQ (c:=.str u.note) hg rfl ?_ rfl fZ rfl,cJ dB hg (bA.fits h)⟩
 ·simp [bA.cs,szs,Esc.sz,szh h.hash]
 ·simp [bA.cs,szs,Esc.sz,szh h.hash,szh h.secret]
theorem k7 {u':bA} (hs:Sp F0 G0 ps G) (hi:ps[i]? = some (ar id u.av)) (h:u.ok) (h':u'.ok) {K:ah -> Prop} (hK:∀ G',Sp F0 G0 (ps.set i (ar id u'.av)) G' -> K G'):wg (ax T G aG (.ptr id [] 0) u'.av) K:=by
 refine fK (il dB (ar.own hs hi) (bA.fits h') (by rw [bA.sz h,bA.sz h']) (bA.okv _)) ?_
 exact hK _ (Sp.setRow hs hi _)
theorem Gv (n:Int) (hs:Sp F0 G0 ps G) (hi:ps[i]? = some (ar id u.av)) {K:ah -> Prop} (hK:∀ G',Sp F0 G0 (ps.set i (ar id ({ u with index:=n }:bA).av)) G' -> K G'):wg (ax T G ai (.ptr id [3] 3) (.int .i64 n)) K:=by
 refine fK (km (c:=.int .i64 n) (u:=.int .i64 u.index) (ar.own hs hi) rfl rfl cA rfl rfl rfl) ?_
 exact hK _ (Sp.setRow hs hi _)
theorem Ig {n:List UInt8} (hn:n.length = 32) (h:u.ok) (hs:Sp F0 G0 ps G) (hi:ps[i]? = some (ar id u.av)) {K:ah -> Prop} (hK:∀ G',Sp F0 G0 (ps.set i (ar id ({ u with hash:=n }:bA).av)) G' -> K G'):wg (ax T G aj (.ptr id [5] 5) (.agg (n.map u8v))) K:=by
 refine fK (km (c:=.agg (n.map u8v)) (u:=.agg (u.hash.map u8v)) (ar.own hs hi) rfl rfl cd (gu hn) (by simp [Esc.sz,szh hn,szh h.hash]) (by simp [Esc.okv,jx])) ?_
 exact hK _ (Sp.setRow hs hi _)
theorem Em {n:List UInt8} (hn:n.length = 32) (h:u.ok) (hs:Sp F0 G0 ps G) (hi:ps[i]? = some (ar id u.av)) {K:ah -> Prop} (hK:∀ G',Sp F0 G0 (ps.set i (ar id ({ u with secret:=n }:bA).av)) G' -> K G'):wg (ax T G aj (.ptr id [6] 37) (.agg (n.map u8v))) K:=by
 refine fK (km (c:=.agg (n.map u8v)) (u:=.agg (u.secret.map u8v)) (ar.own hs hi) (by simp [bA.cs,szs,Esc.sz,szh h.hash]) rfl cd (gu hn) (by simp [Esc.sz,szh hn,szh h.secret]) (by simp [Esc.okv,jx])) ?_
 exact hK _ (Sp.setRow hs hi _)
def zZ (m:bA):aK:=⟨m.kind,m.id,m.amount,m.hash,m.note⟩
def oy (u:aK):bA:=⟨u.kind,u.id,u.amount,0,0,u.hash,h0,u.note⟩
theorem uq {m:bA} (h:m.ok):(zZ m).ok:=LJ h.kind h.id h.amount h.hash h.note
theorem nH {u:aK} (h:u.ok):(oy u).ok:=⟨h.kind,h.id,h.amount,cD,cD,h.hash,rfl,h.note⟩
end
end Go.Esc.M
set_option linter.unusedSimpArgs false
set_option linter.unusedVariables false
set_option maxRecDepth 20000
namespace Go.Esc.M
open Go Go.Esc
section
variable {F0:List AId} {G0 G:ah} {ps:List LP} {i:Nat} {id:AId} {u:bA} {Q:ag -> ah -> Prop}
theorem Ll {pl:Nat -> Option (Nat × Nat)} (e0:pl 0 = some (0,1)) (e1:pl 1 = some (1,1)) (e2:pl 2 = some (2,1)) (e5:pl 5 = some (5,32)) (e7:pl 7 = some (69,1)) {k m n:Int} {s:List UInt8} {zh zs h:ag} (hz:sz zh = 32) (hzs:sz zs = 32) (hh:sz h = 32) :
  lC pl [.int .i64 0,.int .i64 0,.int .i64 0,.int .i64 0,.int .i64 0,zh,zs,.str []] [(0,.int .i64 k),(1,.int .i64 m),(2,.int .i64 n),(5,h),(7,.str s)] = some [.int .i64 k,.int .i64 m,.int .i64 n,.int .i64 0,.int .i64 0,h,zs,.str s]:=by
 simp [lC,e0,e1,e2,e5,e7,sz,szs,hh,hz,hzs]
theorem Hd {u:aK} (h:u.ok):bk T aG [(0,.int .i64 u.kind),(1,.int .i64 u.id),(2,.int .i64 u.amount),(5,.agg (u.hash.map u8v)),(7,.str u.note)] = some (oy u).av:=by
 have h1:sz (.agg (u.hash.map u8v)) = 32:=by rw [sz,gv (n:=1) (ji u.hash)]; simp [h.hash]
 obtain ⟨zs,hzz,hzs⟩:∃ zs,ag.agg (h0.map u8v) = zs /\ sz zs = 32:=⟨_,rfl,rfl⟩
 have hz:gE = .agg [.int .i64 0,.int .i64 0,.int .i64 0,.int .i64 0,.int .i64 0,zs,zs,.str []]:=by rw [<- hzz]; rfl
 have hf:=Ll (pl:=places T [(au,0),(ai,1),(ai,2),(ai,3),(ai,4),(aj,5),(aj,37),(bH,69)]) rfl rfl rfl rfl rfl (k:=u.kind) (m:=u.id) (n:=u.amount) (s:=u.note) hzs hzs h1
 have ha:[(au,0),(ai,1),(ai,2),(ai,3),(ai,4),(aj,5),(aj,37),(bH,69)].all (fun g=>(T g.1).isSome) = true:=rfl
 unfold bk
 have e1:fe.desc = .struct [(au,0),(ai,1),(ai,2),(ai,3),(ai,4),(aj,5),(aj,37),(bH,69)]:=rfl
 have e2:fe.zero = .agg [.int .i64 0,.int .i64 0,.int .i64 0,.int .i64 0,.int .i64 0,zs,zs,.str []]:=hz
 simp only [dB,e1,e2,ha,if_true,hf]
 simp only [oy,bA.av,bA.cs,hzz]
theorem lR.use {u:aK} (h:u.ok) (hQ:∀ G',Ch [] G [] G' -> Q (oy u).av G'):al P lR.n [u.av] G Q:=by
 refine lR.sound ?_
 unfold lR.S
 rw [AZ]
 intro i1 f1
 have s1:=(Sp.nil G).row f1 u.av
 intro i3 f3
 have s3:=s1.row f3 bA.zero.av
 obtain ⟨l0,l1,l2,l3,l4,_⟩:=dh (i:=1) s3 rfl h
 refine ae l0 ?_
 refine ae l1 ?_
 refine ae l2 ?_
 refine ae l3 ?_
 refine ae l4 ?_
 refine ae (Hd h) ?_
 refine k7 (i:=0) s3 rfl bA.bD (nH h) fun G11 s11=>?_
 refine ae (gL (i:=0) s11 rfl (nH h)).2.2.2.2.2.2.2.2 ?_
 exact hQ _ s11.ch
end
end Go.Esc.M
set_option linter.unusedSimpArgs false
set_option linter.unusedVariables false
set_option maxRecDepth 20000
namespace Go.Esc.M
open Go Go.Esc
theorem JW {p p':bA} (h:p.ok) (h':p'.ok):eqF T (mN T 8) [(au,0),(ai,1),(ai,2),(ai,3),(ai,4),(aj,5),(aj,37),(bH,69)] p.cs p'.cs 0 = some (decide (p = p')):=by
 have z1:=gu h.hash
 have z2:=gu h'.hash
 have z3:=gu h.secret
 have z4:=gu h'.secret
 have q2:∀ m n:Int,mN T 8 ai (.int .i64 m) (.int .i64 n) = some (decide (m = n)):=fun m n=>by
  rw [mN]; simp only [cA]; rfl
 have q1:∀ m n:Int,mN T 8 au (.int .i64 m) (.int .i64 n) = some (decide (m = n)):=fun m n=>by
  rw [mN]; simp only [hO]; rfl
 have q4:∀ m n:List UInt8,mN T 8 bH (.str m) (.str n) = some (decide (m = n)):=fun m n=>by
  rw [mN]; simp only [fZ]; rfl
 have v1:∀ m:Int,fa mf (.int .i64 m) = true:=fun m=>rfl
 have v2:∀ m:Int,fa jy (.int .i64 m) = true:=fun m=>rfl
 have v4:∀ m:List UInt8,fa iO (.str m) = true:=fun m=>rfl
 have s1:mf.size = 1:=rfl
 have s2:jy.size = 1:=rfl
 have s3:fE.size = 32:=rfl
 have q3:=Cq h.hash h'.hash
 have q5:=Cq h.secret h'.secret
 obtain ⟨a,b,c,d,e,f,g,i⟩:=p
 obtain ⟨a',b',c',d',e',f',g',i'⟩:=p'
 dsimp only at z1 z2 z3 z4 q3 q5
 simp only [bA.cs,eqF,hO,cA,cd,fZ,v1,v2,v4,z1,z2,z3,z4,s1,s2,s3,Nat.zero_add,q1,q2,q3,q4,q5,beq_self_eq_true,Bool.and_self,Nat.reduceAdd,if_true]
 by_cases h1:a = a'
 ·subst h1
  by_cases h2:b = b'
  ·subst h2
   by_cases h3:c = c'
   ·subst h3
    by_cases h4:d = d'
    ·subst h4
     by_cases h5:e = e'
     ·subst h5
      by_cases h6:f = f'
      ·subst h6
       by_cases h7:g = g'
       ·subst h7
        by_cases h8:i = i'
        ·subst h8; simp
        ·simp [h8]
       ·simp [h7]
      ·simp [h6]
     ·simp [h5]
    ·simp [h4]
   ·simp [h3]
  ·simp [h2]
 ·simp [h1]
theorem E7 {p p':bA} (h:p.ok) (h':p'.ok):mN T 9 aG p.av p'.av = some (decide (p = p')):=by
 rw [<- JW h h',mN]
 have e1:fe.desc = .struct [(au,0),(ai,1),(ai,2),(ai,3),(ai,4),(aj,5),(aj,37),(bH,69)]:=rfl
 simp only [dB,e1]
 rfl
theorem Ga {p p':bA} (h:p.ok) (h':p'.ok):aw T .eql aG p.av p'.av = some (.bool (decide (p = p'))):=by
 have:=E7 h h'
 unfold bA.av at this ⊢
 simp only [aw,this]
theorem F9 {p p':bA} (h:p.ok) (h':p'.ok):aw T .neq aG p.av p'.av = some (.bool (!decide (p = p'))):=by
 have:=E7 h h'
 unfold bA.av at this ⊢
 simp only [aw,this]
section
variable {F0:List AId} {G0 G:ah} {ps:List LP} {Q:ag -> ah -> Prop}
end
end Go.Esc.M
set_option linter.unusedSimpArgs false
set_option linter.unusedVariables false
set_option maxRecDepth 20000
namespace Go.Esc.M
open Go Go.Esc
def isK (m:bA):Prop:=m.kind = 1 \/ m.kind = 2 \/ m.kind = 3
instance (m:bA):Decidable (isK m):=inferInstanceAs (Decidable (_ \/ _ \/ _))
section
variable {F0:List AId} {G0 G:ah} {ps:List LP} {Q:ag -> ah -> Prop}
end
end Go.Esc.M
set_option linter.unusedSimpArgs false
set_option linter.unusedVariables false
set_option maxRecDepth 20000
namespace Go.Esc.M
open Go Go.Esc
section
variable {F0:List AId} {G0 G:ah} {ps:List LP} {Q:ag -> ah -> Prop}
end
end Go.Esc.M
