import Derived.Test.YtkojimdacnohpaaGreatDoorEL
set_option linter.unusedSimpArgs false
set_option linter.unusedVariables false
namespace Go.Esc
open Go Go.RowKit
def wv (o:Option ag) (K:ag -> Prop):Prop :=
 match o with
 | some v=>K v
 | none=>False
def brB (v:Option ag) (p q:Prop):Prop :=
 match v with
 | some (.bool b)=>bif b then p else q
 | _=>False
def jj (t:Option Nat):List Nat -> List Nat
 | []=>[]
 | x :: l=>match t with
  | none=>x :: l
  | some t=>bif Nat.beq t x then jj (some t) l else x :: jj (some t) l
def Et (us:List Nat) (env:Env) (ops:Array Oper) (g:Option (Nat × Bool)) (yes no:Env -> Prop):Prop :=
 match g with
 | none=>yes env
 | some (j,want)=>
  match (ops[j]?).bind (·.dst) with
  | some t=>
   bif kz t us then no env
   else brB (env t) (bif want then yes (env.put (some t) (some (.bool true))) else no (env.put (some t) (some (.bool true))))
    (bif want then no (env.put (some t) (some (.bool false))) else yes (env.put (some t) (some (.bool false))))
  | none=>False
def oP (d:Option Nat) (us:List Nat):List Nat :=
 match d with
 | some t=>t :: us
 | none=>us
def wU (ix:Option Nat) (env:Env) (op:Op) (v:ag) (ld:List Ld):List Ld :=
 match ix with
 | none=>ld
 | some i=>match op with
  | .load t x=>match ev env x with
   | some a=>⟨i,t,a,v,none⟩ :: ld
   | none=>ld
  | .convert s d x=>match ev env x with
   | some a=>⟨i,d,a,v,some s⟩ :: ld
   | none=>ld
  | _=>ld
def Hj (cx:Cx) (ops:Array Oper) (ix:Option Nat) (o:Oper) (chk:List Nat) (K:List Nat -> List Ld -> Env -> ah -> Prop) (us:List Nat) (ld:List Ld) (env:Env) (G:ah):Prop :=
 Et us env ops o.guard
  (fun env=>bif Op.isE cx.T o.op then iN cx env G (xM cx.T chk ld fun v G'=>K (jj o.dst us) ld (env.put o.dst v) G') o.op
   else wv (lk cx.T env G o.op) fun v=>K (jj o.dst us) (wU ix env o.op v ld) (env.put o.dst (some v)) G)
  (fun env=>K (oP o.dst us) ld (env.put o.dst none) G)
def ER (cx:Cx) (ops:Array Oper):List Oper -> (Env -> ah -> Prop) -> List Nat -> List Ld -> Env -> ah -> Prop
 | [],K,_,_,env,G=>K env G
 | o :: os,K,us,ld,env,G=>Hj cx ops none o [] (ER cx ops os K) us ld env G
def Hk (cx:Cx) (ops:Array Oper):List (Nat × List Nat) -> (Env -> ah -> Prop) -> List Nat -> List Ld -> Env -> ah -> Prop
 | [],K,_,_,env,G=>K env G
 | (i,chk) :: l,K,us,ld,env,G=>
  match ops[i]? with
  | some o=>Hj cx ops (some i) o chk (Hk cx ops l K) us ld env G
  | none=>False
inductive Ann where
 | nil
 | two (a b:Ann)
 | loop (live:List Nat) (rows:List Bool) (a:Ann)
 | cut (live:List Nat) (rows:List Bool) (a b:Ann)
 | ord (l:List (Nat × List Nat))
def Ann.fst:Ann -> Ann
 | .two a _=>a
 | .cut _ _ a _=>a
 | _=>.nil
def Ann.snd:Ann -> Ann
 | .two _ b=>b
 | .cut _ _ _ b=>b
 | _=>.nil
def Ff (next:Env -> ah -> Prop) (Q:Exit -> Env -> ah -> Prop):Exit -> Env -> ah -> Prop
 | .normal=>next
 | e=>Q e
def Dd (id:Nat) (Q:Exit -> Env -> ah -> Prop):Exit -> Env -> ah -> Prop
 | .exit id'=>bif Nat.beq id' id then Q .normal else Q (.exit id')
 | e=>Q e
def KZ:Nat -> (List ag -> Prop) -> Prop
 | 0,p=>p []
 | n + 1,p=>∀ a,KZ n fun l=>p (a :: l)
def Ja:List Bool -> (List ag -> Prop) -> Prop
 | [],p=>p []
 | b :: bs,p=>bif b then ∀ i:AId,Ja bs fun l=>p (.ptr i [] 0 :: l) else ∀ a,Ja bs fun l=>p (a :: l)
theorem ru:∀ {bs:List Bool} {p:List ag -> Prop},(∀ vs,p vs) -> Ja bs p
 | [],p,h=>h []
 | true :: bs,p,h=>fun i=>ru fun vs=>h _
 | false :: bs,p,h=>fun a=>ru fun vs=>h _
def u5:List Nat -> List ag -> Env
 | t :: ts,v :: vs=>fun x=>bif Nat.beq x t then some v else u5 ts vs x
 | _,_=>fun _=>none
def vX (env:Env):List Nat -> (List ag -> Prop) -> Prop
 | [],K=>K []
 | t :: ts,K=>match env t with
  | some v=>vX env ts fun l=>K (v :: l)
  | none=>False
def awp (cx:Cx):Code -> Ann -> (Exit -> Env -> ah -> Prop) -> Env -> ah -> Prop
 | .skip,_,Q,env,G=>Q .normal env G
 | .region _ ops draw,an,Q,env,G=>
  bif draw then
   match an with
   | .ord l=>Hk cx ops l (Q .normal) [] [] env G
   | _=>False
  else ER cx ops ops.toList (Q .normal) [] [] env G
 | .seq x y,an,Q,env,G=>
  match an with
  | .cut live rows a b=>∀ J:List ag -> ah -> Prop,(Ja rows fun vs=>∀ G,awp cx y b Q (u5 live vs) G -> J vs G) -> awp cx x a (Ff (fun env' G'=>vX env' live fun l=>J l G') Q) env G
  | an=>awp cx x an.fst (Ff (awp cx y an.snd Q) Q) env G
 | .cond c x y,an,Q,env,G=>brB (ev env c) (awp cx x an.fst Q env G) (awp cx y an.snd Q env G)
 | .block id c,an,Q,env,G=>awp cx c an (Dd id Q) env G
 | .loop c,an,Q,env,G=>
  match an with
  | .loop live rows a=>∀ R:List ag -> ah -> Prop,
   (Ja rows fun vs=>∀ G,awp cx c a (Ff (fun env' G'=>vX env' live fun l=>R l G') Q) (u5 live vs) G -> R vs G) -> vX env live fun l=>R l G
  | _=>False
 | .exit id,_,Q,env,G=>Q (.exit id) env G
 | .ret,_,Q,env,G=>Q .ret env G
 | _,_,_,_,_=>False
def sb (n:Nat):Code -> Bool
 | .region _ ops _=>ops.toList.all fun o=>match o.dst with
  | some d=>Nat.blt d n
  | none=>true
 | .seq x y=>sb n x && sb n y
 | .cond _ x y=>sb n x && sb n y
 | .block _ c=>sb n c
 | .loop c=>sb n c
 | _=>true
def St (B:j1) (n:Nat) (K:Env -> ah -> Prop) (a:Act) (w:World):Prop :=
 a.defers = [] /\ a.tmps.size = n /\ ∃ env G,lZ env a.tmps /\ Rel B G w /\ K env G
def lift (B:j1) (n:Nat) (Q:Exit -> Env -> ah -> Prop):Exit -> Act -> World -> Prop
 | .panic _,_,_=>False
 | .outgrown,_,_=>False
 | e,a,w=>St B n (Q e) a w
theorem St.mono {B:j1} {n:Nat} {K K':Env -> ah -> Prop} {a:Act} {w:World} (h:St B n K a w) (hk:∀ env G,K env G -> K' env G):St B n K' a w :=
 let ⟨h1,h2,env,G,h3,h4,h5⟩:=h; ⟨h1,h2,env,G,h3,h4,hk _ _ h5⟩
theorem yG (a:Act) (d:Option Nat) (v:Value):(a.put d v).tmps.size = a.tmps.size:=by
 cases d <;> simp [Act.put]
theorem put_defers (a:Act) (d:Option Nat) (v:Value):(a.put d v).defers = a.defers:=by
 cases d <;> rfl
theorem lZ.Lg {env:Env} {tmps:Array Value} (h:lZ env tmps) {t:Nat} {v:ag} (ht:env t = some v):lZ (env.put (some t) (some v)) tmps:=by
 intro x u hx
 simp only [Env.put] at hx
 cases hb:Nat.beq x t with
 | true=>
  rw [hb] at hx
  simp only [cond_true] at hx
  rw [Nat.eq_of_beq_eq_true hb]
  injection hx with hx; subst hx
  exact h t v ht
 | false=>rw [hb] at hx; exact h x u hx
section
variable {cx:Cx} (hcx:DI cx) {B:j1}
def Bo (P:Program) (ops:Array Oper) (o:Oper) (next:Act -> World -> Prop) (Q:Exit -> Act -> World -> Prop) (a:Act) (w:World):Prop :=
 if Region.wanted o (yielded ops a.tmps) then o.wp P a w next Q else next (a.put o.dst undef) w
def xH (us:List Nat) (tmps:Array Value):Prop:=∀ t,kz t us = true -> tmps[t]? = some undef
theorem mr (t x:Nat) (l:List Nat):kz t (x :: l) = true ↔ t = x \/ kz t l = true:=by
 simp only [kz]
 cases h:Nat.beq t x with
 | true=>simp [Nat.eq_of_beq_eq_true h]
 | false=>
  have:t ≠ x:=fun e=>by subst e; simp at h
  simp [this]
theorem sO (d:Option Nat) (t:Nat):∀ us,kz t (jj d us) = true -> kz t us = true /\ d ≠ some t
 | [],h=>by simp [jj,kz] at h
 | x :: l,h=>by
  cases d with
  | none=>exact ⟨h,by simp⟩
  | some d=>
   simp only [jj] at h
   cases hb:Nat.beq d x with
   | true=>
    rw [hb] at h
    have:=sO (some d) t l h
    exact ⟨(mr _ _ _).2 (.inr this.1),this.2⟩
   | false=>
    rw [hb] at h
    simp only [cond_false] at h
    rcases (mr _ _ _).1 h with rfl | h
    ·exact ⟨(mr _ _ _).2 (.inl rfl),fun e=>by injection e with e; subst e; simp at hb⟩
    ·have:=sO (some d) t l h
     exact ⟨(mr _ _ _).2 (.inr this.1),this.2⟩
theorem xH.drop {us:List Nat} {a:Act} (h:xH us a.tmps) (d:Option Nat) (u:Value):xH (jj d us) (a.put d u).tmps:=by
 intro t ht
 obtain ⟨h1,h2⟩:=sO d t us ht
 cases d with
 | none=>exact h t h1
 | some d=>
  have hne:d ≠ t:=fun e=>h2 (by rw [e])
  simp [Act.put,Array.getElem?_setIfInBounds_ne hne,h t h1]
theorem xH.cons {us:List Nat} {a:Act} (h:xH us a.tmps) (d:Option Nat) (hd:∀ t,d = some t -> t < a.tmps.size):xH (oP d us) (a.put d undef).tmps:=by
 cases d with
 | none=>exact h
 | some d=>
  intro t ht
  have hlt:=hd d rfl
  by_cases e:d = t
  ·subst e; simp [Act.put,hlt]
  ·rcases (mr _ _ _).1 ht with rfl | ht
   ·exact absurd rfl e
   ·simp [Act.put,Array.getElem?_setIfInBounds_ne e,h t ht]
def StU (B:j1) (n:Nat) (K:List Nat -> List Ld -> Env -> ah -> Prop) (a:Act) (w:World):Prop :=
 a.defers = [] /\ a.tmps.size = n /\ ∃ us ld env G,xH us a.tmps /\ lZ env a.tmps /\ Rel B G w /\ K us ld env G
include hcx in
theorem zz {n:Nat} {ops:Array Oper} {ix:Option Nat} {o:Oper} {chk:List Nat} {K:List Nat -> List Ld -> Env -> ah -> Prop} {us:List Nat} {ld:List Ld} {env:Env} {G:ah} {a:Act} {w:World} {Q:Exit -> Act -> World -> Prop}
  (hd:∀ t,o.dst = some t -> t < n) (h:Hj cx ops ix o chk K us ld env G) (h1:a.defers = []) (h2:a.tmps.size = n) (hu:xH us a.tmps) (he:lZ env a.tmps) (hr:Rel B G w) :
  Bo cx.P ops o (StU B n K) Q a w:=by
 have hdl:∀ t,o.dst = some t -> t < a.tmps.size:=by rw [h2]; exact hd
 have hno:∀ env',lZ env' a.tmps -> K (oP o.dst us) ld (env'.put o.dst none) G -> StU B n K (a.put o.dst undef) w:=fun env' he' hk=>
  ⟨by rw [put_defers]; exact h1,by rw [yG]; exact h2,_,_,_,_,hu.cons _ hdl,he'.put hdl (fun _ hx=>by cases hx),hr,hk⟩
 have hyes:∀ env',lZ env' a.tmps -> (bif Op.isE cx.T o.op then iN cx env' G (xM cx.T chk ld fun v G'=>K (jj o.dst us) ld (env'.put o.dst v) G') o.op
   else wv (lk cx.T env' G o.op) fun v=>K (jj o.dst us) (wU ix env' o.op v ld) (env'.put o.dst (some v)) G) -> o.wp cx.P a w (StU B n K) Q:=by
  intro env' he' hk
  cases hE:Op.isE cx.T o.op with
  | true=>
   rw [hE] at hk
   simp only [cond_true] at hk
   refine ES hcx hr he' hk fun v G' u w' r hv hK=>?_
   have hK':K (jj o.dst us) ld (env'.put o.dst v) G':=by
    cases chk with
    | nil=>exact hK
    | cons c cs=>exact hK.2
   exact ⟨by rw [put_defers]; exact h1,by rw [yG]; exact h2,_,_,_,_,hu.drop _ _,he'.put hdl hv,r,hK'⟩
  | false=>
   rw [hE] at hk
   simp only [cond_false] at hk
   unfold wv at hk
   split at hk
   ·rename_i v hv
    exact oQ (EB hcx.tbl hr he' hv) ⟨by rw [put_defers]; exact h1,by rw [yG]; exact h2,_,_,_,_,hu.drop _ _,he'.put hdl (fun x hx=>by injection hx with hx; subst hx; rfl),hr,hk⟩
   ·exact hk.elim
 unfold Hj Et at h
 unfold Bo
 split at h
 ·rename_i hg
  rw [if_pos (by simp [Region.wanted,hg])]
  exact hyes env he h
 ·rename_i j want hg
  split at h
  ·rename_i t ht
   cases hm:kz t us with
   | true=>
    rw [hm] at h
    simp only [cond_true] at h
    have hy:yielded ops a.tmps j = none:=by
     simp only [yielded,ht,Option.bind_some]
     rw [hu t hm]
     rfl
    rw [if_neg (by simp [Region.wanted,hg,hy])]
    exact hno _ he h
   | false=>
    rw [hm] at h
    simp only [cond_false] at h
    unfold brB at h
    split at h
    ·rename_i b hb
     have hl:=he.Lg hb
     have hy:yielded ops a.tmps j = some b:=by
      simp only [yielded,ht,Option.bind_some]
      rw [he t _ hb]
      simp [cv]
     cases b <;> cases want <;> simp only [cond_true,cond_false] at h
     ·rw [if_pos (by simp [Region.wanted,hg,hy])]; exact hyes _ hl h
     ·rw [if_neg (by simp [Region.wanted,hg,hy])]; exact hno _ hl h
     ·rw [if_neg (by simp [Region.wanted,hg,hy])]; exact hno _ hl h
     ·rw [if_pos (by simp [Region.wanted,hg,hy])]; exact hyes _ hl h
    ·exact h.elim
  ·exact h.elim
theorem xH.nil (tmps:Array Value):xH [] tmps:=fun t h=>by simp [kz] at h
include hcx in
theorem rq {n:Nat} {ops:Array Oper} {Q:Exit -> Env -> ah -> Prop}:∀ (l:List Oper),(∀ o ∈ l,∀ t,o.dst = some t -> t < n) ->
  ∀ {a:Act} {w:World},StU B n (ER cx ops l (Q .normal)) a w -> wpList cx.P ops (lift B n Q) l a w
 | [],_,a,w,⟨h1,h2,us,ld,env,G,_,he,hr,h⟩=>by
  simp only [wpList]
  exact ⟨h1,h2,env,G,he,hr,h⟩
 | o :: l,hd,a,w,⟨h1,h2,us,ld,env,G,hu,he,hr,h⟩=>by
  have:=zz (Q:=lift B n Q) hcx (hd o (by simp)) h h1 h2 hu he hr
  unfold Bo at this
  unfold wpList
  split
  ·rename_i hw
   rw [if_pos hw] at this
   exact .inl (Oper.wp_mono (fun a w h=>rq l (fun o ho=>hd o (by simp [ho])) h) this)
  ·rename_i hw
   rw [if_neg hw] at this
   exact rq l (fun o ho=>hd o (by simp [ho])) this
def B8 (P:Program) (c:Code) (Q:Exit -> Act -> World -> Prop) (a:Act) (w:World):Prop :=
 ∀ (b:Frame) (k:List Item) (cs:List Frame),∃ e a' w',Q e a' w' /\ Arrives P (lone (b.at a (.code c :: .inLoop c :: k)) cs w) b k cs e a' w'
theorem A8 {P:Program} {c:Code} {Q:Exit -> Act -> World -> Prop} {a:Act} {w:World} (h:B8 P c Q a w):(Code.loop c).wp P Q a w :=
 fun b k cs=>let ⟨e,a',w',q,arr⟩:=h b k cs; ⟨e,a',w',q,.of_steps (.one step_loop) arr⟩
theorem BH {P:Program} {c:Code} {Q:Exit -> Act -> World -> Prop} {a:Act} {w:World} (h:c.wp P (Exit.then (B8 P c Q) Q) a w):B8 P c Q a w:=by
 intro b k cs
 obtain ⟨e,a₁,w₁,hq,harr⟩:=h b (.inLoop c :: k) cs
 cases e with
 | normal=>
  obtain ⟨e,a₂,w₂,hq₂,harr₂⟩:=hq b k cs
  exact ⟨e,a₂,w₂,hq₂,.of_steps (Steps.trans harr (.one step_inLoop)) harr₂⟩
 | exit id=>exact ⟨_,a₁,w₁,hq,.pass (x:=.inLoop c) rfl (fun _ _=>.inl (by simp)) harr⟩
 | goto l=>exact ⟨_,a₁,w₁,hq,.pass (x:=.inLoop c) rfl (fun _ _=>.inl (by simp)) harr⟩
 | ret=>exact ⟨_,a₁,w₁,hq,.pass (x:=.inLoop c) rfl (fun _ _=>.inl (by simp)) harr⟩
 | panic ch=>exact ⟨_,a₁,w₁,hq,.pass (x:=.inLoop c) rfl (fun _ _=>.inl (by simp)) harr⟩
 | outgrown=>exact ⟨_,a₁,w₁,hq,.pass (x:=.inLoop c) rfl (fun _ _=>.inl (by simp)) harr⟩
theorem ET:∀ {n:Nat} {p:List ag -> Prop},(∀ vs,vs.length = n -> p vs) -> KZ n p
 | 0,p,h=>h [] rfl
 | n + 1,p,h=>fun a=>ET fun vs hv=>h (a :: vs) (by simp [hv])
theorem Hn:∀ {n:Nat} {p:List ag -> Prop},KZ n p -> ∀ vs,vs.length = n -> p vs
 | 0,p,h,vs,hv=>by cases vs with
  | nil=>exact h
  | cons v vs=>simp at hv
 | n + 1,p,h,vs,hv=>by cases vs with
  | nil=>simp at hv
  | cons v vs=>exact Hn (h v) vs (by simpa using hv)
theorem pS {env:Env}:∀ {ts:List Nat} {K:List ag -> Prop},vX env ts K -> ∃ vs,vs.length = ts.length /\ K vs /\ ∀ tmps,lZ env tmps -> lZ (u5 ts vs) tmps
 | [],K,h=>⟨[],rfl,h,fun _ _ t v ht=>by simp [u5] at ht⟩
 | t :: ts,K,h=>by
  simp only [vX] at h
  split at h
  ·rename_i v hv
   obtain ⟨vs,h1,h2,h3⟩:=pS h
   refine ⟨v :: vs,by simp [h1],h2,fun tmps he x u hx=>?_⟩
   simp only [u5] at hx
   cases hb:Nat.beq x t with
   | true=>
    rw [hb] at hx
    simp only [cond_true] at hx
    injection hx with hx; subst hx
    rw [Nat.eq_of_beq_eq_true hb]
    exact he t v hv
   | false=>rw [hb] at hx; exact h3 tmps he x u hx
  ·exact h.elim
def nL (cx:Cx):Code -> Ann -> Prop
 | .region id ops draw,an=>draw = true -> match an with
  | .ord l=>∀ (B:j1) (n:Nat) (Q:Exit -> Env -> ah -> Prop) (a:Act) (w:World),(∀ o ∈ ops.toList,∀ t,o.dst = some t -> t < n) -> StU B n (Hk cx ops l (Q .normal)) a w ->
   (Code.region id ops true).wp cx.P (lift B n Q) a w
  | _=>True
 | .seq x y,an=>nL cx x an.fst /\ nL cx y an.snd
 | .cond _ x y,an=>nL cx x an.fst /\ nL cx y an.snd
 | .block _ c,an=>nL cx c an
 | .loop c,an=>match an with
  | .loop _ _ a=>nL cx c a
  | _=>True
 | _,_=>True
theorem sR {n:Nat} {Q Q':Exit -> Act -> World -> Prop} {c:Code} {a:Act} {w:World} {P:Program} (h:c.wp P Q a w) (hq:∀ e a w,Q e a w -> Q' e a w):c.wp P Q' a w:=wp_mono h hq
include hcx in
theorem mz {n:Nat}:∀ (c:Code) (an:Ann) (Q:Exit -> Env -> ah -> Prop) (a:Act) (w:World),sb n c = true -> nL cx c an -> St B n (awp cx c an Q) a w -> c.wp cx.P (lift B n Q) a w
 | .skip,an,Q,a,w,_,_,h=>wp_skip h
 | .exit id,an,Q,a,w,_,_,h=>wp_exit h
 | .ret,an,Q,a,w,_,_,h=>wp_ret h
 | .region id ops draw,an,Q,a,w,hd,hdr,h=>by
  have hd':∀ o ∈ ops.toList,∀ t,o.dst = some t -> t < n:=by
   intro o ho t ht
   simp only [sb,List.all_eq_true] at hd
   have:=hd o ho
   rw [ht] at this
   simpa [Nat.blt_eq] using this
  cases draw with
  | false=>
   obtain ⟨h1,h2,env,G,he,hr,h⟩:=h
   exact wp_region_list (rq hcx ops.toList hd' ⟨h1,h2,[],[],env,G,xH.nil _,he,hr,h⟩)
  | true=>
   simp only [awp,cond_true] at h
   simp only [nL] at hdr
   have hdr:=hdr trivial
   split at hdr
   ·obtain ⟨h1,h2,env,G,he,hr,h⟩:=h
    exact hdr B n Q a w hd' ⟨h1,h2,[],[],env,G,xH.nil _,he,hr,h⟩
   ·rename_i hne
    obtain ⟨_,_,env,G,_,_,h⟩:=h
    split at h
    ·exact absurd rfl (hne _)
    ·exact h.elim
 | .seq x y,an,Q,a,w,hd,hdr,h=>by
  simp only [sb,Bool.and_eq_true] at hd
  have plain:St B n (awp cx x an.fst (Ff (awp cx y an.snd Q) Q)) a w -> (Code.seq x y).wp cx.P (lift B n Q) a w:=fun h=>by
   refine wp_seq (sR (n:=n) (mz x an.fst _ a w hd.1 hdr.1 h) fun e a w q=>?_)
   cases e with
   | normal=>exact mz y an.snd Q a w hd.2 hdr.2 q
   | _=>exact q
  cases an with
  | cut live rows an1 an2=>
   obtain ⟨h1,h2,env,G,he,hr,h⟩:=h
   simp only [awp] at h
   have key:=h (fun vs G=>awp cx y an2 Q (u5 live vs) G) (ru fun vs G hb=>hb)
   refine wp_seq (sR (n:=n) (mz x an1 _ a w hd.1 hdr.1 ⟨h1,h2,env,G,he,hr,key⟩) fun e a w q=>?_)
   cases e with
   | normal=>
    obtain ⟨q1,q2,env',G',qe,qr,q⟩:=q
    obtain ⟨vs',k1,k2,k3⟩:=pS q
    exact mz y an2 Q a w hd.2 hdr.2 ⟨q1,q2,u5 live vs',G',k3 _ qe,qr,k2⟩
   | _=>exact q
  | nil=>exact plain h
  | two _ _=>exact plain h
  | loop _ _ _=>exact plain h
  | ord _=>exact plain h
 | .cond c x y,an,Q,a,w,hd,hdr,⟨h1,h2,env,G,he,hr,h⟩=>by
  simp only [sb,Bool.and_eq_true] at hd
  simp only [awp] at h
  unfold brB at h
  split at h
  ·rename_i b hb
   cases b with
   | true=>exact wp_cond_true (by rw [df he hb]; rfl) (mz x an.fst Q a w hd.1 hdr.1 ⟨h1,h2,env,G,he,hr,h⟩)
   | false=>exact wp_cond_false (by rw [df he hb]; rfl) (mz y an.snd Q a w hd.2 hdr.2 ⟨h1,h2,env,G,he,hr,h⟩)
  ·exact h.elim
 | .block id c,an,Q,a,w,hd,hdr,h=>by
  refine wp_block (sR (n:=n) (mz c an _ a w hd hdr h) fun e a w q=>?_)
  cases e with
  | exit id'=>
   simp only [Exit.inBlock]
   simp only [lift,Dd] at q
   by_cases hid:id' = id
   ·subst hid
    simp only [if_true]
    refine q.mono fun env G hq=>?_
    rw [show Nat.beq id' id' = true by simp] at hq
    exact hq
   ·simp only [hid,if_false]
    refine q.mono fun env G hq=>?_
    have:Nat.beq id' id = false:=by
     cases hb:Nat.beq id' id with
     | false=>rfl
     | true=>exact absurd (Nat.eq_of_beq_eq_true hb) hid
    rw [this] at hq
    exact hq
  | _=>exact q
 | .loop c,an,Q,a,w,hd,hdr,⟨h1,h2,env,G,he,hr,h⟩=>by
  cases an with
  | loop live rows an'=>
   simp only [awp] at h
   have key:=h (fun vs G=>vs.length = live.length -> ∀ a w,a.defers = [] -> a.tmps.size = n -> lZ (u5 live vs) a.tmps -> Rel B G w -> B8 cx.P c (lift B n Q) a w) ?_
   ·obtain ⟨vs,k1,k2,k3⟩:=pS key
    exact A8 (k2 k1 a w h1 h2 (k3 _ he) hr)
   ·refine ru fun vs G hb hlen a w g1 g2 ge gr=>?_
    refine BH (sR (n:=n) (mz c an' _ a w hd hdr ⟨g1,g2,_,G,ge,gr,hb⟩) fun e a w q=>?_)
    cases e with
    | normal=>
     obtain ⟨q1,q2,env',G',qe,qr,q⟩:=q
     obtain ⟨vs',k1,k2,k3⟩:=pS q
     exact k2 k1 a w q1 q2 (k3 _ qe) qr
    | _=>exact q
  | _=>simp only [awp] at h
 | .rangeFunc ..,an,Q,a,w,_,_,⟨_,_,_,_,_,_,h⟩=>by simp only [awp] at h
 | .scope ..,an,Q,a,w,_,_,⟨_,_,_,_,_,_,h⟩=>by simp only [awp] at h
 | .label ..,an,Q,a,w,_,_,⟨_,_,_,_,_,_,h⟩=>by simp only [awp] at h
 | .goto ..,an,Q,a,w,_,_,⟨_,_,_,_,_,_,h⟩=>by simp only [awp] at h
 | .refuse ..,an,Q,a,w,_,_,⟨_,_,_,_,_,_,h⟩=>by simp only [awp] at h
end
end Go.Esc
