import Derived.Test.YtkojimdacnohpaaGreatDoorLCy
import Derived.Test.YtkojimdacnohpaaGreatDoorLHb
set_option maxHeartbeats 1000000
set_option linter.unusedSimpArgs false
set_option linter.unusedVariables false
set_option maxRecDepth 20000
namespace Go.Esc
open Go Go.RowKit
def mX (id:AId) (es:List (ag × ag)):LP where
 p:=fun G F=>G id = some (.map es) /\ F = [id]
 rows:=by rintro G F ⟨h,rfl⟩ j hj; simp at hj; subst hj; simp [h]
 loc:=by rintro G G' F ⟨h,rfl⟩ hs; exact ⟨by rw [hs id (by simp)]; exact h,rfl⟩
theorem mX.own {F0:List AId} {G0 G:ah} {ps:List LP} {i:Nat} {id:AId} {es:List (ag × ag)} (h:Sp F0 G0 ps G) (hi:ps[i]? = some (mX id es)):G id = some (.map es):=by
 obtain ⟨F,h,_⟩:=h.get hi
 exact h
theorem Sp.sH {F0:List AId} {G0 G:ah} {ps:List LP} {j:Nat} {i:AId} {es:List (ag × ag)} (h:Sp F0 G0 ps G) (hj:ps[j]? = some (mX i es)) (es':List (ag × ag)):Sp F0 G0 (ps.set j (mX i es')) (G.upd i (.map es')):=by
 refine h.call hj (mX i es') fun F h k=>?_
 obtain ⟨h,rfl⟩:=h
 exact k _ _ ⟨ah.fc _ _ _,rfl⟩ ⟨rT h (by simp),fun j x hj hn=>by rw [ah.lF _ _ (fun e=>hn (by simp [e]))]; exact hj,fun j hj=>.inl hj⟩
def nP (ct cf:Nat):List (ag × ag):=(if ct = 0 then [] else [(.bool true,.int .i64 (ct:Int))]) ++ (if cf = 0 then [] else [(.bool false,.int .i64 (cf:Int))])
def lmap (lt lf:Int):List (ag × ag):=[(.bool true,.int .i64 lt),(.bool false,.int .i64 lf)]
section
variable {T:Tbl} {t kt et:TypeId} {i ki ei:TI} (ht:T t = some i) (hd:i.desc = .map kt et) (hk:T kt = some ki) (hkd:ki.desc = .bool) (he:T et = some ei) (hez:ei.zero = .int .i64 0) {G:ah} {id:AId}
include ht hd hk hkd he hez in
theorem GW {ct cf:Nat} (hg:G id = some (.map (nP ct cf))) (b:Bool):ja T G t (.map id) (.bool b) false = some (.int .i64 ((bif b then ct else cf:Nat):Int)):=by
 have hf:jX ki.desc (.bool b) = true:=by rw [hkd]; rfl
 by_cases h1:ct = 0 <;> by_cases h2:cf = 0 <;> cases b <;> simp [ja,ht,hd,hk,he,hf,rY,hg,nP,h1,h2,nv,tz,hez]
include ht hd hk hkd in
theorem GV {ct:Nat} {K:ah -> Prop} (hg:G id = some (.map (nP ct 0))) (hK:K (G.upd id (.map (nP (ct + 1) 0)))):gh T G t (.map id) (.bool true) (.int .i64 ((ct + 1:Nat):Int)) K:=by
 have hf:jX ki.desc (.bool true) = true:=by rw [hkd]; rfl
 by_cases h1:ct = 0
 ·subst h1
  simp only [gh,ht,hd,hk,hg]
  exact ⟨hf,hK⟩
 ·have e1:nP ct 0 = [(.bool true,.int .i64 (ct:Int))]:=by simp [nP,h1]
  have e2:nP (ct + 1) 0 = [(.bool true,.int .i64 ((ct + 1:Nat):Int))]:=by simp [nP]
  rw [e1] at hg
  rw [e2] at hK
  simp only [gh,ht,hd,hk,hg]
  exact ⟨hf,hK⟩
include ht hd hk hkd in
theorem EH {ct cf:Nat} {K:ah -> Prop} (hg:G id = some (.map (nP ct cf))) (hK:K (G.upd id (.map (nP ct (cf + 1))))):gh T G t (.map id) (.bool false) (.int .i64 ((cf + 1:Nat):Int)) K:=by
 have hf:jX ki.desc (.bool false) = true:=by rw [hkd]; rfl
 by_cases h1:ct = 0 <;> by_cases h2:cf = 0
 ·subst h1 h2
  simp only [gh,ht,hd,hk,hg]
  exact ⟨hf,hK⟩
 ·have e1:nP ct cf = [(.bool false,.int .i64 (cf:Int))]:=by simp [nP,h1,h2]
  have e2:nP ct (cf + 1) = [(.bool false,.int .i64 ((cf + 1:Nat):Int))]:=by simp [nP,h1]
  rw [e1] at hg
  rw [e2] at hK
  simp only [gh,ht,hd,hk,hg]
  exact ⟨hf,hK⟩
 ·have e1:nP ct cf = [(.bool true,.int .i64 (ct:Int))]:=by simp [nP,h1,h2]
  have e2:nP ct (cf + 1) = [(.bool true,.int .i64 (ct:Int)),(.bool false,.int .i64 ((cf + 1:Nat):Int))]:=by simp [nP,h1]
  rw [e1] at hg
  rw [e2] at hK
  subst h2
  simp only [gh,ht,hd,hk,hg]
  exact ⟨hf,hK⟩
 ·have e1:nP ct cf = [(.bool true,.int .i64 (ct:Int)),(.bool false,.int .i64 (cf:Int))]:=by simp [nP,h1,h2]
  have e2:nP ct (cf + 1) = [(.bool true,.int .i64 (ct:Int)),(.bool false,.int .i64 ((cf + 1:Nat):Int))]:=by simp [nP,h1]
  rw [e1] at hg
  rw [e2] at hK
  simp only [gh,ht,hd,hk,hg]
  exact ⟨hf,hK⟩
include ht hd hk in
theorem BG {es:List (ag × ag)} {k v:ag} {r:Option (Nat × ag)} {K:ah -> Prop} (hg:G id = some (.map es)) (hf:jX ki.desc k = true) (hr:nv k es 0 = some r)
  (hK:K (G.upd id (.map (match r with | some (j,_)=>es.set j (k,v) | none=>es ++ [(k,v)])))):gh T G t (.map id) k v K:=by
 simp only [gh,ht,hd,hk,hg,hr]
 refine ⟨hf,?_⟩
 cases r with
 | none=>exact hK
 | some x=>exact hK
include ht hd hk hkd he in
theorem Gw {lt lf:Int} (hg:G id = some (.map (lmap lt lf))) (b:Bool):ja T G t (.map id) (.bool b) false = some (.int .i64 (bif b then lt else lf)):=by
 have hf:jX ki.desc (.bool b) = true:=by rw [hkd]; rfl
 cases b <;> simp [ja,ht,hd,hk,he,hf,rY,hg,lmap,nv,tz]
include ht hd hk hkd in
theorem Im {lt lf n:Int} {b:Bool} {K:ah -> Prop} (hg:G id = some (.map (lmap lt lf))) (hK:K (G.upd id (.map (lmap (bif b then n else lt) (bif b then lf else n))))):gh T G t (.map id) (.bool b) (.int .i64 n) K:=by
 have hf:jX ki.desc (.bool b) = true:=by rw [hkd]; rfl
 cases b
 ·simp only [gh,ht,hd,hk,hg]
  exact ⟨hf,hK⟩
 ·simp only [gh,ht,hd,hk,hg]
  exact ⟨hf,hK⟩
end
end Go.Esc
namespace Go.Esc.M
open Go Go.Esc
structure ba where
 ours:Bool
 id:Int
 amount:Int
 hash:List UInt8
 deriving DecidableEq
def ba.av (p:ba):ag:=.agg [.bool p.ours,.int .i64 p.id,.int .i64 p.amount,.agg (p.hash.map u8v)]
structure ba.ok (p:ba):Prop where
 id:I64 p.id
 amount:I64 p.amount
 hash:p.hash.length = 32
theorem ba.sz {p:ba} (h:p.ok):sz p.av = 35:=by
 have h1:szs (p.hash.map u8v) = 32:=by rw [gv (n:=1) (ji p.hash)]; simp [h.hash]
 simp [ba.av,Esc.sz,szs,h1]
theorem ba.fits {p:ba} (h:p.ok):fa eB p.av = true:=by
 have h1:=ba.sz h
 have h2:p.av.isAgg = true:=rfl
 simp [fa,h1,h2,eB,j4.isAgg]
theorem ba.okv (p:ba):okv p.av = true:=by simp [ba.av,Esc.okv,kT,jx]
theorem ba.fld {G:ah} {i:AId} {p:ba} (h:p.ok) (hg:G i = some (.own p.av)) :
  lq T G ey (.ptr i [0] 0) = some (.bool p.ours) /\ lq T G me (.ptr i [1] 1) = some (.int .i64 p.id) /\ lq T G me (.ptr i [2] 2) = some (.int .i64 p.amount) /\ lq T G aj (.ptr i [3] 3) = some (.agg (p.hash.map u8v)):=by
 have h1:szs (p.hash.map u8v) = 32:=by rw [gv (n:=1) (ji p.hash)]; simp [h.hash]
 refine ⟨dQ (c:=.bool p.ours) hg rfl rfl rfl kC rfl,dQ (c:=.int .i64 p.id) hg rfl rfl rfl cA rfl,dQ (c:=.int .i64 p.amount) hg rfl rfl rfl cA rfl,dQ (c:=.agg (p.hash.map u8v)) hg rfl rfl rfl cd ?_⟩
 simp [fa,Esc.sz,h1,fE,ag.isAgg,j4.isAgg]
def gn (o p:Int) (v:ag):ag:=.agg [.int .i64 o,.int .i64 p,v]
def ij:Int:=1152921504606846976
def k6:Int -> Int -> Nat -> Nat -> List ba -> Option (Nat × Nat)
 | _,_,ct,cf,[]=>some (ct,cf)
 | lt,lf,ct,cf,p :: l=>
  if p.amount < 1 \/ ij < p.amount \/ p.id ≤ (bif p.ours then lt else lf) \/ (p.ours = true /\ 0 < cf) then none
  else bif p.ours then k6 p.id lf (ct + 1) cf l else k6 lt p.id ct (cf + 1) l
def few (r:Option (Nat × Nat)):Bool :=
 match r with
 | none=>false
 | some (a,b)=>decide (a ≤ 483) && decide (b ≤ 483)
def j6 (o q:Int) (l:List ba):Bool:=decide (0 ≤ o) && decide (o ≤ ij) && decide (0 ≤ q) && decide (q ≤ ij) && few (k6 (-1) (-1) 0 0 l)
section
variable {G:ah} {Q:ag -> ah -> Prop}
theorem j8 {i:AId} {o q:Int} {v:ag} (hv:sz v = 1) (hva:v.isAgg = false) (hg:G i = some (.own (gn o q v))) :
  lq T G me (.ptr i [0] 0) = some (.int .i64 o) /\ lq T G me (.ptr i [1] 1) = some (.int .i64 q) /\ lq T G aq (.ptr i [2] 2) = some v /\ lq T G bc (.ptr i [] 0) = some (gn o q v):=by
 refine ⟨dQ (c:=.int .i64 o) hg rfl rfl rfl cA rfl,dQ (c:=.int .i64 q) hg rfl rfl rfl cA rfl,dQ (c:=v) hg rfl rfl rfl cq ?_,cJ mG hg ?_⟩
 ·simp [fa,hv,hva,bU,j4.isAgg]
 ·simp [fa,gn,sz,szs,hv,kb,ag.isAgg,j4.isAgg]
theorem sG {n:Nat} {v:ag} {vs:List ag} (h:fV n G v vs):sz v = 1 /\ v.isAgg = false /\ okv v = true:=by
 rcases h with ⟨_,_,_,_,_,_,rfl,_⟩ | ⟨rfl,_⟩ <;> exact ⟨rfl,rfl,rfl⟩
theorem tU {v:ag} {l:List ba} {j:Nat} {p:ba} (h:fV 35 G v (l.map ba.av)) (hj:l[j]? = some p):∃ a,aL T aq v (.int .i64 (j:Int)) = some a /\ lq T G aU a = some p.av :=
 h.at_ (k:=.i64) (i:=bU) (ie:=eB) (T:=T) (t:=aq) (e:=aU) cq rfl fk (by rw [List.getElem?_map,hj]; rfl) rfl
theorem gC.use {o q:Int} {v:ag} {l:List ba} (hl:fV 35 G v (l.map ba.av)) (hok:∀ p ∈ l,p.ok) (hlen:l.length ≤ 9223372036854775807) (hQ:∀ G',Ch [] G [] G' -> Q (.bool (j6 o q l)) G') :
  al P gC.n [gn o q v] G Q:=by
 obtain ⟨hv1,hv2,_⟩:=sG hl
 refine gC.sound ?_
 unfold gC.S
 obtain ⟨mA,hmA⟩:∃ m,m = (1152921504606846976:Int):=⟨_,rfl⟩
 rw [<- hmA]
 have hmax:ij = mA:=by rw [hmA]; rfl
 intro i1 f1
 have s1:=(Sp.nil G).row f1 (gn o q v)
 obtain ⟨f0,f1',f2,_⟩:=j8 hv1 hv2 (ar.own (i:=0) s1 rfl)
 revert s1 f0 f1' f2
 generalize G.upd i1 (.own (gn o q v)) = G2
 intro s1 f0 f1' f2 J62
 have hbad:j6 o q l = false -> J62 (.bool true) G2:=by
  intro h
  simp -zeta only [J62,aX]
  rw [<- h]
  exact hQ _ s1.ch
 have hgood:j6 o q l = few (k6 (-1) (-1) 0 0 l) -> J62 (.bool false) G2:=by
  intro he
  rw [he] at hQ
  simp -zeta only [J62,aM]
  intro i13 f13
  have s14:=s1.new (p:=mX i13 (nP 0 0)) ⟨ah.fc _ _ _,rfl⟩ (Ch.new f13)
  intro i15 f15
  have s16:=s14.new (p:=mX i15 []) ⟨ah.fc _ _ _,rfl⟩ (Ch.new f15)
  refine BG (T:=T) (i:=jn) mE rfl kC (r:=none) (mX.own (i:=0) s16 rfl) rfl rfl ?_
  have s17:=Sp.sH s16 (j:=0) rfl [(.bool true,.int .i64 (-1))]
  refine BG (T:=T) (i:=jn) mE rfl kC (r:=none) (mX.own (i:=0) s17 rfl) rfl rfl ?_
  have s18:Sp [] G [mX i15 (lmap (-1) (-1)),mX i13 (nP 0 0),ar i1 (gn o q v)] _:=Sp.sH s17 (j:=0) rfl (lmap (-1) (-1))
  have hl18:=hl.ch' s18.ch
  refine ae (j8 hv1 hv2 (ar.own (i:=2) s18 rfl)).2.2.1 ?_
  refine ae (hl18.len (i:=bU) cq rfl) ?_
  rw [List.length_map]
  intro R21 hR21
  have look1:∀ {G':ah} {ct cf:Nat},G' i13 = some (.map (nP ct cf)) -> ∀ b,ja T G' ko (.map i13) (.bool b) false = some (.int .i64 ((bif b then ct else cf:Nat):Int)):=fun hg b=>GW (T:=T) (i:=kD) pI rfl kC rfl hO rfl hg b
  have look2:∀ {G':ah} {lt lf:Int},G' i15 = some (.map (lmap lt lf)) -> ∀ b,ja T G' kj (.map i15) (.bool b) false = some (.int .i64 (bif b then lt else lf)):=fun hg b=>Gw (T:=T) (i:=jn) mE rfl kC rfl cA hg b
  have loop:∀ (n j:Nat) (lt lf:Int) (ct cf:Nat) (G':ah),l.length - j = n -> j ≤ l.length -> ct ≤ j -> cf ≤ j -> (∀ b,few (k6 lt lf ct cf (l.drop j)) = b -> few (k6 (-1) (-1) 0 0 l) = b) ->
    Sp [] G [mX i15 (lmap lt lf),mX i13 (nP ct cf),ar i1 (gn o q v)] G' -> R21 [.map i13,.map i15,v,.int .i64 (l.length:Nat),.int .i64 (j:Int)] G':=by
   intro n
   induction n with
   | zero=>
    intro j lt lf ct cf G' hn hj hct hcf hb hs
    have:j = l.length:=by omega
    subst this
    have g13:=mX.own (i:=1) hs rfl
    rw [List.drop_length] at hb
    have hb:=hb _ rfl
    refine hR21 _ _ _ _ _ _ ?_
    rw [aH,aa,aE]
    refine ⟨fun h=>absurd h (by omega),fun _=>?_⟩
    rw [look1 g13,aa,jl,aa,look1 g13,aE]
    refine ⟨fun h1=>?_,fun h1=>?_⟩
    ·rw [aa,jl,aa]
     have:=hQ _ hs.ch
     rw [hb] at this
     have e:few (k6 lt lf ct cf []) = decide ((((bif false then ct else cf:Nat)):Int) ≤ 483):=by
      have h1:ct ≤ 483:=by have:((ct:Nat):Int) ≤ 483:=h1; omega
      simp only [k6,few,cond_false,decide_eq_true h1,Bool.true_and]
      rw [decide_eq_decide]
      omega
     rw [<- e]
     exact this
    ·have:=hQ _ hs.ch
     rw [hb] at this
     have e:few (k6 lt lf ct cf []) = false:=by
      have h1:¬ ct ≤ 483:=fun h=>h1 (by show ((ct:Nat):Int) ≤ 483; omega)
      simp only [k6,few,decide_eq_false h1,Bool.false_and]
     rw [e] at this
     exact this
   | succ n ih=>
    intro j lt lf ct cf G' hn hj hct hcf hb hs
    have hjl:j < l.length:=by omega
    obtain ⟨p,hp⟩:∃ p,l[j]? = some p:=⟨_,List.getElem?_eq_getElem hjl⟩
    have hpo:=hok p (List.mem_of_getElem? hp)
    obtain ⟨a,ha,hla⟩:=tU (hl.ch' hs.ch) hp
    have hdr:l.drop j = p :: l.drop (j + 1):=by
     obtain ⟨hx,rfl⟩:=List.getElem?_eq_some_iff.1 hp
     exact List.drop_eq_getElem_cons hx
    rw [hdr,k6] at hb
    refine hR21 _ _ _ _ _ _ ?_
    rw [aH,aa,aE]
    refine ⟨fun _=>?_,fun h=>absurd (by omega) h⟩
    rw [ha,aa,hla,aa]
    refine jQ hs fk (ba.fits hpo) (by rw [ba.sz hpo]; rfl) (ba.okv p) fun i31 G33 s33=>?_
    have g15:=mX.own (i:=1) s33 rfl
    have g13:=mX.own (i:=2) s33 rfl
    obtain ⟨k0,k1,k2,_⟩:=ba.fld hpo (ar.own (i:=0) s33 rfl)
    intro J54
    have jbad:few none = few (k6 (-1) (-1) 0 0 l) -> J54 (.bool true) G33:=by
     intro h
     simp -zeta only [J54,aX]
     have:=hQ _ s33.ch
     rw [<- h] at this
     exact this
    have jok:(∀ b,few (bif p.ours then k6 p.id lf (ct + 1) cf (l.drop (j + 1)) else k6 lt p.id ct (cf + 1) (l.drop (j + 1))) = b -> few (k6 (-1) (-1) 0 0 l) = b) -> (p.ours = true -> cf = 0) -> J54 (.bool false) G33:=by
     intro hnext hcf0
     simp -zeta only [J54,aM]
     rw [k0,aa,k1,aa]
     refine Im (T:=T) (i:=jn) mE rfl kC rfl g15 ?_
     have s49:=Sp.sH s33 (j:=1) rfl (lmap (bif p.ours then p.id else lt) (bif p.ours then lf else p.id))
     obtain ⟨k0',_⟩:=ba.fld hpo (ar.own (i:=0) s49 rfl)
     have g13':=mX.own (i:=2) s49 rfl
     refine ae k0' ?_
     refine ae (look1 g13' p.ours) ?_
     rw [wi,aa]
     cases hpo2:p.ours with
     | true=>
      have h0:=hcf0 hpo2
      subst h0
      rw [hpo2] at hnext s49 g13'
      simp only [cond_true] at hnext s49 ⊢
      rw [i64_in (by omega) (by omega),show ((ct:Int) + 1) = ((ct + 1:Nat):Int) by omega]
      refine GV (T:=T) (i:=kD) pI rfl kC rfl g13' ?_
      rw [wi,aa,i64_in (by omega) (by omega)]
      exact ih (j + 1) p.id lf (ct + 1) 0 _ (by omega) (by omega) (by omega) (by omega) hnext ((Sp.sH s49 (j:=2) rfl (nP (ct + 1) 0)).erase 0)
     | false=>
      rw [hpo2] at hnext s49 g13'
      simp only [cond_false] at hnext s49 ⊢
      rw [i64_in (by omega) (by omega),show ((cf:Int) + 1) = ((cf + 1:Nat):Int) by omega]
      refine EH (T:=T) (i:=kD) pI rfl kC rfl g13' ?_
      rw [wi,aa,i64_in (by omega) (by omega)]
      exact ih (j + 1) lt p.id ct (cf + 1) _ (by omega) (by omega) (by omega) (by omega) hnext ((Sp.sH s49 (j:=2) rfl (nP ct (cf + 1))).erase 0)
    rw [k2,aa,aH,aa,aE]
    refine ⟨fun h1=>jbad (hb _ (by rw [if_pos (.inl h1)])).symm,fun h1=>?_⟩
    rw [aa,de,aa,aE]
    refine ⟨fun h2=>jbad (hb _ (by rw [if_pos (.inr (.inl (by rw [hmax]; exact h2)))])).symm,fun h2=>?_⟩
    rw [k1,aa,k0,aa,look2 g15,aa,jl,aa,aE]
    refine ⟨fun h3=>jbad (hb _ (by rw [if_pos (.inr (.inr (.inl h3)))])).symm,fun h3=>?_⟩
    rw [aa]
    rw [iE]
    refine ⟨fun h4=>?_,fun h4=>?_⟩
    ·rw [look1 g13,aa,de,aa]
     by_cases h5:0 < cf
     ·have e5:decide ((0:Int) < ((bif false then ct else cf:Nat):Int)) = true:=by
       rw [decide_eq_true_eq]
       show (0:Int) < (cf:Int)
       omega
      rw [e5]
      exact jbad (hb _ (by rw [if_pos (.inr (.inr (.inr ⟨h4,h5⟩)))])).symm
     ·have e5:decide ((0:Int) < ((bif false then ct else cf:Nat):Int)) = false:=by
       rw [decide_eq_false_iff_not]
       show ¬ (0:Int) < (cf:Int)
       omega
      rw [e5]
      refine jok (fun b h=>hb b ?_) fun _=>by omega
      rw [if_neg (fun h=>by rcases h with h | h | h | h; exact h1 h; exact h2 (by rw [<- hmax]; exact h); exact h3 h; exact h5 h.2)]
      exact h
    ·refine jok (fun b h=>hb b ?_) fun h=>by rw [h4] at h; cases h
     rw [if_neg (fun h=>by rcases h with h | h | h | h; exact h1 h; exact h2 (by rw [<- hmax]; exact h); exact h3 h; rw [h4] at h; cases h.1)]
     exact h
  exact loop _ 0 (-1) (-1) 0 0 _ rfl (by omega) (by omega) (by omega) (fun b h=>h) s18
 rw [f0,aa,aH,aa,aE]
 refine ⟨fun h=>hbad ?_,fun h0=>?_⟩
 ·simp only [j6,decide_eq_false (show ¬ 0 ≤ o by omega),Bool.false_and]
 rw [aa,de,aa,aE]
 refine ⟨fun h=>hbad ?_,fun h1=>?_⟩
 ·simp only [j6,decide_eq_false (show ¬ o ≤ ij by rw [hmax]; omega),Bool.false_and,Bool.and_false]
 rw [f1',aa,aH,aa,aE]
 refine ⟨fun h=>hbad ?_,fun h2=>?_⟩
 ·simp only [j6,decide_eq_false (show ¬ 0 ≤ q by omega),Bool.false_and,Bool.and_false]
 rw [aa,de,aa]
 by_cases h3:mA < q
 ·rw [decide_eq_true h3]
  refine hbad ?_
  simp only [j6,decide_eq_false (show ¬ q ≤ ij by rw [hmax]; omega),Bool.false_and,Bool.and_false]
 ·rw [decide_eq_false h3]
  refine hgood ?_
  simp only [j6,decide_eq_true (show 0 ≤ o by omega),decide_eq_true (show 0 ≤ q by omega),decide_eq_true (show o ≤ ij by rw [hmax]; omega),decide_eq_true (show q ≤ ij by rw [hmax]; omega),Bool.true_and]
end
end Go.Esc.M
namespace Go.Esc.M
open Go Go.Esc
def ba.bytes (p:ba):List UInt8:=be 1 (bif p.ours then 1 else 0) ++ (be 8 (jr p.id) ++ (be 8 (jr p.amount) ++ p.hash))
theorem ba.re {p:ba} (h:p.ok):p.bytes.length = 49:=by simp [ba.bytes,hI,h.hash]
def ux (owner index:Int) (point:List UInt8) (o q:Int) (l:List ba):List UInt8 :=
 be 1 owner.toNat ++ (be 8 (jr index) ++ (point ++ (be 8 (jr o) ++ (be 8 (jr q) ++ (be 2 l.length ++ l.flatMap ba.bytes)))))
def uM:Int:=281474976710655
def qc (owner index:Int):Prop:=owner < 0 \/ 1 < owner \/ index < 0 \/ uM < index
instance (owner index:Int):Decidable (qc owner index):=inferInstanceAs (Decidable (_ \/ _ \/ _ \/ _))
def nC (owner index:Int) (point:List UInt8) (o q:Int) (l:List ba):List UInt8 × Int :=
 if qc owner index then ([],1) else bif j6 o q l then (ux owner index point o q l,0) else ([],4)
theorem rR:∀ (l:List ba) {lt lf:Int} {ct cf a b:Nat},k6 lt lf ct cf l = some (a,b) -> a + b = ct + cf + l.length
 | [],lt,lf,ct,cf,a,b,h=>by
  simp only [k6,Option.some.injEq,Prod.mk.injEq] at h
  simp; omega
 | p :: l,lt,lf,ct,cf,a,b,h=>by
  rw [k6] at h
  split at h
  ·cases h
  ·cases hp:p.ours with
   | true=>
    rw [hp] at h
    have:=rR l h
    simp; omega
   | false=>
    rw [hp] at h
    have:=rR l h
    simp; omega
theorem p5 {o q:Int} {l:List ba} (h:j6 o q l = true):l.length ≤ 966:=by
 unfold j6 at h
 simp only [Bool.and_eq_true] at h
 have h:=h.2
 unfold few at h
 split at h
 ·cases h
 ·rename_i a b he
  have:=rR l he
  simp only [Bool.and_eq_true,decide_eq_true_eq] at h
  omega
section
variable {F0:List AId} {G0 G:ah} {ps:List LP} {Q:ag -> ah -> Prop}
theorem wr {id:AId} {bs xs:List UInt8} {n:FuncId} {args:List ag} {i:Nat} {K:ag -> ah -> Prop} (hs:Sp F0 G0 ps G) (hi:ps[i]? = some (WrL id bs 0))
  (huse:∀ {G:ah} {F:List AId} {Q:ag -> ah -> Prop},Wr id (bs,0) G F -> (∀ F' G',Wr id (laid (bs,0) xs) G' F' -> Ch F G F' G' -> Q (.tuple []) G') -> al P n args G Q)
  (hK:∀ G',Sp F0 G0 (ps.set i (WrL id (bs ++ xs) 0)) G' -> K (.tuple []) G'):al P n args G K:=by
 refine hs.call hi (WrL id (bs ++ xs) 0) fun F h k=>?_
 exact huse h fun F' G' w c=>hK _ (k F' G' w c)
theorem Fc (n:Int) (h0:0 ≤ n) (h1:n ≤ 255):gi T G au cg (.int .i64 n) = some (.int .u8 (n.toNat:Nat)):=by
 rw [iF hO dz rfl,u8_in h0 h1]
 congr 2
 omega
theorem gV.use {owner index o q:Int} {point:List UInt8} {v:ag} {l:List ba} (hp:point.length = 32) (hl:fV 35 G v (l.map ba.av)) (hok:∀ p ∈ l,p.ok) (hlen:l.length ≤ 9223372036854775807)
  (hQ:∀ G',Ch [] G [] G' -> Q (.tuple [.str (nC owner index point o q l).1,.int .i64 (nC owner index point o q l).2]) G') :
  al P gV.n [.int .i64 owner,.int .i64 index,.agg (point.map u8v),gn o q v] G Q:=by
 obtain ⟨hv1,hv2,_⟩:=sG hl
 refine gV.sound ?_
 unfold gV.S
 obtain ⟨mI,hmI⟩:∃ m,m = (281474976710655:Int):=⟨_,rfl⟩
 rw [<- hmI]
 have hmax:uM = mI:=by rw [hmI]; rfl
 intro i1 f1
 have s1:=(Sp.nil G).row f1 (.agg (point.map u8v))
 intro i3 f3
 have s3:=s1.row f3 (gn o q v)
 revert s3
 generalize ah.upd _ i3 (.own (gn o q v)) = G4
 intro s3 J71
 have hbad:qc owner index -> J71 (.bool true) G4:=by
  intro h
  simp -zeta only [J71,aX]
  have:=hQ _ s3.ch
  rw [nC,if_pos h] at this
  exact this
 have hgood:¬ qc owner index -> J71 (.bool false) G4:=by
  intro h
  rw [nC,if_neg h] at hQ
  have ho:owner = 0 \/ owner = 1:=by
   unfold qc at h
   omega
  simp -zeta only [J71,aM]
  refine ae (j8 hv1 hv2 (ar.own (i:=0) s3 rfl)).2.2.2 ?_
  refine gC.use (hl.ch' s3.ch) hok hlen fun G13 c13=>?_
  have s13:=s3.tmp c13
  rw [fN,aa]
  cases hsd:j6 o q l with
  | false=>
   rw [Bool.not_false,aX]
   have:=hQ _ s13.ch
   rw [hsd] at this
   exact this
  | true=>
   rw [Bool.not_true,aM]
   have hl966:=p5 hsd
   simp only [hsd,cond_true] at hQ
   refine iy.use fun iw G16 w16 c16=>?_
   have s16:=s13.new (p:=WrL iw [] 0) w16 c16
   refine ae (Fc owner (by omega) (by omega)) ?_
   refine wr (i:=0) s16 rfl (fun h k=>dg.use (by omega) h (by simp) k) fun G19 s19=>?_
   refine wr (i:=0) s19 rfl (fun h k=>bZ.use h (by simp [hI]) k) fun G21 s21=>?_
   refine ae (bE hp (ar.own (i:=2) s21 rfl)) ?_
   refine wr (i:=0) s21 rfl (fun h k=>cG.use hp h (by simp [hI]) k) fun G24 s24=>?_
   refine ae (j8 hv1 hv2 (ar.own (i:=1) s24 rfl)).1 ?_
   refine wr (i:=0) s24 rfl (fun h k=>bZ.use h (by simp [hI,hp]) k) fun G27 s27=>?_
   refine ae (j8 hv1 hv2 (ar.own (i:=1) s27 rfl)).2.1 ?_
   refine wr (i:=0) s27 rfl (fun h k=>bZ.use h (by simp [hI,hp]) k) fun G30 s30=>?_
   refine ae (j8 hv1 hv2 (ar.own (i:=1) s30 rfl)).2.2.1 ?_
   have hlen':∀ G',Ch [] G [] G' -> gF T G' aq v = some (.int .i64 (l.length:Nat)):=fun G' c=>by
    rw [(hl.ch' c).len (i:=bU) cq rfl,List.length_map]
   refine ae (hlen' _ s30.ch) ?_
   rw [iF hO DH rfl,aa,u16_in (by omega) (by omega)]
   refine wr (i:=0) s30 rfl (fun h k=>eL.use (by omega) h (by simp [hI,hp]) k) fun G35 s35=>?_
   refine ae (j8 hv1 hv2 (ar.own (i:=1) s35 rfl)).2.2.1 ?_
   refine ae (hlen' _ s35.ch) ?_
   intro R38 hR38
   obtain ⟨H,hH,hHl⟩:∃ H:List UInt8,[] ++ be 1 owner.toNat ++ be 8 (jr index) ++ point ++ be 8 (jr o) ++ be 8 (jr q) ++ be 2 l.length = H /\ H.length = 59:=⟨_,rfl,by simp [hI,hp]⟩
   have htb:ux owner index point o q l = H ++ l.flatMap ba.bytes:=by rw [<- hH]; simp [ux]
   rw [hH] at s35
   have hfm:∀ j,((l.take j).flatMap ba.bytes).length ≤ 49 * l.length:=by
    intro j
    have:∀ m:List ba,(∀ p ∈ m,p.ok) -> (m.flatMap ba.bytes).length = 49 * m.length:=by
     intro m hm
     induction m with
     | nil=>rfl
     | cons p m ih=>
      rw [List.flatMap_cons,List.length_append,ba.re (hm p (by simp)),ih (fun p hp=>hm p (by simp [hp])),List.length_cons]
      omega
    rw [this _ (fun p hp=>hok p (List.mem_of_mem_take hp)),List.length_take]
    omega
   have loop:∀ (n j:Nat) (G':ah),l.length - j = n -> j ≤ l.length -> Sp [] G [WrL iw (H ++ (l.take j).flatMap ba.bytes) 0,ar i3 (gn o q v),ar i1 (.agg (point.map u8v))] G' ->
     R38 [.ptr iw [] 0,v,.int .i64 (l.length:Nat),.int .i64 (j:Int)] G':=by
    intro n
    induction n with
    | zero=>
     intro j G' hn hj hs
     have:j = l.length:=by omega
     subst this
     rw [List.take_of_length_le (Nat.le_refl _),<- htb] at hs
     refine hR38 _ _ _ _ _ ?_
     rw [aH,aa,aE]
     refine ⟨fun h=>absurd h (by omega),fun _=>?_⟩
     obtain ⟨F,hw⟩:=hs.get (i:=0) rfl
     refine en.use (st:=(ux owner index point o q l,0)) hw ?_
     rw [Ka,aa,J9,aa,if_pos rfl]
     exact hQ _ hs.ch
    | succ n ih=>
     intro j G' hn hj hs
     obtain ⟨p,hp'⟩:∃ p,l[j]? = some p:=⟨_,List.getElem?_eq_getElem (by omega)⟩
     have hpo:=hok p (List.mem_of_getElem? hp')
     obtain ⟨a,ha,hla⟩:=tU (hl.ch' hs.ch) hp'
     have hfj:=hfm j
     refine hR38 _ _ _ _ _ ?_
     rw [aH,aa,aE]
     refine ⟨fun _=>?_,fun h=>absurd (by omega) h⟩
     rw [ha,aa,hla,aa]
     refine jQ hs fk (ba.fits hpo) (by rw [ba.sz hpo]; rfl) (ba.okv p) fun i47 G49 s49=>?_
     refine ae (ba.fld hpo (ar.own (i:=0) s49 rfl)).1 ?_
     intro J65
     have h65:∀ (G55:ah) (x:Nat),x = (bif p.ours then 1 else 0) -> Sp [] G [ar i47 p.av,WrL iw (H ++ (l.take j).flatMap ba.bytes ++ be 1 x) 0,ar i3 (gn o q v),ar i1 (.agg (point.map u8v))] G55 -> J65 G55:=by
      intro G55 x hx s55
      simp -zeta only [J65]
      refine ae (ba.fld hpo (ar.own (i:=0) s55 rfl)).2.1 ?_
      refine wr (i:=1) s55 rfl (fun h k=>bZ.use h (by simp only [List.length_append,hI]; omega) k) fun G58 s58=>?_
      refine ae (ba.fld hpo (ar.own (i:=0) s58 rfl)).2.2.1 ?_
      refine wr (i:=1) s58 rfl (fun h k=>bZ.use h (by simp only [List.length_append,hI]; omega) k) fun G61 s61=>?_
      refine ae (ba.fld hpo (ar.own (i:=0) s61 rfl)).2.2.2 ?_
      refine wr (i:=1) s61 rfl (fun h k=>cG.use hpo.hash h (by simp only [List.length_append,hI]; omega) k) fun G64 s64=>?_
      rw [wi,aa,i64_in (by omega) (by omega)]
      refine ih (j + 1) G64 (by omega) (by omega) ?_
      have e:H ++ (l.take (j + 1)).flatMap ba.bytes = H ++ (l.take j).flatMap ba.bytes ++ be 1 x ++ be 8 (jr p.id) ++ be 8 (jr p.amount) ++ p.hash:=by
       rw [List.take_add_one,hp',hx]
       simp [ba.bytes]
      rw [e]
      exact s64.erase 0
     rw [iE]
     refine ⟨fun h=>?_,fun h=>?_⟩
     ·exact wr (i:=1) (xs:=be 1 1) s49 rfl (fun h k=>dg.use (v:=1) (by omega) h (by simp only [List.length_append,hI]; omega) k) fun G52 s52=>h65 G52 1 (by rw [h]; rfl) s52
     ·exact wr (i:=1) (xs:=be 1 0) s49 rfl (fun h k=>dg.use (v:=0) (by omega) h (by simp only [List.length_append,hI]; omega) k) fun G52 s52=>h65 G52 0 (by rw [h]; rfl) s52
   exact loop _ 0 G35 rfl (by omega) (by simpa using s35)
 rw [aH,aa,aE]
 refine ⟨fun h=>hbad (.inl h),fun h0=>?_⟩
 rw [de,aa,aE]
 refine ⟨fun h=>hbad (.inr (.inl h)),fun h1=>?_⟩
 rw [aH,aa,aE]
 refine ⟨fun h=>hbad (.inr (.inr (.inl h))),fun h2=>?_⟩
 rw [de,aa]
 by_cases h3:mI < index
 ·rw [decide_eq_true h3]
  exact hbad (.inr (.inr (.inr (by rw [hmax]; exact h3))))
 ·rw [decide_eq_false h3]
  refine hgood fun h=>?_
  rcases h with h | h | h | h
  ·exact h0 h
  ·exact h1 h
  ·exact h2 h
  ·exact h3 (by rw [<- hmax]; exact h)
end
end Go.Esc.M
namespace Go.Esc
open Go Go.RowKit
end Go.Esc
namespace Go.Esc.M
open Go Go.Esc
theorem wX:∀ {m:List ba},(∀ p ∈ m,p.ok) -> (m.flatMap ba.bytes).length = 49 * m.length
 | [],_=>rfl
 | p :: m,h=>by
  rw [List.flatMap_cons,List.length_append,ba.re (h p (by simp)),wX (fun q hq=>h q (by simp [hq])),List.length_cons]
  omega
structure Okp (pre:List ba) (p:ba):Prop where
 id:0 ≤ p.id
 amount:1 ≤ p.amount
 most:p.amount ≤ ij
 pair:∀ q ∈ pre,¬ (p.ours = true /\ q.ours = false) /\ ¬ (p.ours = q.ours /\ p.id ≤ q.id)
def Okl:List ba -> List ba -> Prop
 | _,[]=>True
 | pre,p :: l=>Okp pre p /\ Okl (pre ++ [p]) l
def cnt (b:Bool) (l:List ba):Nat:=(l.filter (fun p=>p.ours == b)).length
theorem u7 (b:Bool) (p:ba) (l:List ba):cnt b (p :: l) = (if p.ours = b then 1 else 0) + cnt b l:=by
 unfold cnt
 cases h:p.ours <;> cases b <;> simp [h] <;> omega
structure Inv (pre:List ba) (lt lf:Int) (cf:Nat):Prop where
 lt1:-1 ≤ lt
 lf1:-1 ≤ lf
 lt0:lt = -1 \/ ∃ q ∈ pre,q.ours = true /\ q.id = lt
 lf0:lf = -1 \/ ∃ q ∈ pre,q.ours = false /\ q.id = lf
 ltm:∀ q ∈ pre,q.ours = true -> q.id ≤ lt
 lfm:∀ q ∈ pre,q.ours = false -> q.id ≤ lf
 cf0:0 < cf ↔ ∃ q ∈ pre,q.ours = false
theorem yA:∀ (l pre:List ba) (lt lf:Int) (ct cf:Nat),Inv pre lt lf cf ->
  (Okl pre l -> k6 lt lf ct cf l = some (ct + cnt true l,cf + cnt false l)) /\ (¬ Okl pre l -> k6 lt lf ct cf l = none)
 | [],pre,lt,lf,ct,cf,h=>⟨fun _=>by simp [k6,cnt],fun h=>absurd trivial h⟩
 | p :: l,pre,lt,lf,ct,cf,h=>by
  have key:(p.amount < 1 \/ ij < p.amount \/ p.id ≤ (bif p.ours then lt else lf) \/ (p.ours = true /\ 0 < cf)) ↔ ¬ Okp pre p:=by
   constructor
   ·rintro (h1 | h1 | h1 | ⟨h1,h2⟩) hk
    ·have:=hk.amount; omega
    ·have:=hk.most; omega
    ·cases ho:p.ours with
     | true=>
      rw [ho,cond_true] at h1
      rcases h.lt0 with h2 | ⟨q,hq,h3,h4⟩
      ·have:=hk.id; omega
      ·exact (hk.pair q hq).2 ⟨by rw [ho,h3],by omega⟩
     | false=>
      rw [ho,cond_false] at h1
      rcases h.lf0 with h2 | ⟨q,hq,h3,h4⟩
      ·have:=hk.id; omega
      ·exact (hk.pair q hq).2 ⟨by rw [ho,h3],by omega⟩
    ·obtain ⟨q,hq,h3⟩:=h.cf0.1 h2
     exact (hk.pair q hq).1 ⟨h1,h3⟩
   ·intro hk
    refine Decidable.byContradiction fun hn=>hk ?_
    simp only [not_or] at hn
    obtain ⟨h1,h2,h3,h4⟩:=hn
    have hl:=h.lt1
    have hf:=h.lf1
    refine ⟨?_,by omega,by omega,fun q hq=>⟨fun hh=>h4 ⟨hh.1,h.cf0.2 ⟨q,hq,hh.2⟩⟩,fun hh=>?_⟩⟩
    ·cases ho:p.ours <;> simp only [ho,cond_true,cond_false] at h3 <;> omega
    ·obtain ⟨e,hle⟩:=hh
     cases ho:p.ours with
     | true=>
      rw [ho,cond_true] at h3
      have:=h.ltm q hq (by rw [<- e,ho])
      omega
     | false=>
      rw [ho,cond_false] at h3
      have:=h.lfm q hq (by rw [<- e,ho])
      omega
  rw [k6]
  by_cases hk:Okp pre p
  ·have hn:¬ (p.amount < 1 \/ ij < p.amount \/ p.id ≤ (bif p.ours then lt else lf) \/ (p.ours = true /\ 0 < cf)):=fun h=>key.1 h hk
   rw [if_neg hn]
   have hid:=hk.id
   cases ho:p.ours with
   | true=>
    have hi':Inv (pre ++ [p]) p.id lf cf:=by
     refine ⟨by omega,h.lf1,.inr ⟨p,by simp,ho,rfl⟩,?_,?_,?_,?_⟩
     ·rcases h.lf0 with h | ⟨q,hq,hh⟩
      ·exact .inl h
      ·exact .inr ⟨q,by simp [hq],hh⟩
     ·intro q hq hqo
      rcases List.mem_append.1 hq with hq | hq
      ·have:=(hk.pair q hq).2
       refine Decidable.byContradiction fun hc=>this ⟨by rw [ho,hqo],by omega⟩
      ·rw [List.mem_singleton.1 hq]; omega
     ·intro q hq hqo
      rcases List.mem_append.1 hq with hq | hq
      ·exact h.lfm q hq hqo
      ·rw [List.mem_singleton.1 hq,ho] at hqo; cases hqo
     ·rw [h.cf0]
      constructor
      ·rintro ⟨q,hq,hh⟩; exact ⟨q,by simp [hq],hh⟩
      ·rintro ⟨q,hq,hh⟩
       rcases List.mem_append.1 hq with hq | hq
       ·exact ⟨q,hq,hh⟩
       ·rw [List.mem_singleton.1 hq,ho] at hh; cases hh
    have ih:=yA l (pre ++ [p]) p.id lf (ct + 1) cf hi'
    rw [cond_true,u7,u7,ho]
    refine ⟨fun hh=>?_,fun hh=>ih.2 fun h2=>hh ⟨hk,h2⟩⟩
    rw [ih.1 hh.2,if_pos rfl,if_neg (by simp)]
    congr 2 <;> omega
   | false=>
    have hi':Inv (pre ++ [p]) lt p.id (cf + 1):=by
     refine ⟨h.lt1,by omega,?_,.inr ⟨p,by simp,ho,rfl⟩,?_,?_,?_⟩
     ·rcases h.lt0 with h | ⟨q,hq,hh⟩
      ·exact .inl h
      ·exact .inr ⟨q,by simp [hq],hh⟩
     ·intro q hq hqo
      rcases List.mem_append.1 hq with hq | hq
      ·exact h.ltm q hq hqo
      ·rw [List.mem_singleton.1 hq,ho] at hqo; cases hqo
     ·intro q hq hqo
      rcases List.mem_append.1 hq with hq | hq
      ·have:=(hk.pair q hq).2
       refine Decidable.byContradiction fun hc=>this ⟨by rw [ho,hqo],by omega⟩
      ·rw [List.mem_singleton.1 hq]; omega
     ·exact ⟨fun _=>⟨p,by simp,ho⟩,fun _=>by omega⟩
    have ih:=yA l (pre ++ [p]) lt p.id ct (cf + 1) hi'
    rw [cond_false,u7,u7,ho]
    refine ⟨fun hh=>?_,fun hh=>ih.2 fun h2=>hh ⟨hk,h2⟩⟩
    rw [ih.1 hh.2,if_neg (by simp),if_pos rfl]
    congr 2 <;> omega
  ·rw [if_pos (key.2 hk)]
   exact ⟨fun hh=>absurd hh.1 hk,fun _=>rfl⟩
theorem LM:Inv [] (-1) (-1) 0:=⟨by omega,by omega,.inl rfl,.inl rfl,by simp,by simp,by simp⟩
theorem Okl.split:∀ {l pre:List ba} (j:Nat),Okl pre l ↔ Okl pre (l.take j) /\ Okl (pre ++ l.take j) (l.drop j)
 | [],pre,j=>by simp [Okl]
 | p :: l,pre,0=>by simp [Okl]
 | p :: l,pre,j + 1=>by
  simp only [Okl,List.take_succ_cons,List.drop_succ_cons]
  rw [Okl.split (l:=l) (pre:=pre ++ [p]) j,and_assoc,List.append_assoc]
  rfl
theorem Okl.mem:∀ {l pre:List ba},Okl pre l -> ∀ p ∈ l,0 ≤ p.id /\ 1 ≤ p.amount /\ p.amount ≤ ij
 | q :: l,pre,h,p,hp=>by
  rcases List.mem_cons.1 hp with rfl | hp
  ·exact ⟨h.1.id,h.1.amount,h.1.most⟩
  ·exact Okl.mem h.2 p hp
structure uj (o q:Int) (l:List ba):Prop where
 o0:0 ≤ o
 o1:o ≤ ij
 q0:0 ≤ q
 q1:q ≤ ij
 t:cnt true l ≤ 483
 f:cnt false l ≤ 483
 l:Okl [] l
theorem tO (o q:Int) (l:List ba):j6 o q l = true ↔ uj o q l:=by
 unfold j6
 simp only [Bool.and_eq_true,decide_eq_true_eq]
 have h:=yA l [] (-1) (-1) 0 0 LM
 constructor
 ·rintro ⟨⟨⟨⟨h1,h2⟩,h3⟩,h4⟩,h5⟩
  have hk:Okl [] l:=Classical.byContradiction fun hn=>by rw [h.2 hn] at h5; cases h5
  rw [h.1 hk] at h5
  simp only [few,Bool.and_eq_true,decide_eq_true_eq] at h5
  exact ⟨h1,h2,h3,h4,by omega,by omega,hk⟩
 ·intro hs
  refine ⟨⟨⟨⟨hs.o0,hs.o1⟩,hs.q0⟩,hs.q1⟩,?_⟩
  rw [h.1 hs.l]
  have:=hs.t
  have:=hs.f
  simp only [few,Bool.and_eq_true,decide_eq_true_eq]
  omega
end Go.Esc.M
namespace Go.Esc.M
open Go Go.Esc
theorem KP (b:Bool) (l:List ba):cnt b l ≤ l.length:=List.length_filter_le _ _
theorem IV {b:Bool} {l:List ba} {j:Nat} {p:ba} (h:l[j]? = some p):cnt b (l.take (j + 1)) = cnt b (l.take j) + (if p.ours = b then 1 else 0):=by
 rw [List.take_add_one,h]
 unfold cnt
 rw [List.filter_append,List.length_append]
 cases ho:p.ours <;> cases b <;> simp [ho]
section
variable {F0:List AId} {G0 G:ah} {ps:List LP} {Q:ag -> ah -> Prop}
theorem H2 {v:ag} {l:List ba} {j f o:Nat} {p:ba} {tf:TypeId} {fi:TI} {c:ag} (h:fV 35 G v (l.map ba.av)) (hj:l[j]? = some p) (hf:[(ey,0),(me,1),(me,2),(aj,3)][f]? = some (tf,o)) (hft:T tf = some fi) (hz:fi.size ≠ 0)
  (hs:szs (([.bool p.ours,.int .i64 p.id,.int .i64 p.amount,.agg (p.hash.map u8v)]:List ag).take f) = o) (hc:([.bool p.ours,.int .i64 p.id,.int .i64 p.amount,.agg (p.hash.map u8v)]:List ag)[f]? = some c) (hfit:fa fi c = true) :
  ∃ a b,aL T aq v (.int .i64 (j:Int)) = some a /\ bx T aU a f = some b /\ lq T G tf b = some c :=
 fV.fld (k:=.i64) (i:=bU) (ie:=eB) cq rfl fk rfl hf hft hz h (by rw [List.getElem?_map,hj]; rfl) hs hc hfit
theorem da.use {v:ag} {l:List ba} {b:Bool} (hl:fV 35 G v (l.map ba.av)) (hok:∀ p ∈ l,p.ok) (hlen:l.length ≤ 9223372036854775807) (hQ:Q (.int .i64 (cnt b l:Nat)) G):al P da.n [v,.bool b] G Q:=by
 refine da.sound ?_
 unfold da.S
 intro R hR
 have loop:∀ (n j:Nat),l.length - j = n -> j ≤ l.length -> R [v,.bool b,.int .i64 (cnt b (l.take j):Nat),.int .i64 (j:Int)] G:=by
  intro n
  induction n with
  | zero=>
   intro j hn hj
   have:j = l.length:=by omega
   subst this
   refine hR _ _ _ _ _ ?_
   rw [hl.len (i:=bU) cq rfl,List.length_map,aa,aH,aa,aE]
   refine ⟨fun h=>absurd h (by omega),fun _=>?_⟩
   rw [List.take_length]
   exact hQ
  | succ n ih=>
   intro j hn hj
   obtain ⟨p,hp⟩:∃ p,l[j]? = some p:=⟨_,List.getElem?_eq_getElem (by omega)⟩
   obtain ⟨a,b',ha,hb',hla⟩:=H2 (f:=0) (o:=0) (tf:=ey) (fi:=sB) hl hp rfl kC (by decide) rfl rfl rfl
   have hcl:=KP b (l.take j)
   have hjl:(l.take j).length ≤ j:=List.length_take_le _ _
   have ht:=IV (b:=b) hp
   refine hR _ _ _ _ _ ?_
   rw [hl.len (i:=bU) cq rfl,List.length_map,aa,aH,aa,aE]
   refine ⟨fun _=>?_,fun h=>absurd (by omega) h⟩
   rw [ha,aa,hb',aa,hla,aa,vv kC rfl,aa,iE]
   refine ⟨fun h=>?_,fun h=>?_⟩
   ·rw [if_pos (by simpa using h)] at ht
    rw [wi,aa,i64_in (by omega) (by omega),wi,aa,i64_in (by omega) (by omega),show ((cnt b (l.take j):Nat):Int) + 1 = ((cnt b (l.take (j + 1)):Nat):Int) by omega]
    exact ih (j + 1) (by omega) (by omega)
   ·rw [if_neg (by simpa using h)] at ht
    rw [wi,aa,i64_in (by omega) (by omega),show cnt b (l.take j) = cnt b (l.take (j + 1)) by omega]
    exact ih (j + 1) (by omega) (by omega)
 exact loop _ 0 rfl (by omega)
theorem dV.use {o q:Int} {v:ag} {l:List ba} (hl:fV 35 G v (l.map ba.av)) (hok:∀ p ∈ l,p.ok) (hlen:l.length ≤ 9223372036854775807) (hQ:∀ G',Ch [] G [] G' -> Q (.bool (j6 o q l)) G') :
  al P dV.n [gn o q v] G Q:=by
 obtain ⟨hv1,hv2,_⟩:=sG hl
 refine dV.sound ?_
 unfold dV.S
 obtain ⟨mA,hmA⟩:∃ m,m = (1152921504606846976:Int):=⟨_,rfl⟩
 rw [<- hmA]
 have hmax:ij = mA:=by rw [hmA]; rfl
 intro i1 f1
 have s1:=(Sp.nil G).row f1 (gn o q v)
 revert s1
 generalize G.upd i1 (.own (gn o q v)) = G2
 intro s1
 obtain ⟨f0,f1',f2,_⟩:=j8 hv1 hv2 (ar.own (i:=0) s1 rfl)
 intro J85
 have hno:¬ uj o q l -> ∀ G',Ch [] G [] G' -> Q (.bool false) G':=fun h G' c=>by
  have:=hQ G' c
  rwa [Bool.eq_false_iff.2 (fun hh=>h ((tO o q l).1 hh))] at this
 have hyes:uj o q l -> ∀ G',Ch [] G [] G' -> Q (.bool true) G':=fun h G' c=>by
  have:=hQ G' c
  rwa [(tO o q l).2 h] at this
 have hbad:¬ uj o q l -> J85 (.bool true) G2:=by
  intro h
  simp -zeta only [J85,aX]
  exact hno h _ s1.ch
 have hgood:(Okl [] l -> uj o q l) -> J85 (.bool false) G2:=by
  intro hall
  simp -zeta only [J85,aM]
  intro R21 hR21
  have outer:∀ (n j:Nat) (G':ah),l.length - j = n -> j ≤ l.length -> Okl [] (l.take j) -> Sp [] G [ar i1 (gn o q v)] G' -> R21 [.ptr i1 [] 0,.int .i64 (j:Int)] G':=by
   intro n
   induction n with
   | zero=>
    intro j G' hn hj hk hs
    have:j = l.length:=by omega
    subst this
    rw [List.take_length] at hk
    obtain ⟨_,_,f2,_⟩:=j8 hv1 hv2 (ar.own (i:=0) hs rfl)
    refine hR21 _ _ _ ?_
    show wv (lq T G' aq (.ptr i1 [2] 2)) _
    rw [f2,aa,(hl.ch' hs.ch).len (i:=bU) cq rfl,List.length_map,aa,aH,aa,aE]
    exact ⟨fun h=>absurd h (by omega),fun _=>hyes (hall hk) _ hs.ch⟩
   | succ n ih=>
    intro j G' hn hj hk hs
    obtain ⟨p,hp⟩:∃ p,l[j]? = some p:=⟨_,List.getElem?_eq_getElem (by omega)⟩
    have hpo:=hok p (List.mem_of_getElem? hp)
    have hjl:j < l.length:=by omega
    obtain ⟨_,_,f2,_⟩:=j8 hv1 hv2 (ar.own (i:=0) hs rfl)
    obtain ⟨a,ha,hla⟩:=tU (hl.ch' hs.ch) hp
    have hdr:l.drop j = p :: l.drop (j + 1):=by
     obtain ⟨hx,rfl⟩:=List.getElem?_eq_some_iff.1 hp
     exact List.drop_eq_getElem_cons hx
    have hsplit:=Okl.split (l:=l) (pre:=[]) j
    rw [hdr,List.nil_append] at hsplit
    have hbadp:¬ Okp (l.take j) p -> ¬ uj o q l:=fun h hh=>h (hsplit.1 hh.l).2.1
    have hnext:Okp (l.take j) p -> Okl [] (l.take (j + 1)):=fun h=>by
     have h2:=(Okl.split (l:=l.take (j + 1)) (pre:=[]) j)
     rw [h2]
     have e1:(l.take (j + 1)).take j = l.take j:=by rw [List.take_take,Nat.min_eq_left (by omega)]
     have e2:(l.take (j + 1)).drop j = [p]:=by
      rw [List.drop_take,hdr]
      simp
     rw [e1,e2]
     exact ⟨hk,h,trivial⟩
    refine hR21 _ _ _ ?_
    show wv (lq T G' aq (.ptr i1 [2] 2)) _
    rw [f2,aa,(hl.ch' hs.ch).len (i:=bU) cq rfl,List.length_map,aa,aH,aa,aE]
    refine ⟨fun _=>?_,fun h=>absurd (by omega) h⟩
    show wv (lq T G' aq (.ptr i1 [2] 2)) _
    rw [f2,aa,ha,aa,hla,aa]
    refine jQ hs fk (ba.fits hpo) (by rw [ba.sz hpo]; rfl) (ba.okv p) fun i33 G35 s35=>?_
    obtain ⟨k0,k1,k2,_⟩:=ba.fld hpo (ar.own (i:=0) s35 rfl)
    intro J83
    have jbad:¬ uj o q l -> J83 (.bool true) G35:=by
     intro h
     simp -zeta only [J83,aX]
     exact hno h _ s35.ch
    have jgood:(0 ≤ p.id /\ 1 ≤ p.amount /\ p.amount ≤ ij) -> J83 (.bool false) G35:=by
     intro hfine
     simp -zeta only [J83,aM]
     intro R44 hR44
     have inner:∀ (m x:Nat) (G':ah),j - x = m -> x ≤ j -> (∀ q ∈ l.take x,¬ (p.ours = true /\ q.ours = false) /\ ¬ (p.ours = q.ours /\ p.id ≤ q.id)) -> Sp [] G [ar i33 p.av,ar i1 (gn o q v)] G' ->
       R44 [.ptr i1 [] 0,.int .i64 (j:Int),.ptr i33 [] 0,.int .i64 (x:Int)] G':=by
      intro m
      induction m with
      | zero=>
       intro x G' hm hx hall2 hs
       have:x = j:=by omega
       subst this
       refine hR44 _ _ _ _ _ ?_
       rw [aH,aa,aE]
       refine ⟨fun h=>absurd h (by omega),fun _=>?_⟩
       rw [wi,aa,i64_in (by omega) (by omega)]
       exact ih (x + 1) G' (by omega) (by omega) (hnext ⟨hfine.1,hfine.2.1,hfine.2.2,hall2⟩) (hs.erase 0)
      | succ m ihm=>
       intro x G' hm hx hall2 hs
       obtain ⟨y,hy⟩:∃ y,l[x]? = some y:=⟨_,List.getElem?_eq_getElem (by omega)⟩
       have hyo:=hok y (List.mem_of_getElem? hy)
       obtain ⟨_,_,f2,_⟩:=j8 hv1 hv2 (ar.own (i:=1) hs rfl)
       obtain ⟨b,hb,hlb⟩:=tU (hl.ch' hs.ch) hy
       have hymem:y ∈ l.take j:=List.mem_of_getElem? (i:=x) (by rw [List.getElem?_take_of_lt (by omega)]; exact hy)
       refine hR44 _ _ _ _ _ ?_
       rw [aH,aa,aE]
       refine ⟨fun _=>?_,fun h=>absurd (by omega) h⟩
       intro J82
       show wv (lq T G' aq (.ptr i1 [2] 2)) _
       rw [f2,aa,hb,aa,hlb,aa]
       refine jQ hs fk (ba.fits hyo) (by rw [ba.sz hyo]; rfl) (ba.okv y) fun i55 G57 s57=>?_
       obtain ⟨y0,y1,y2,_⟩:=ba.fld hyo (ar.own (i:=0) s57 rfl)
       obtain ⟨p0,p1,p2,_⟩:=ba.fld hpo (ar.own (i:=1) s57 rfl)
       have go:¬ (p.ours = true /\ y.ours = false) -> ¬ (p.ours = y.ours /\ p.id ≤ y.id) -> J82 G57:=by
        intro h1 h2
        simp -zeta only [J82]
        rw [wi,aa,i64_in (by omega) (by omega)]
        refine ihm (x + 1) G57 (by omega) (by omega) (fun q hq=>?_) (s57.erase 0)
        rw [List.take_add_one,hy] at hq
        rcases List.mem_append.1 hq with hq | hq
        ·exact hall2 q hq
        ·have:q = y:=by simpa using hq
         subst this
         exact ⟨h1,h2⟩
       have stop:((p.ours = true /\ y.ours = false) \/ (p.ours = y.ours /\ p.id ≤ y.id)) -> Q (.bool false) G57:=fun h=>by
        refine hno (hbadp fun hk=>?_) _ s57.ch
        have:=hk.pair y hymem
        rcases h with h | h
        ·exact this.1 h
        ·exact this.2 h
       have tail:¬ (p.ours = true /\ y.ours = false) -> (wv (lq T G57 ey (.ptr i33 [0] 0)) fun v63=>wv (lq T G57 ey (.ptr i55 [0] 0)) fun v64=>wv (aw T .eql ey v63 v64) fun v65=>brB (some v65)
         (wv (lq T G57 me (.ptr i55 [1] 1)) fun v66=>wv (lq T G57 me (.ptr i33 [1] 1)) fun v68=>wv (aw T .geq me v66 v68) fun v69=>brB (some v69) (Q (.bool false) G57) (J82 G57)) (J82 G57)):=by
        intro hn
        rw [p0,aa,y0,aa,vv kC rfl,aa,iE]
        refine ⟨fun h=>?_,fun h=>go hn fun hh=>by rw [hh.1] at h; simp at h⟩
        rw [y1,aa,p1,aa,gq,aa,aE]
        exact ⟨fun h2=>stop (.inr ⟨by simpa using h,h2⟩),fun h2=>go hn fun hh=>h2 hh.2⟩
       show wv (lq T G57 ey (.ptr i33 [0] 0)) _
       rw [p0,aa,iE]
       refine ⟨fun h=>?_,fun h=>?_⟩
       ·refine ae y0 ?_
        rw [fN,aa,iE]
        refine ⟨fun h2=>stop (.inl ⟨h,by simpa using h2⟩),fun h2=>tail fun hh=>by rw [hh.2] at h2; cases h2⟩
       ·exact tail fun hh=>by rw [h] at hh; cases hh.1
     exact inner _ 0 G35 rfl (by omega) (by simp) s35
    rw [k1,aa,aH,aa,aE]
    refine ⟨fun h=>jbad (hbadp fun hk=>by have:=hk.id; omega),fun h1=>?_⟩
    rw [k2,aa,aH,aa,aE]
    refine ⟨fun h=>jbad (hbadp fun hk=>by have:=hk.amount; omega),fun h2=>?_⟩
    rw [aa,de,aa]
    by_cases h3:mA < p.amount
    ·rw [decide_eq_true h3]
     exact jbad (hbadp fun hk=>by have:=hk.most; omega)
    ·rw [decide_eq_false h3]
     exact jgood ⟨by omega,by omega,by omega⟩
  exact outer _ 0 G2 rfl (by omega) trivial s1
 rw [f0,aa,aH,aa,aE]
 refine ⟨fun h=>hbad fun hh=>by have:=hh.o0; omega,fun h0=>?_⟩
 rw [aa,de,aa,aE]
 refine ⟨fun h=>hbad fun hh=>by have:=hh.o1; omega,fun h1=>?_⟩
 rw [f1',aa,aH,aa,aE]
 refine ⟨fun h=>hbad fun hh=>by have:=hh.q0; omega,fun h2=>?_⟩
 rw [aa,de,aa,aE]
 refine ⟨fun h=>hbad fun hh=>by have:=hh.q1; omega,fun h3=>?_⟩
 rw [f2,aa]
 refine da.use (hl.ch' s1.ch) hok hlen ?_
 rw [de,aa,aE]
 refine ⟨fun h=>hbad fun hh=>by have:=hh.t; omega,fun h4=>?_⟩
 refine ae f2 ?_
 refine da.use (hl.ch' s1.ch) hok hlen ?_
 rw [de,aa]
 by_cases h5:(483:Int) < (cnt false l:Nat)
 ·rw [decide_eq_true h5]
  exact hbad fun hh=>by have:=hh.f; omega
 ·rw [decide_eq_false h5]
  exact hgood fun hk=>⟨by omega,by omega,by omega,by omega,by omega,by omega,hk⟩
theorem b5.use {bs:List UInt8} {s:ag} {v n i:Nat} (hs:Sp F0 G0 ps G) (hi:ps[i]? = some (bj 1 s (bs.map u8v))) (hn:n ≤ 8) (hl:bs.length + n ≤ 140737488355328) (hv:v < 2 ^ 63)
  (hQ:∀ s' G',Sp F0 G0 (ps.set i (bj 1 s' ((bs ++ be n v).map u8v))) G' -> Q s' G'):al P b5.n [s,.int .i64 (v:Int),.int .i64 (n:Int)] G Q:=by
 refine b5.sound ?_
 unfold b5.S
 rw [bS,aa,i64_in (by omega) (by omega)]
 intro R hR
 have loop:∀ (m:Nat) (bs':List UInt8) (s':ag) (ps':List LP) (G':ah),m ≤ n -> bs' ++ be m v = bs ++ be n v -> bs'.length + m ≤ bs.length + n -> ps' = ps.set i (bj 1 s' (bs'.map u8v)) -> i < ps.length -> Sp F0 G0 ps' G' -> R [s',.int .i64 (v:Int),.int .i64 ((m:Int) - 1)] G':=by
  intro m
  induction m with
  | zero=>
   intro bs' s' ps' G' hm he hln hps hil hs
   subst hps
   refine hR _ _ _ _ ?_
   rw [gq,aa,aE]
   refine ⟨fun h=>absurd h (by omega),fun _=>?_⟩
   rw [be,List.append_nil] at he
   subst he
   exact hQ _ _ hs
  | succ m ih=>
   intro bs' s' ps' G' hm he hln hps hil hs
   refine hR _ _ _ _ ?_
   have ei:((m + 1:Nat):Int) - 1 = (m:Int):=by omega
   rw [ei,gq,aa,aE]
   refine ⟨fun _=>?_,fun h=>absurd (by omega) h⟩
   rw [jL,aa,i64_in (by omega) (by omega),l9 _ _ _ _ _ _ (by omega),aa,iF cA dz rfl,aa,show IntKind.i64.bits = IntKind.u64.bits from rfl,uD v m (by omega),<- lM]
   have hi':ps'[i]? = some (bj 1 s' (bs'.map u8v)):=by rw [hps,List.getElem?_set_self hil]
   refine uY (T:=T) (ts:=aP) (e:=cg) (si:=fS) (ie:=fY) fu rfl dz rfl (by decide) hs hi' rfl rfl (by decide) ?_ fun s2 G2 hs2=>?_
   ·simp only [List.length_map,fY]
    omega
   ·rw [bS,aa,i64_in (by omega) (by omega)]
    refine ih (bs' ++ [UInt8.ofNat (v / 2 ^ (8 * m))]) s2 _ G2 (by omega) ?_ (by simp; omega) ?_ hil hs2
    ·rw [<- he,be]
     simp
    ·rw [hps,List.set_set,List.map_append]
     rfl
 have hil:i < ps.length:=(List.getElem?_eq_some_iff.1 hi).1
 refine loop n bs s ps G (Nat.le_refl _) rfl (Nat.le_refl _) ?_ hil hs
 obtain ⟨hx,e⟩:=List.getElem?_eq_some_iff.1 hi
 rw [<- e,List.set_getElem_self]
theorem sN {bs:List UInt8} {s:ag} {x nn:Int} {i:Nat} (n:Nat) (hnn:nn = (n:Int)) (h0:0 ≤ x) (h1:x ≤ 9223372036854775807) (hs:Sp F0 G0 ps G) (hi:ps[i]? = some (bj 1 s (bs.map u8v))) (hn:n ≤ 8) (hl:bs.length + n ≤ 140737488355328)
  (hQ:∀ s' G',Sp F0 G0 (ps.set i (bj 1 s' ((bs ++ be n (jr x)).map u8v))) G' -> Q s' G'):al P b5.n [s,.int .i64 x,.int .i64 nn] G Q:=by
 subst hnn
 have e:x = ((jr x:Nat):Int) /\ jr x < 2 ^ 63:=by unfold jr; omega
 have:=b5.use (Q:=Q) hs hi hn hl e.2 hQ
 rwa [<- e.1] at this
theorem Kk {s:ag} {l hs':List UInt8} {i:Nat} {K:ag -> ah -> Prop} {x:ag} (hs:Sp F0 G0 ps G) (hi:ps[i]? = some (bj 1 s (l.map u8v))) (hx:fT G 1 x = some (hs'.map u8v)) (hl:l.length + hs'.length ≤ 140737488355328)
  (hK:∀ s' G',Sp F0 G0 (ps.set i (bj 1 s' ((l ++ hs').map u8v))) G' -> K s' G'):cc T G aP aP s x K:=by
 refine wZ (T:=T) (ts:=aP) (e:=cg) (si:=fS) (ie:=fY) (tx:=aP) (xi:=fS) fu rfl dz rfl (by decide) fu (.inr ⟨_,rfl⟩) hs hi hx (ji _) (jx _) ?_ fun s' G' h=>hK s' G' ?_
 ·simp only [List.length_map,fY]
  omega
 ·rw [List.map_append]
  exact h
theorem Gj {i:AId} {p:ba} (h:p.ok) (hg:G i = some (.own p.av)):∃ x,fj T aj (.ptr i [3] 3) none none none = some x /\ fT G 1 x = some (p.hash.map u8v):=by
 have e1:T aj = some fE:=cd
 have e2:fE.desc = .array 32 cg:=rfl
 refine ⟨.slice i [3] 0 3 32 32,by simp [fj,e1,e2,dz,jh,j7,fY],?_⟩
 have hh:=h.hash
 have ha:kg G 1 i [3] 0 3 = some (p.hash.map u8v):=by
  simp [kg,mo,hg,kZ,ba.av,sub,szs,Esc.sz,ji]
 rw [fT,ha]
 simp [hh,List.take_of_length_le]
theorem Eb {i:AId} {hs:List UInt8} (hl:hs.length = 32) (hg:G i = some (.own (.agg (hs.map u8v)))):fT G 1 (.slice i [] 0 0 32 32) = some (hs.map u8v):=(qV hg hl).elems
theorem dG.use {owner index o q:Int} {point:List UInt8} {v:ag} {l:List ba} (hp:point.length = 32) (hl:fV 35 G v (l.map ba.av)) (hok:∀ p ∈ l,p.ok) (hlen:l.length ≤ 9223372036854775807)
  (hQ:∀ G',Ch [] G [] G' -> Q (.tuple [.str (nC owner index point o q l).1,.int .i64 (nC owner index point o q l).2]) G') :
  al P dG.n [.int .i64 owner,.int .i64 index,.agg (point.map u8v),gn o q v] G Q:=by
 obtain ⟨hv1,hv2,_⟩:=sG hl
 refine dG.sound ?_
 unfold dG.S
 obtain ⟨mI,hmI⟩:∃ m,m = (281474976710655:Int):=⟨_,rfl⟩
 rw [<- hmI]
 have hmax:uM = mI:=by rw [hmI]; rfl
 intro i1 f1
 have s1:=(Sp.nil G).row f1 (.agg (point.map u8v))
 intro i3 f3
 have s3:=s1.row f3 (gn o q v)
 revert s3
 generalize ah.upd _ i3 (.own (gn o q v)) = G4
 intro s3 J68
 have hbad:qc owner index -> J68 (.bool true) G4:=by
  intro h
  simp -zeta only [J68,aX]
  have:=hQ _ s3.ch
  rw [nC,if_pos h] at this
  exact this
 have hgood:¬ qc owner index -> J68 (.bool false) G4:=by
  intro h
  rw [nC,if_neg h] at hQ
  have ho:0 ≤ owner /\ owner ≤ 1 /\ 0 ≤ index /\ index ≤ 281474976710655:=by
   unfold qc at h
   rw [hmax,hmI] at h
   omega
  clear hmax hmI hbad
  simp -zeta only [J68,aM]
  refine ae (j8 hv1 hv2 (ar.own (i:=0) s3 rfl)).2.2.2 ?_
  refine dV.use (hl.ch' s3.ch) hok hlen fun G13 c13=>?_
  have s13:=s3.tmp c13
  rw [fN,aa]
  cases hsd:j6 o q l with
  | false=>
   rw [Bool.not_false,aX]
   have:=hQ _ s13.ch
   rw [hsd] at this
   exact this
  | true=>
   rw [Bool.not_true,aM]
   have hl966:=p5 hsd
   have hsD:=(tO _ _ _).1 hsd
   have hoq:0 ≤ o /\ o ≤ 1152921504606846976 /\ 0 ≤ q /\ q ≤ 1152921504606846976:=⟨hsD.o0,hsD.o1,hsD.q0,hsD.q1⟩
   have hmem:∀ p ∈ l,0 ≤ p.id /\ 1 ≤ p.amount /\ p.amount ≤ 1152921504606846976:=fun p hp=>hsD.l.mem p hp
   have hb64:∀ x:Int,0 ≤ x -> x ≤ 9223372036854775807 -> x = ((jr x:Nat):Int) /\ jr x < 2 ^ 63:=fun x h0 h1=>by
    unfold jr
    omega
   simp only [hsd,cond_true] at hQ
   refine ae (Fc owner (by omega) (by omega)) ?_
   have eu:ag.int .u8 ((owner.toNat:Nat):Int) = u8v (UInt8.ofNat owner.toNat):=by
    rw [lM]
    congr 1
    omega
   rw [eu]
   refine B3 (T:=T) (ts:=aP) (e:=cg) (si:=fS) (ie:=fY) fu rfl dz rfl s13 rfl (by decide) fun v16 G17 s17=>?_
   have s17:Sp [] G [bj 1 v16 ((be 1 owner.toNat).map u8v),ar i3 (gn o q v),ar i1 (.agg (point.map u8v))] G17:=by
    have e:[u8v (UInt8.ofNat owner.toNat)] = (be 1 owner.toNat).map u8v:=by simp [be]
    rw [<- e]
    exact s17
   refine sN 8 rfl (by omega) (by omega) s17 (i:=0) rfl (by omega) (by simp [hI]) fun v18 G19 s19=>?_
   rw [oh,aa]
   refine Kk (i:=0) s19 rfl (Eb hp (ar.own (i:=2) s19 rfl)) (by simp [hI,hp]) fun v21 G22 s22=>?_
   refine ae (j8 hv1 hv2 (ar.own (i:=1) s22 rfl)).1 ?_
   refine sN 8 rfl (by omega) (by omega) s22 (i:=0) rfl (by omega) (by simp [hI,hp]) fun v24 G25 s25=>?_
   refine ae (j8 hv1 hv2 (ar.own (i:=1) s25 rfl)).2.1 ?_
   refine sN 8 rfl (by omega) (by omega) s25 (i:=0) rfl (by omega) (by simp [hI,hp]) fun v27 G28 s28=>?_
   refine ae (j8 hv1 hv2 (ar.own (i:=1) s28 rfl)).2.2.1 ?_
   have hlen':∀ G',Ch [] G [] G' -> gF T G' aq v = some (.int .i64 (l.length:Nat)):=fun G' c=>by
    rw [(hl.ch' c).len (i:=bU) cq rfl,List.length_map]
   refine ae (hlen' _ s28.ch) ?_
   refine sN 2 rfl (by omega) (by omega) s28 (i:=0) rfl (by omega) (by simp [hI,hp]) fun v31 G32 s32=>?_
   have e2:jr ((l.length:Nat):Int) = l.length:=by unfold jr; omega
   rw [e2] at s32
   obtain ⟨H,hH,hHl⟩:∃ H:List UInt8,be 1 owner.toNat ++ be 8 (jr index) ++ point ++ be 8 (jr o) ++ be 8 (jr q) ++ be 2 l.length = H /\ H.length = 59:=⟨_,rfl,by simp [hI,hp]⟩
   have htb:ux owner index point o q l = H ++ l.flatMap ba.bytes:=by rw [<- hH]; simp [ux]
   have s32:Sp [] G [bj 1 v31 (H.map u8v),ar i3 (gn o q v),ar i1 (.agg (point.map u8v))] G32:=by
    rw [<- hH]
    exact s32
   have hfm:∀ j,((l.take j).flatMap ba.bytes).length ≤ 49 * l.length:=by
    intro j
    rw [wX (fun p hp=>hok p (List.mem_of_mem_take hp)),List.length_take]
    omega
   intro R33 hR33
   have loop:∀ (n j:Nat) (w:ag) (G':ah),l.length - j = n -> j ≤ l.length -> Sp [] G [bj 1 w ((H ++ (l.take j).flatMap ba.bytes).map u8v),ar i3 (gn o q v),ar i1 (.agg (point.map u8v))] G' ->
     R33 [.ptr i3 [] 0,w,.int .i64 (j:Int)] G':=by
    intro n
    induction n with
    | zero=>
     intro j w G' hn hj hs
     have:j = l.length:=by omega
     subst this
     rw [List.take_of_length_le (Nat.le_refl _),<- htb] at hs
     refine hR33 _ _ _ _ ?_
     show wv (lq T G' aq (.ptr i3 [2] 2)) _
     refine ae (j8 hv1 hv2 (ar.own (i:=1) hs rfl)).2.2.1 ?_
     refine ae (hlen' _ hs.ch) ?_
     rw [aH,aa,aE]
     refine ⟨fun h=>absurd h (by omega),fun _=>?_⟩
     rw [jZ (si:=fS) (ie:=fY) (di:=iO) fu rfl dz rfl fZ rfl (bj.own (i:=0) hs rfl).is,aa]
     exact hQ _ hs.ch
    | succ n ih=>
     intro j w G' hn hj hs
     obtain ⟨p,hp'⟩:∃ p,l[j]? = some p:=⟨_,List.getElem?_eq_getElem (by omega)⟩
     have hpo:=hok p (List.mem_of_getElem? hp')
     have hpm:=hmem p (List.mem_of_getElem? hp')
     obtain ⟨a,ha,hla⟩:=tU (hl.ch' hs.ch) hp'
     have hfj:=hfm j
     refine hR33 _ _ _ _ ?_
     show wv (lq T G' aq (.ptr i3 [2] 2)) _
     refine ae (j8 hv1 hv2 (ar.own (i:=1) hs rfl)).2.2.1 ?_
     refine ae (hlen' _ hs.ch) ?_
     rw [aH,aa,aE]
     refine ⟨fun _=>?_,fun h=>absurd (by omega) h⟩
     show wv (lq T G' aq (.ptr i3 [2] 2)) _
     refine ae (j8 hv1 hv2 (ar.own (i:=1) hs rfl)).2.2.1 ?_
     rw [ha,aa,hla,aa]
     refine jQ hs fk (ba.fits hpo) (by rw [ba.sz hpo]; rfl) (ba.okv p) fun i47 G49 s49=>?_
     refine ae (ba.fld hpo (ar.own (i:=0) s49 rfl)).1 ?_
     intro J65
     have h65:∀ (x:UInt8),[x] = be 1 (bif p.ours then 1 else 0) -> J65 (u8v x) G49:=by
      intro x hx
      simp -zeta only [J65]
      refine uY (T:=T) (ts:=aP) (e:=cg) (si:=fS) (ie:=fY) (i:=1) fu rfl dz rfl (by decide) s49 rfl rfl rfl (by decide) (by simp only [List.length_map,List.length_append,fY]; omega) fun v54 G55 s55=>?_
      have s55:Sp [] G [ar i47 p.av,bj 1 v54 ((H ++ (l.take j).flatMap ba.bytes ++ [x]).map u8v),ar i3 (gn o q v),ar i1 (.agg (point.map u8v))] G55:=by
       rw [List.map_append]
       exact s55
      rw [hx] at s55
      refine ae (ba.fld hpo (ar.own (i:=0) s55 rfl)).2.1 ?_
      refine sN 8 rfl (by omega) (hpo.id.2) s55 (i:=1) rfl (by omega) (by simp only [List.length_append,hI]; omega) fun v57 G58 s58=>?_
      refine ae (ba.fld hpo (ar.own (i:=0) s58 rfl)).2.2.1 ?_
      refine sN 8 rfl (by omega) (hpo.amount.2) s58 (i:=1) rfl (by omega) (by simp only [List.length_append,hI]; omega) fun v60 G61 s61=>?_
      obtain ⟨y,hy1,hy2⟩:=Gj hpo (ar.own (i:=0) s61 rfl)
      refine ae hy1 ?_
      have hph:=hpo.hash
      refine Kk (i:=1) s61 rfl hy2 (by simp only [List.length_append,hI]; omega) fun v63 G64 s64=>?_
      rw [wi,aa,i64_in (by omega) (by omega)]
      refine ih (j + 1) v63 G64 (by omega) (by omega) ?_
      have e:H ++ (l.take (j + 1)).flatMap ba.bytes = H ++ (l.take j).flatMap ba.bytes ++ be 1 (bif p.ours then 1 else 0) ++ be 8 (jr p.id) ++ be 8 (jr p.amount) ++ p.hash:=by
       rw [List.take_add_one,hp']
       simp [ba.bytes]
      rw [e]
      exact s64.erase 0
     rw [iE]
     refine ⟨fun h=>h65 1 (by rw [h]; rfl),fun h=>h65 0 (by rw [h]; rfl)⟩
   exact loop _ 0 v31 G32 rfl (by omega) (by simpa using s32)
 rw [aH,aa,aE]
 refine ⟨fun h=>hbad (.inl h),fun h0=>?_⟩
 rw [de,aa,aE]
 refine ⟨fun h=>hbad (.inr (.inl h)),fun h1=>?_⟩
 rw [aH,aa,aE]
 refine ⟨fun h=>hbad (.inr (.inr (.inl h))),fun h2=>?_⟩
 rw [de,aa]
 by_cases h3:mI < index
 ·rw [decide_eq_true h3]
  exact hbad (.inr (.inr (.inr (by rw [hmax]; exact h3))))
 ·rw [decide_eq_false h3]
  refine hgood fun h=>?_
  rcases h with h | h | h | h
  ·exact h0 h
  ·exact h1 h
  ·exact h2 h
  ·exact h3 (by rw [<- hmax]; exact h)
end
end Go.Esc.M
namespace Go.Esc.M
open Go Go.Esc
structure Com where
 owner:Int
 index:Int
 point:List UInt8
 o:Int
 q:Int
 l:List ba
def Com.text (c:Com):List UInt8:=ux c.owner c.index c.point c.o c.q c.l
structure Com.Valid (c:Com):Prop where
 arg:¬ qc c.owner c.index
 sound:j6 c.o c.q c.l = true
 point:c.point.length = 32
 ok:∀ p ∈ c.l,p.ok
section
variable {F0:List AId} {G0 G:ah} {ps:List LP} {Q:ag -> ah -> Prop}
theorem rd {id:AId} {st st':List UInt8 × Int} {out:ag} {n:FuncId} {args:List ag} {i:Nat} {K:ag -> ah -> Prop} (hs:Sp F0 G0 ps G) (hi:ps[i]? = some (RdL id st))
  (huse:∀ {G:ah} {Q:ag -> ah -> Prop},Rd id st G -> (∀ G',Rd id st' G' -> Ch [id] G [id] G' -> Q out G') -> al P n args G Q)
  (hK:∀ G',Sp F0 G0 (ps.set i (RdL id st')) G' -> K out G'):al P n args G K:=by
 refine hs.call hi (RdL id st') fun F h k=>?_
 obtain ⟨h,rfl⟩:=h
 exact huse h fun G' r c=>hK _ (k _ _ ⟨r,rfl⟩ c)
theorem RdL.rd {id:AId} {st:List UInt8 × Int} {i:Nat} (h:Sp F0 G0 ps G) (hi:ps[i]? = some (RdL id st)):Rd id st G:=by
 obtain ⟨F,h,_⟩:=h.get hi
 exact h
theorem FA {i:Nat} {id:AId} {o q:Int} {v w:ag} (hs:Sp F0 G0 ps G) (hi:ps[i]? = some (ar id (gn o q v))) (hv:sz v = 1) (hw:sz w = 1 /\ w.isAgg = false /\ okv w = true) {K:ah -> Prop} (hK:∀ G',Sp F0 G0 (ps.set i (ar id (gn o q w))) G' -> K G') :
  wg (ax T G aq (.ptr id [2] 2) w) K:=by
 refine fK (km (c:=w) (u:=v) (ar.own hs hi) rfl rfl cq (by simp [fa,hw.1,hw.2.1,bU,j4.isAgg]) (by rw [hv,hw.1]) hw.2.2) ?_
 exact hK _ (Sp.setRow hs hi _)
theorem sS {o q:Int} {w:ag} (hw:sz w = 1 /\ w.isAgg = false /\ okv w = true):fa kb (gn o q w) = true /\ sz (gn o q w) = 3 /\ okv (gn o q w) = true:=by
 refine ⟨?_,?_,?_⟩
 ·simp [fa,gn,sz,szs,hw.1,kb,ag.isAgg,j4.isAgg]
 ·simp [gn,sz,szs,hw.1]
 ·simp [gn,okv,kT,hw.2.2]
theorem my {i:Nat} {id:AId} {o q o' q':Int} {v w:ag} (hs:Sp F0 G0 ps G) (hi:ps[i]? = some (ar id (gn o q v))) (hv:sz v = 1) (hw:sz w = 1 /\ w.isAgg = false /\ okv w = true) {K:ah -> Prop} (hK:∀ G',Sp F0 G0 (ps.set i (ar id (gn o' q' w))) G' -> K G') :
  wg (ax T G bc (.ptr id [] 0) (gn o' q' w)) K:=by
 obtain ⟨h1,h2,h3⟩:=sS (o:=o') (q:=q') hw
 refine fK (il mG (ar.own hs hi) h1 (by rw [h2]; simp [gn,sz,szs,hv]) h3) ?_
 exact hK _ (Sp.setRow hs hi _)
theorem pw {i:Nat} {id:AId} {h h':List UInt8} (hs:Sp F0 G0 ps G) (hi:ps[i]? = some (ar id (.agg (h.map u8v)))) (hl:h.length = 32) (hl':h'.length = 32) {K:ah -> Prop} (hK:∀ G',Sp F0 G0 (ps.set i (ar id (.agg (h'.map u8v)))) G' -> K G') :
  wg (ax T G aj (.ptr id [] 0) (.agg (h'.map u8v))) K:=by
 refine fK (gg hl hl' (ar.own hs hi)) ?_
 exact hK _ (Sp.setRow hs hi _)
theorem ig {i:Nat} {id:AId} {o q:Int} {v:ag} (hs:Sp F0 G0 ps G) (hi:ps[i]? = some (ar id (gn o q v))) (hv:sz v = 1 /\ v.isAgg = false /\ okv v = true) :
  lq T G me (.ptr id [0] 0) = some (.int .i64 o) /\ lq T G me (.ptr id [1] 1) = some (.int .i64 q) /\ lq T G aq (.ptr id [2] 2) = some v /\ lq T G bc (.ptr id [] 0) = some (gn o q v) :=
 j8 hv.1 hv.2.1 (ar.own hs hi)
theorem Lm {pl:Nat -> Option (Nat × Nat)} (e0:pl 0 = some (0,1)) (e1:pl 1 = some (1,1)) (e2:pl 2 = some (2,1)) (e3:pl 3 = some (3,32)) {b:Bool} {m n:Int} {zh h:ag} (hz:sz zh = 32) (hh:sz h = 32) :
  Md pl [.bool false,.int .i64 0,.int .i64 0,zh] [(0,.bool b),(1,.int .i64 m),(2,.int .i64 n),(3,h)] = some [.bool b,.int .i64 m,.int .i64 n,h]:=by
 simp [Md,e0,e1,e2,e3,sz,szs,hh,hz]
theorem AP {p:ba} (h:p.ok):bk T aU [(0,.bool p.ours),(1,.int .i64 p.id),(2,.int .i64 p.amount),(3,.agg (p.hash.map u8v))] = some p.av:=by
 have h1:sz (.agg (p.hash.map u8v)) = 32:=by rw [sz,gv (n:=1) (ji p.hash)]; simp [h.hash]
 obtain ⟨zh,hz,hzh⟩:∃ zh,iX = .agg [.bool false,.int .i64 0,.int .i64 0,zh] /\ sz zh = 32:=⟨_,rfl,rfl⟩
 have hf:=Lm (pl:=places T [(ey,0),(me,1),(me,2),(aj,3)]) rfl rfl rfl rfl (b:=p.ours) (m:=p.id) (n:=p.amount) hzh h1
 have ha:[(ey,0),(me,1),(me,2),(aj,3)].all (fun g=>(T g.1).isSome) = true:=rfl
 unfold bk
 have e1:eB.desc = .struct [(ey,0),(me,1),(me,2),(aj,3)]:=rfl
 have e2:eB.zero = .agg [.bool false,.int .i64 0,.int .i64 0,zh]:=hz
 simp only [fk,e1,e2,ha,if_true,hf]
 rfl
theorem Jh:iZ = gn 0 0 .nilSlice:=rfl
theorem qp:sz .nilSlice = 1 /\ ag.nilSlice.isAgg = false /\ okv .nilSlice = true:=⟨rfl,rfl,rfl⟩
theorem Kp:(List.replicate 32 (0:UInt8)).length = 32:=rfl
end
end Go.Esc.M
namespace Go.Esc.M
open Go Go.Esc
def slice (b:List UInt8) (at_ n:Nat):List UInt8:=(b.drop at_).take n
theorem IC (n:Int):I64 (IntKind.i64.wrap n):=ri.1 (wf_wrap .i64 n)
theorem HG {b:List UInt8} {at_ n:Nat} {nn:Int} (hn:nn = (n:Int)) (h:at_ + n ≤ b.length):takes (b.drop at_,0) nn = (slice b at_ n,(b.drop (at_ + n),0)):=by
 subst hn
 rw [HF (by rw [List.length_drop]; omega),Int.toNat_natCast,List.drop_drop]
 rfl
section
variable {F0:List AId} {G0 G:ah} {ps:List LP} {Q:ag -> ah -> Prop}
end
end Go.Esc.M
