import Derived.Test.YtkojimdacnohpaaGreatDoorLUb
import Derived.Test.YtkojimdacnohpaaGreatDoorLCx
import Derived.Test.YtkojimdacnohpaaGreatDoorLDj
import Derived.Test.YtkojimdacnohpaaGreatDoorLSb
set_option linter.unusedSimpArgs false
set_option linter.unusedVariables false
set_option maxRecDepth 20000
namespace Go.Esc.M
open Go Go.Esc
def okU (u:aK) (n:Nat):aK × Int × Int:=bif dC u then (u,(n:Int),0) else (aK.zero,0,120)
theorem LJ {k i a:Int} {h n:List UInt8} (hk:I64 k) (hi:I64 i) (ha:I64 a) (hh:h.length = 32) (hn:n.length ≤ 9223372036854775807):(⟨k,i,a,h,n⟩:aK).ok:=⟨hk,hi,ha,hh,hn⟩
theorem cD:I64 0:=⟨by decide,by decide⟩
theorem tk {b:List UInt8} {a n:Nat} {nn:Int} (hn:nn = (n:Int)) (ha:a ≤ b.length):takes (b.drop a,0) nn = if a + n ≤ b.length then (slice b a n,(b.drop (a + n),0)) else ([],([],2)):=by
 by_cases h:a + n ≤ b.length
 ·rw [if_pos h,HG hn h]
 ·rw [if_neg h,CC (by rw [List.length_drop]; omega)]
theorem DL:gy = aK.zero.av:=rfl
theorem ug:bk T aI [] = some aK.zero.av:=rfl
section
variable {F0:List AId} {G0 G:ah} {ps:List LP} {Q:ag -> ah -> Prop}
end
end Go.Esc.M
set_option linter.unusedSimpArgs false
set_option linter.unusedVariables false
set_option maxRecDepth 20000
namespace Go.Esc.M
open Go Go.Esc
section
variable {F0:List AId} {G0 G:ah} {ps:List LP} {Q:ag -> ah -> Prop}
end
end Go.Esc.M
set_option linter.unusedSimpArgs false
set_option linter.unusedVariables false
set_option maxRecDepth 20000
namespace Go.Esc.M
open Go Go.Esc
def vY (rm:Bool) (id:Int) (u:aK):Bool:=decide (u.id = id) && bif rm then decide (u.kind = 2) || decide (u.kind = 3) else decide (u.kind = 1)
def fW (rm:Bool) (id:Int) (l:List aK):Option aK:=l.find? (vY rm id)
def H8 (o:Option aK):ag:=.tuple [(o.getD aK.zero).av,.bool o.isSome]
def qD (l:List aK):Nat:=(l.filter (fun u=>decide (u.kind = 1))).length
theorem o7 {rm:Bool} {id:Int} {l:List aK} (h:∀ u ∈ l,u.ok):((fW rm id l).getD aK.zero).ok:=by
 cases hf:fW rm id l with
 | none=>exact aK.bD
 | some u=>exact h u (List.mem_of_find?_eq_some hf)
theorem EU {l:List aK} {j:Nat} {u:aK} (h:l[j]? = some u):qD (l.take (j + 1)) = qD (l.take j) + (if u.kind = 1 then 1 else 0):=by
 rw [List.take_add_one,h]
 unfold qD
 rw [List.filter_append,List.length_append]
 by_cases hk:u.kind = 1 <;> simp [hk]
theorem Jb (l:List aK):qD l ≤ l.length:=List.length_filter_le _ _
section
variable {F0:List AId} {G0 G:ah} {ps:List LP} {Q:ag -> ah -> Prop}
theorem oF {v:ag} {l:List aK} {j:Nat} {u:aK} (h:fV 36 G v (l.map aK.av)) (hj:l[j]? = some u):∃ a,aL T ak v (.int .i64 (j:Int)) = some a /\ af T G aI a = some u.av :=
 h.at_ (k:=.i64) (i:=fl) (ie:=dA) (T:=T) (t:=ak) (e:=aI) cn rfl fC (by rw [List.getElem?_map,hj]; rfl) rfl
theorem fy {v:ag} {l:List aK} (h:fV 36 G v (l.map aK.av)):gF T G ak v = some (.int .i64 (l.length:Nat)):=by
 rw [h.len (i:=fl) cn rfl,List.length_map]
theorem C3 {u:aK} {K:AId -> ah -> Prop} (hs:Sp F0 G0 ps G) (hu:u.ok) (hK:∀ i G',Sp F0 G0 (ar i u.av :: ps) G' -> K i G'):br G (.own gy) fun i G2=>wg (ax T G2 aI (.ptr i [] 0) u.av) fun G3=>K i G3 :=
 jQ hs fC (aK.fits hu) (by rw [aK.sz hu]; rfl) (aK.okv u) hK
theorem JF (o:Option aK):aW (H8 o) 0 = some (o.getD aK.zero).av:=rfl
theorem JE (o:Option aK):aW (H8 o) 1 = some (.bool o.isSome):=rfl
end
end Go.Esc.M
set_option linter.unusedSimpArgs false
set_option linter.unusedVariables false
set_option maxRecDepth 20000
namespace Go.Esc.M
open Go Go.Esc
section
variable {F0:List AId} {G0 G:ah} {ps:List LP} {Q:ag -> ah -> Prop}
end
end Go.Esc.M
set_option linter.unusedSimpArgs false
set_option linter.unusedVariables false
set_option maxRecDepth 20000
namespace Go.Esc.M
open Go Go.Esc
end Go.Esc.M
set_option linter.unusedSimpArgs false
set_option linter.unusedVariables false
set_option maxRecDepth 20000
namespace Go.Esc.M
open Go Go.Esc
section
variable {F0:List AId} {G0 G:ah} {ps:List LP} {Q:ag -> ah -> Prop}
theorem jb {v:ag} {l:List aK} {j f o:Nat} {p:aK} {tf:TypeId} {fi:TI} {c:ag} (h:fV 36 G v (l.map aK.av)) (hj:l[j]? = some p) (hf:[(au,0),(ai,1),(ai,2),(aj,3),(bH,35)][f]? = some (tf,o)) (hft:T tf = some fi) (hz:fi.size ≠ 0)
  (hs:szs (p.cs.take f) = o) (hc:p.cs[f]? = some c) (hfit:fa fi c = true) :
  ∃ a b,aL T ak v (.int .i64 (j:Int)) = some a /\ bx T aI a f = some b /\ af T G tf b = some c :=
 fV.fld (k:=.i64) (i:=fl) (ie:=dA) cn rfl fC rfl hf hft hz h (by rw [List.getElem?_map,hj]; rfl) hs hc hfit
set_option maxHeartbeats 1000000 in
theorem eR.use {v:ag} {l:List aK} {id:Int} (hl:fV 36 G v (l.map aK.av)) (hok:∀ u ∈ l,u.ok) (hlen:l.length ≤ 9223372036854775807) (hQ:∀ G',Ch [] G [] G' -> Q (H8 (fW false id l)) G') :
  al P eR.n [v,.int .i64 id] G Q:=by
 refine eR.sound ?_
 unfold eR.S
 rw [DL]
 intro i1 f1
 have s1:=(Sp.nil G).row f1 aK.zero.av
 revert s1
 generalize ah.upd _ i1 (.own aK.zero.av) = G2
 intro s1 R hR
 have loop:∀ (n j:Nat),l.length - j = n -> j ≤ l.length -> fW false id (l.drop j) = fW false id l -> R [v,.int .i64 id,.ptr i1 [] 0,.int .i64 (j:Int)] G2:=by
  intro n
  induction n with
  | zero=>
   intro j hn hj he
   have:j = l.length:=by omega
   subst this
   rw [List.drop_length] at he
   refine hR _ _ _ _ _ ?_
   refine ae (fy (hl.ch' s1.ch)) ?_
   rw [aH,aa,aE]
   refine ⟨fun h=>absurd h (by omega),fun _=>?_⟩
   rw [ug,aa]
   refine kY (i:=0) s1 rfl aK.bD aK.bD fun G2 s2=>?_
   refine ae (dh (i:=0) s2 rfl aK.bD).2.2.2.2.2 ?_
   have:=hQ _ s2.ch
   rw [<- he] at this
   exact this
  | succ n ih=>
   intro j hn hj he
   obtain ⟨u,hu⟩:∃ u,l[j]? = some u:=⟨_,List.getElem?_eq_getElem (by omega)⟩
   have huo:=hok u (List.mem_of_getElem? hu)
   obtain ⟨a,ha,hla⟩:=oF (hl.ch' s1.ch) hu
   obtain ⟨a0,b0,ha0,hb0,hl0⟩:=jb (f:=0) (o:=0) (tf:=au) (fi:=mf) (hl.ch' s1.ch) hu rfl hO (by decide) rfl rfl rfl
   obtain ⟨a1,b1,ha1,hb1,hl1⟩:=jb (f:=1) (o:=1) (tf:=ai) (fi:=jy) (hl.ch' s1.ch) hu rfl cA (by decide) rfl rfl rfl
   have hdr:l.drop j = u :: l.drop (j + 1):=by
    obtain ⟨hx,rfl⟩:=List.getElem?_eq_some_iff.1 hu
    exact List.drop_eq_getElem_cons hx
   rw [hdr,fW,List.find?_cons] at he
   have next:vY false id u = false -> wv (aw T .add au (.int .i64 (j:Int)) (.int .i64 1)) fun v31=>R [v,.int .i64 id,.ptr i1 [] 0,v31] G2:=by
    intro h
    rw [h] at he
    rw [bf,aa,i64_in (by omega) (by omega)]
    exact ih (j + 1) (by omega) (by omega) he
   unfold vY at next he
   refine hR _ _ _ _ _ ?_
   refine ae (fy (hl.ch' s1.ch)) ?_
   rw [aH,aa,aE]
   refine ⟨fun _=>?_,fun h=>absurd (by omega) h⟩
   refine ae ha0 ?_
   refine ae hb0 ?_
   refine ae hl0 ?_
   rw [bC,aa,aE]
   refine ⟨fun hk=>?_,fun hk=>next (by rw [cond_false,decide_eq_false hk,Bool.and_false])⟩
   refine ae ha1 ?_
   refine ae hb1 ?_
   refine ae hl1 ?_
   rw [bC,aa,aE]
   refine ⟨fun hid=>?_,fun hid=>next (by rw [decide_eq_false hid,Bool.false_and])⟩
   rw [cond_false,decide_eq_true hid,decide_eq_true hk] at he
   refine ae ha ?_
   refine ae hla ?_
   refine kY (i:=0) s1 rfl aK.bD huo fun G2 s2=>?_
   refine ae (dh (i:=0) s2 rfl huo).2.2.2.2.2 ?_
   have:=hQ _ s2.ch
   rw [<- he] at this
   exact this
 exact loop _ 0 rfl (by omega) (by simp)
set_option maxHeartbeats 1000000 in
theorem cP.use {v:ag} {l:List aK} {id:Int} (hl:fV 36 G v (l.map aK.av)) (hok:∀ u ∈ l,u.ok) (hlen:l.length ≤ 9223372036854775807) (hQ:∀ G',Ch [] G [] G' -> Q (H8 (fW true id l)) G') :
  al P cP.n [v,.int .i64 id] G Q:=by
 refine cP.sound ?_
 unfold cP.S
 rw [DL]
 intro i1 f1
 have s1:=(Sp.nil G).row f1 aK.zero.av
 revert s1
 generalize ah.upd _ i1 (.own aK.zero.av) = G2
 intro s1 R hR
 have loop:∀ (n j:Nat),l.length - j = n -> j ≤ l.length -> fW true id (l.drop j) = fW true id l -> R [v,.int .i64 id,.ptr i1 [] 0,.int .i64 (j:Int)] G2:=by
  intro n
  induction n with
  | zero=>
   intro j hn hj he
   have:j = l.length:=by omega
   subst this
   rw [List.drop_length] at he
   refine hR _ _ _ _ _ ?_
   refine ae (fy (hl.ch' s1.ch)) ?_
   rw [aH,aa,aE]
   refine ⟨fun h=>absurd h (by omega),fun _=>?_⟩
   rw [ug,aa]
   refine kY (i:=0) s1 rfl aK.bD aK.bD fun G2 s2=>?_
   refine ae (dh (i:=0) s2 rfl aK.bD).2.2.2.2.2 ?_
   have:=hQ _ s2.ch
   rw [<- he] at this
   exact this
  | succ n ih=>
   intro j hn hj he
   obtain ⟨u,hu⟩:∃ u,l[j]? = some u:=⟨_,List.getElem?_eq_getElem (by omega)⟩
   have huo:=hok u (List.mem_of_getElem? hu)
   obtain ⟨a,ha,hla⟩:=oF (hl.ch' s1.ch) hu
   obtain ⟨a0,b0,ha0,hb0,hl0⟩:=jb (f:=0) (o:=0) (tf:=au) (fi:=mf) (hl.ch' s1.ch) hu rfl hO (by decide) rfl rfl rfl
   obtain ⟨a1,b1,ha1,hb1,hl1⟩:=jb (f:=1) (o:=1) (tf:=ai) (fi:=jy) (hl.ch' s1.ch) hu rfl cA (by decide) rfl rfl rfl
   have hdr:l.drop j = u :: l.drop (j + 1):=by
    obtain ⟨hx,rfl⟩:=List.getElem?_eq_some_iff.1 hu
    exact List.drop_eq_getElem_cons hx
   rw [hdr,fW,List.find?_cons] at he
   refine hR _ _ _ _ _ ?_
   refine ae (fy (hl.ch' s1.ch)) ?_
   rw [aH,aa,aE]
   refine ⟨fun _=>?_,fun h=>absurd (by omega) h⟩
   intro J33
   have no:vY true id u = false -> J33 (.bool false) G2:=by
    intro h
    rw [h] at he
    simp -zeta only [J33,aM]
    rw [bf,aa,i64_in (by omega) (by omega)]
    exact ih (j + 1) (by omega) (by omega) he
   have yes:vY true id u = true -> J33 (.bool true) G2:=by
    intro h
    rw [h] at he
    simp -zeta only [J33,aX]
    refine ae ha ?_
    refine ae hla ?_
    refine kY (i:=0) s1 rfl aK.bD huo fun G2 s2=>?_
    refine ae (dh (i:=0) s2 rfl huo).2.2.2.2.2 ?_
    have:=hQ _ s2.ch
    rw [<- he] at this
    exact this
   have idt:(u.kind = 2 \/ u.kind = 3) -> J33 (.bool (decide (u.id = id))) G2:=by
    intro hk
    have hkk:(decide (u.kind = 2) || decide (u.kind = 3)) = true:=by
     rw [Bool.or_eq_true,decide_eq_true_eq,decide_eq_true_eq]; exact hk
    unfold vY at yes no
    rw [cond_true,hkk,Bool.and_true] at yes no
    by_cases h:u.id = id
    ·rw [decide_eq_true h]; exact yes (decide_eq_true h)
    ·rw [decide_eq_false h]; exact no (decide_eq_false h)
   refine ae ha0 ?_
   refine ae hb0 ?_
   refine ae hl0 ?_
   rw [bC,aa,aE]
   refine ⟨fun hk=>?_,fun hk=>?_⟩
   ·refine ae ha1 ?_
    refine ae hb1 ?_
    refine ae hl1 ?_
    rw [bC,aa]
    exact idt (.inl hk)
   ·refine ae ha0 ?_
    refine ae hb0 ?_
    refine ae hl0 ?_
    rw [bC,aa,aE]
    refine ⟨fun hk3=>?_,fun hk3=>no (by unfold vY; rw [cond_true,decide_eq_false hk,decide_eq_false hk3,Bool.or_self,Bool.and_false])⟩
    refine ae ha1 ?_
    refine ae hb1 ?_
    refine ae hl1 ?_
    rw [bC,aa]
    exact idt (.inr hk3)
 exact loop _ 0 rfl (by omega) (by simp)
theorem eT.use {v:ag} {l:List aK} (hl:fV 36 G v (l.map aK.av)) (hlen:l.length ≤ 9223372036854775807) (hQ:Q (.int .i64 (qD l:Nat)) G):al P eT.n [v] G Q:=by
 refine eT.sound ?_
 unfold eT.S
 intro R hR
 have loop:∀ (n j:Nat),l.length - j = n -> j ≤ l.length -> R [v,.int .i64 (qD (l.take j):Nat),.int .i64 (j:Int)] G:=by
  intro n
  induction n with
  | zero=>
   intro j hn hj
   have:j = l.length:=by omega
   subst this
   refine hR _ _ _ _ ?_
   refine ae (fy hl) ?_
   rw [aH,aa,aE]
   refine ⟨fun h=>absurd h (by omega),fun _=>?_⟩
   rw [List.take_length]
   exact hQ
  | succ n ih=>
   intro j hn hj
   obtain ⟨u,hu⟩:∃ u,l[j]? = some u:=⟨_,List.getElem?_eq_getElem (by omega)⟩
   obtain ⟨a0,b0,ha0,hb0,hl0⟩:=jb (f:=0) (o:=0) (tf:=au) (fi:=mf) hl hu rfl hO (by decide) rfl rfl rfl
   have ht:=EU hu
   have hle:=Jb (l.take j)
   have hlj:(l.take j).length ≤ j:=List.length_take_le _ _
   refine hR _ _ _ _ ?_
   refine ae (fy hl) ?_
   rw [aH,aa,aE]
   refine ⟨fun _=>?_,fun h=>absurd (by omega) h⟩
   refine ae ha0 ?_
   refine ae hb0 ?_
   refine ae hl0 ?_
   rw [bC,aa,aE]
   refine ⟨fun hk=>?_,fun hk=>?_⟩
   ·rw [if_pos hk] at ht
    rw [bf,aa,i64_in (by omega) (by omega),bf,aa,i64_in (by omega) (by omega),show ((qD (l.take j):Nat):Int) + 1 = ((qD (l.take (j + 1)):Nat):Int) by omega]
    exact ih (j + 1) (by omega) (by omega)
   ·rw [if_neg hk] at ht
    rw [bf,aa,i64_in (by omega) (by omega),show qD (l.take j) = qD (l.take (j + 1)) by omega]
    exact ih (j + 1) (by omega) (by omega)
 exact loop _ 0 rfl (by omega)
def jW (mine others:List aK) (u:aK):Int :=
 if 2048 ≤ mine.length then 6 else if dC u = false then 120
 else if u.kind = 1 then (if u.id = (qD mine:Nat) then 0 else 120)
 else if (fW false u.id others).isSome = false then 120
 else if (fW true u.id mine).isSome then 120
 else if u.kind = 2 /\ sha u.hash ≠ ((fW false u.id others).getD aK.zero).hash then 120 else 0
theorem kd (s:List UInt8):(sha s).length = 32:=gI s
theorem JG {F0:List AId} {G0:ah} {ps:List LP} {s:List UInt8} {K:ag -> ah -> Prop} (hs:Sp F0 G0 ps G) (hK:∀ v G2,Sp F0 G0 (bj 1 v ([s].map .str) :: ps) G2 -> K v G2):bh T im 1 [(0,.str s)] G K :=
 B3 (T:=T) (ts:=im) (e:=bH) (si:=jm) (ie:=iO) lD rfl fZ rfl hs rfl (by decide) hK
end
end Go.Esc.M
set_option linter.unusedSimpArgs false
set_option linter.unusedVariables false
set_option maxRecDepth 20000
namespace Go.Esc.M
open Go Go.Esc
section
variable {F0:List AId} {G0 G:ah} {ps:List LP} {Q:ag -> ah -> Prop}
set_option maxHeartbeats 2000000 in
theorem dJ.use {v w:ag} {mine others:List aK} {u:aK} (hl:fV 36 G v (mine.map aK.av)) (ho:fV 36 G w (others.map aK.av)) (hok:∀ u ∈ mine,u.ok) (hok2:∀ u ∈ others,u.ok) (hlen:mine.length ≤ 9223372036854775807) (hlen2:others.length ≤ 9223372036854775807) (hu:u.ok)
  (hQ:∀ G',Ch [] G [] G' -> Q (.int .i64 (jW mine others u)) G'):al P dJ.n [v,w,u.av] G Q:=by
 refine dJ.sound ?_
 unfold dJ.S
 rw [DL]
 intro i1 f1
 have s1:=(Sp.nil G).row f1 u.av
 refine ae (fy (hl.ch' s1.ch)) ?_
 unfold jW at hQ
 rw [gq,aa,aE]
 refine ⟨fun h=>?_,fun h=>?_⟩
 ·rw [if_pos (by omega)] at hQ
  exact hQ _ s1.ch
 rw [if_neg (by omega)] at hQ
 refine ae (dh (i:=0) s1 rfl hu).2.2.2.2.2 ?_
 refine cy.use hu fun G7 c7=>?_
 have s7:=s1.tmp c7
 rw [fN,aa]
 cases hv:dC u with
 | false=>
  rw [if_pos hv] at hQ
  exact hQ _ s7.ch
 | true=>
  rw [if_neg (by rw [hv]; decide)] at hQ
  rw [Bool.not_true,aM]
  refine ae (dh (i:=0) s7 rfl hu).1 ?_
  rw [bC,aa,aE]
  refine ⟨fun hk1=>?_,fun hk1=>?_⟩
  ·rw [if_pos hk1] at hQ
   refine ae (dh (i:=0) s7 rfl hu).2.1 ?_
   refine eT.use (hl.ch' s7.ch) hlen ?_
   refine ⟨⟨(dh (i:=0) s7 rfl hu).2.1,trivial⟩,?_⟩
   rw [dy,aa,fg]
   exact ⟨fun h=>by rw [if_neg h] at hQ; exact hQ _ s7.ch,fun h=>by rw [if_pos h] at hQ; exact hQ _ s7.ch⟩
  rw [if_neg hk1] at hQ
  refine ae (dh (i:=0) s7 rfl hu).2.1 ?_
  refine eR.use (ho.ch' s7.ch) hok2 hlen2 fun G17 c17=>?_
  have s17:=s7.tmp c17
  have hf1:=o7 (rm:=false) (id:=u.id) hok2
  have hf2:=o7 (rm:=true) (id:=u.id) hok
  rw [JF,aa,JE,aa]
  obtain ⟨A,hA⟩:∃ A,A = fW false u.id others:=⟨_,rfl⟩
  obtain ⟨B,hB⟩:∃ A,A = fW true u.id mine:=⟨_,rfl⟩
  rw [<- hA] at hf1 hQ ⊢
  rw [<- hB] at hf2 hQ
  intro i20 f20
  have s20:=s17.row f20 aK.zero.av
  refine kY (i:=0) s20 rfl aK.bD hf1 fun G22 s22=>?_
  refine ae (dh (i:=1) s22 rfl hu).2.1 ?_
  refine cP.use (hl.ch' s22.ch) hok hlen fun G25 c25=>?_
  have s25:=s22.tmp c25
  rw [<- hB,JF,aa,JE,aa]
  intro i28 f28
  have s28:=s25.row f28 aK.zero.av
  refine kY (i:=0) s28 rfl aK.bD hf2 fun G30 s30=>?_
  have s30:Sp [] G [ar i28 (B.getD aK.zero).av,ar i20 (A.getD aK.zero).av,ar i1 u.av] G30:=s30
  intro J46
  have bad:jW mine others u = 120 -> J46 (.bool true) G30:=by
   intro h
   simp -zeta only [J46,aX]
   have:=hQ _ s30.ch
   unfold jW at h
   rw [if_neg (by omega),if_neg (by rw [hv]; decide),if_neg hk1,<- hA,<- hB] at h
   rwa [h] at this
  have hnx:jW mine others u = if A.isSome = false then 120 else if B.isSome then 120 else if u.kind = 2 /\ sha u.hash ≠ (A.getD aK.zero).hash then 120 else 0:=by
   unfold jW
   rw [if_neg (by omega),if_neg (by rw [hv]; decide),if_neg hk1,<- hA,<- hB]
  rw [fN,aa]
  cases hAs:A.isSome with
  | false=>
   rw [if_pos hAs] at hnx
   rw [Bool.not_false,aX]
   exact bad hnx
  | true=>
   rw [if_neg (by rw [hAs]; decide)] at hQ hnx
   rw [Bool.not_true,aM]
   cases hBs:B.isSome with
   | true=>
    rw [if_pos hBs] at hnx
    exact bad hnx
   | false=>
    rw [if_neg (by rw [hBs]; decide)] at hQ
    simp -zeta only [J46,aM]
    refine ae (dh (i:=2) s30 rfl hu).1 ?_
    rw [bC,aa,aE]
    refine ⟨fun hk2=>?_,fun hk2=>?_⟩
    ·obtain ⟨x,hx,hxs⟩:=Gi hu (ar.own (i:=2) s30 rfl)
     refine ae hx ?_
     refine ae (jZ (si:=fS) (ie:=fY) (di:=iO) fu rfl dz rfl fZ rfl hxs) ?_
     refine ae (dh (i:=1) s30 rfl hf1).2.2.2.1 ?_
     refine JG s30 fun v37 G38 s38=>?_
     have hh:=hu.hash
     refine eI.use (xs:=[u.hash]) (bj.own (i:=0) s38 rfl).is (by simp) (by simp; omega) fun G40 c40=>?_
     have s40:=s38.tmp c40
     refine ⟨⟨(dh (i:=2) s40 rfl hf1).2.2.2.1,trivial⟩,?_⟩
     have e1:[u.hash].flatten = u.hash:=by simp
     rw [e1,uW (kd _) hf1.hash,aa,fg]
     refine ⟨fun h=>?_,fun h=>?_⟩
     ·rw [if_pos ⟨hk2,h⟩] at hQ
      exact hQ _ s40.ch
     ·rw [if_neg (fun hh=>hh.2 h)] at hQ
      exact hQ _ s40.ch
    ·rw [if_neg (fun hh=>hk2 hh.1)] at hQ
     exact hQ _ s30.ch
theorem oj {l:List aK} (h:∀ p ∈ l,p.ok):Esc.uni 36 (l.map aK.av) = true /\ kT (l.map aK.av) = true:=by
 refine ⟨by simp only [Esc.uni,List.all_map,List.all_eq_true]; intro p hp; simp [aK.sz (h p hp)],?_⟩
 induction l with
 | nil=>rfl
 | cons p l ih=>simp [kT,aK.okv,ih (fun p hp=>h p (by simp [hp]))]
end
end Go.Esc.M
set_option linter.unusedSimpArgs false
set_option linter.unusedVariables false
set_option maxRecDepth 20000
namespace Go.Esc.M
open Go Go.Esc
end Go.Esc.M
